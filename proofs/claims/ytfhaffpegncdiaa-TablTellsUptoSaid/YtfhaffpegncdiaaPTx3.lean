/- What functions of the given program come to, and that they do: written out of the translation by a program of this session; Lean checks it. -/
import Derived.Test.YtfhaffpegncdiaaPTx0
import Derived.Test.YtfhaffpegncdiaaTTablWalk
import Derived.Test.YtfhaffpegncdiaaPTx1
namespace Go.Proofs.Ytfhaffpegncdiaa.PT
open Go.RowKit Go.Proofs.YtfhaffpegncdiaaW.PrintWords Go.Proofs.YtfhaffpegncdiaaW.PrintLast Go.Proofs.YtfhaffpegncdiaaW.PrintMore
attribute [local go_sem] max2_int min2_int max_two min_two max_three min_three max_four min_four   -- for this text's walks alone
set_option linter.unusedVariables false
set_option linter.unusedSimpArgs false

-- by hand: tabl_rows

/-! ### tabl_Append: function 11 -/
def tabl_Append.f (l0 : List Int) (l1 : List (S24)) : Option (List Int × Bool) := (tabl_rows.f l1 1).bind fun bt137 => ((slices_Clone_byte_byte.f l0).bind fun t141 => (if t141.length + bt137.1.length < 140737488355328 then (some ((t141 ++ bt137.1), bt137.2)) else (none)))
set_option maxHeartbeats 8000000 in
set_option maxRecDepth 100000 in
theorem tabl_Append.calls (A0 : Option Addr) (c0 : Nat) (l0 : List Int) (A1 : Option Addr) (c1 : Nat) (l1 : List (S24)) (r1 : List Int) (r2 : Bool) (w : World) (hr0 : Kd.C (Kd.int .u8) w A0 l0.length l0) (hc0 : l0.length ≤ c0) (hr1 : Kd.C k24 w A1 l1.length l1) (hc1 : l1.length ≤ c1) (h : tabl_Append.f l0 l1 = some (r1, r2)) :
  Calls Try.prog 11 #[.slice A0 l0.length c0, .slice A1 l1.length c1] w fun e w' => ∃ v0_ : Value, e = .returned (.tuple #[v0_, .bool r2]) ∧ Kd.R (Kd.int .u8) 5 w' w.heap.size (fun _ => True) v0_ r1 ∧ Below w.heap.size w w' := by
 have HR0 := Zs.mk hr0
 have HC0 := Zs.mk hc0
 clear hr0 hc0
 have HR1 := Zs.mk hr1
 have HC1 := Zs.mk hc1
 clear hr1 hc1
 have HB := Zs.mk (Below.refl w.heap.size w)
 have H : ((tabl_rows.f l1 1).bind fun bt137 => ((slices_Clone_byte_byte.f l0).bind fun t141 => (if t141.length + bt137.1.length < 140737488355328 then (some ((t141 ++ bt137.1), bt137.2)) else (none)))) = some (r1, r2) := h
 clear h
 replace H := Option.bind_eq_some_iff.mp H
 obtain ⟨⟨t137, t138⟩, A30, H⟩ := H
 replace H : ((slices_Clone_byte_byte.f l0).bind fun t141 => (if t141.length + t137.length < 140737488355328 then (some ((t141 ++ t137), t138)) else (none))) = some (r1, r2) := H
 have A3 := Zs.mk A30
 clear A30
 replace H := Option.bind_eq_some_iff.mp H
 obtain ⟨t141, A40, H⟩ := H
 replace H : (if t141.length + t137.length < 140737488355328 then (some ((t141 ++ t137), t138)) else (none)) = some (r1, r2) := H
 have A4 := Zs.mk A40
 clear A40
 by_cases c5 : t141.length + t137.length < 140737488355328
 ·
  rw [if_pos c5] at H
  have LMc5 := Zs.mk c5
  clear c5
  obtain ⟨y144, hy144⟩ : ∃ y_ : List Int, y_ = (t141 ++ t137) := ⟨_, rfl⟩
  replace H : (some (y144, t138)) = some (r1, r2) := by first | (rw [hy144]; with_reducible exact H) | (have H2_ := (Option.bind_some _ _).symm.trans H; rw [hy144]; with_reducible exact H2_) | (have H2_ := (Option.bind_some _ _).symm.trans H; with_reducible exact H2_) | with_reducible exact H | (rw [hy144]; exact H) | exact H
  have Ny144 := Zs.mk hy144
  clear hy144
  simp only [Option.some.injEq, Prod.mk.injEq] at H
  obtain ⟨rfl, rfl⟩ := H
  go_enter Try.func11, Try.ntmps11
  go_wp2_with (first | ((with_reducible refine gate_callee (f := 32) rfl ?_); refine goesL_ (some 10) rfl rfl Try.func32 (by kernel_rfl) rfl #[.slice A1 l1.length c1, .int .i64 1] rfl (by (try simp only [List.map_toArray, List.map_cons, List.map_nil]); first | done | rfl | (simp only [List.length_drop, List.length_take]; rfl)) ?_; (with_reducible refine (tabl_rows.calls _ _ l1 1 t137 t138 _ ?side1 ?side2 A3.out).mono ?_); (case side1 => repeat (first | exact HR1.out | (with_reducible refine Kd.C_alloc ?_ _) | (with_reducible refine Kd.C_drewN ?_ _) | (with_reducible refine Kd.C_drew ?_))); (case side2 => exact HC1.out); rintro e w6 ⟨v139, rfl, ho0, hb⟩; refine ⟨_, rfl, ?_⟩; have n0_ := Zs.mk (Kd.R_lower ho0 (zbz (by repeat (first | (with_reducible first | exact HB.out | apply zba | apply zbn | apply zbd) | exact HB.out)))); have n1_ := Zs.mk (zbt (by repeat (first | (with_reducible first | exact HB.out | apply zba | apply zbn | apply zbd) | exact HB.out)) hb); clear HB; have HO140 := n0_; have HB := n1_; clear n0_ n1_; (try clear hb); (try clear hb2); (try clear hk); (try clear hi); (try clear hge); (try clear ho0)) | ((with_reducible refine gate_callee (f := 33) rfl ?_); refine goesL_ (some 14) rfl rfl Try.func33 (by kernel_rfl) rfl #[.slice A0 l0.length c0] rfl (by (try simp only [List.map_toArray, List.map_cons, List.map_nil]); first | done | rfl | (simp only [List.length_drop, List.length_take]; rfl)) ?_; (with_reducible refine (slices_Clone_byte_byte.calls _ _ l0 t141 _ ?side1 ?side2 A4.out).mono ?_); (case side1 => repeat (first | exact (Kd.C_below HR0.out HB.out) | (with_reducible refine Kd.C_alloc ?_ _) | (with_reducible refine Kd.C_drewN ?_ _) | (with_reducible refine Kd.C_drew ?_))); (case side2 => exact HC0.out); rintro e w7 ⟨v142, rfl, ho0, hb⟩; refine ⟨_, rfl, ?_⟩; have n0_ := Zs.mk (Kd.R_elder' (by (with_reducible repeat (first | apply Kd.R_alloc | apply Kd.R_drewN | apply Kd.R_drew)); exact HO140.out) (Kd.R_base ho0) hb); have n1_ := Zs.mk (Kd.R_lower (Kd.R_new' ho0 (Kd.R_lt (by (with_reducible repeat (first | apply Kd.R_alloc | apply Kd.R_drewN | apply Kd.R_drew)); exact HO140.out))) (zbz (by repeat (first | (with_reducible first | exact HB.out | apply zba | apply zbn | apply zbd) | exact HB.out)))); have n2_ := Zs.mk (zbt (by repeat (first | (with_reducible first | exact HB.out | apply zba | apply zbn | apply zbd) | exact HB.out)) hb); clear HO140; clear HB; have HO140 := n0_; have HO143 := n1_; have HB := n2_; clear n0_ n1_ n2_; (try clear hb); (try clear hb2); (try clear hk); (try clear hi); (try clear hge); (try clear ho0); obtain ⟨Ao9, co9, eo9⟩ := Kd.R_slice HO140.out; subst eo9) | ((with_reducible refine gate_builtin (b := .append) (xs := #[.tmp 14, .tmp 15]) rfl ?_); at_builtin; refine Kd.R_append_rows (Kd.int .u8) (w0 := w) w.heap.size rfl (.tmp 14) (.tmp 15) 25 5 (.int .u8 0) 1 rfl Try.underlying25 info5 rfl (by decide) (by omega) v142 t141 t137 _ _ _ (fun k_ => some k_ ≠ (.slice Ao9 t137.length co9 : Value).ownBlock) (fun _ => False) rfl rfl ?aO ?aR (fun _ _ h => h) (fun _ h => h.elim) ?aF ?aB ?aS ?aL ?_; (case aR => repeat (first | exact (Kd.R_reads' HO140.out).2.2 | (with_reducible refine Kd.C_alloc ?_ _) | (with_reducible refine Kd.C_drewN ?_ _) | (with_reducible refine Kd.C_drew ?_))); (case aB => exact (by repeat (first | (with_reducible first | exact HB.out | apply zba | apply zbn | apply zbd) | exact HB.out))); (case aF => exact (fun k_ hk => Kd.fresh' (Kd.R_lt (by (with_reducible repeat (first | apply Kd.R_alloc | apply Kd.R_drewN | apply Kd.R_drew)); exact HO140.out)) k_ hk)); (case aO => exact (by (with_reducible repeat (first | apply Kd.R_alloc | apply Kd.R_drewN | apply Kd.R_drew)); exact Kd.R_mono HO143.out (fun _ hk => hk.2))); (case aS => exact (zbz (by repeat (first | (with_reducible first | exact HB.out | apply zba | apply zbn | apply zbd) | exact HB.out)))); (case aL => have := LMc5.out; omega); intro v145 w8 ho hb hg hat; rw [← Ny144.out] at ho; have n0_ := Zs.mk (Kd.R_after (ok := (fun _ => True)) (by (with_reducible repeat (first | apply Kd.R_alloc | apply Kd.R_drewN | apply Kd.R_drew)); exact HO140.out) hg hat); have n1_ := Zs.mk (hb); have n2_ := Zs.mk (ho); clear HO140; clear HB; clear HO143; have HO140 := n0_; have HB := n1_; have HO146 := n2_; clear n0_ n1_ n2_; clear ho hb hg hat))
  all_goals first | (go_ret2; exact ⟨_, by first | rfl | (simp [zen, zes]; done) | (simp [zen, zes]; rfl) | (simp [*, zen, zes]; done) | (simp [*, zen, zes]; rfl), by (with_reducible repeat (first | apply Kd.R_alloc | apply Kd.R_drewN | apply Kd.R_drew)); exact Kd.R_mono HO146.out (fun _ hk => trivial), by repeat (first | (with_reducible first | exact HB.out | apply zba | apply zbn | apply zbd) | exact HB.out)⟩) | (exfalso; simp_all; done)
 rw [if_neg c5] at H
 exact absurd H (by simp)

/-! ### tabl_Ok: function 13 -/
def tabl_Ok.f (l0 : List (S24)) : Option (Bool) := (tabl_rows.f l0 1).bind fun bt147 => (some bt147.2)
set_option maxHeartbeats 8000000 in
set_option maxRecDepth 100000 in
theorem tabl_Ok.calls (A0 : Option Addr) (c0 : Nat) (l0 : List (S24)) (r : Bool) (w : World) (hr0 : Kd.C k24 w A0 l0.length l0) (hc0 : l0.length ≤ c0) (h : tabl_Ok.f l0 = some r) :
  Calls Try.prog 13 #[.slice A0 l0.length c0] w fun e w' => e = .returned (.bool r) ∧ Below w.heap.size w w' := by
 have HR0 := Zs.mk hr0
 have HC0 := Zs.mk hc0
 clear hr0 hc0
 have HB := Zs.mk (Below.refl w.heap.size w)
 have H : ((tabl_rows.f l0 1).bind fun bt147 => (some bt147.2)) = some r := h
 clear h
 replace H := Option.bind_eq_some_iff.mp H
 obtain ⟨⟨t147, t148⟩, A20, H⟩ := H
 replace H : (some t148) = some r := H
 have A2 := Zs.mk A20
 clear A20
 obtain rfl := Option.some.inj H
 go_enter Try.func13, Try.ntmps13
 go_wp2_with (first | ((with_reducible refine gate_callee (f := 32) rfl ?_); refine goesL_ (some 7) rfl rfl Try.func32 (by kernel_rfl) rfl #[.slice A0 l0.length c0, .int .i64 1] rfl (by (try simp only [List.map_toArray, List.map_cons, List.map_nil]); first | done | rfl | (simp only [List.length_drop, List.length_take]; rfl)) ?_; (with_reducible refine (tabl_rows.calls _ _ l0 1 t147 t148 _ ?side1 ?side2 A2.out).mono ?_); (case side1 => repeat (first | exact HR0.out | (with_reducible refine Kd.C_alloc ?_ _) | (with_reducible refine Kd.C_drewN ?_ _) | (with_reducible refine Kd.C_drew ?_))); (case side2 => exact HC0.out); rintro e w3 ⟨v149, rfl, ho0, hb⟩; refine ⟨_, rfl, ?_⟩; have n0_ := Zs.mk (Kd.R_lower ho0 (zbz (by repeat (first | (with_reducible first | exact HB.out | apply zba | apply zbn | apply zbd) | exact HB.out)))); have n1_ := Zs.mk (zbt (by repeat (first | (with_reducible first | exact HB.out | apply zba | apply zbn | apply zbd) | exact HB.out)) hb); clear HB; have HO150 := n0_; have HB := n1_; clear n0_ n1_; (try clear hb); (try clear hb2); (try clear hk); (try clear hi); (try clear hge); (try clear ho0)))
 all_goals first | (go_ret; exact ⟨by first | rfl | (simp [zen, zes]; done) | (simp [zen, zes]; rfl) | (simp [*, zen, zes]; done) | (simp [*, zen, zes]; rfl), by repeat (first | (with_reducible first | exact HB.out | apply zba | apply zbn | apply zbd) | exact HB.out)⟩) | (exfalso; simp_all; done)

/-- A state of type 91 at block g of W; what its slices lead to came in by w0. -/
def IsS91 (w0 W : World) (g : Nat) (f0 : List Int) (f1 : Bool) : Prop := ∃ A0 c0, W.heap[g]? = some (.cells #[.slice A0 f0.length c0, .bool f1] 91 (0, 0)) ∧ w0.heap.size ≤ g ∧ (Kd.C (Kd.int .u8) w0 A0 f0.length f0 ∧ f0.length ≤ c0)
theorem IsS91.grown {w0 W : World} {g : Nat} {f0 : List Int} {f1 : Bool} {W1 : World} {row : Option Nat} (h : IsS91 w0 W g f0 f1) (hw : W.grownBy W1 row) (hne : some g ≠ row) : IsS91 w0 W1 g f0 f1 := by
 obtain ⟨A0, c0, hb, hg, hr0⟩ := h
 exact ⟨A0, c0, blk_grown hb hw hne, hg, hr0⟩
theorem IsS91.kept {w0 W : World} {g : Nat} {f0 : List Int} {f1 : Bool} {W1 : World} {S : Nat → Prop} (h : IsS91 w0 W g f0 f1) (hk : Kept W W1 S) (hne : ¬ S g) : IsS91 w0 W1 g f0 f1 := by
 obtain ⟨A0, c0, hb, hg, hr0⟩ := h
 exact ⟨A0, c0, blk_kept hb hk hne, hg, hr0⟩
theorem IsS91.below {w0 W : World} {g : Nat} {f0 : List Int} {f1 : Bool} {W1 : World} (h : IsS91 w0 W g f0 f1) (hw : Below W.heap.size W W1) : IsS91 w0 W1 g f0 f1 := h.grown (grown_of_below hw none) (by simp)
theorem IsS91.alloc {w0 W : World} {g : Nat} {f0 : List Int} {f1 : Bool} (h : IsS91 w0 W g f0 f1) (o : Obj) : IsS91 w0 (W.alloc o) g f0 f1 := h.below (zba (Below.refl _ _) o)
theorem IsS91.drewN {w0 W : World} {g : Nat} {f0 : List Int} {f1 : Bool} (h : IsS91 w0 W g f0 f1) (m : Nat) : IsS91 w0 (W.drewN m) g f0 f1 := h
theorem IsS91.drew {w0 W : World} {g : Nat} {f0 : List Int} {f1 : Bool} (h : IsS91 w0 W g f0 f1) : IsS91 w0 W.drew g f0 f1 := h
theorem IsS91.at_ {w0 W : World} {g : Nat} {f0 : List Int} {f1 : Bool} {w' : World} {m : Nat} (hq : W.drewN m = w') (h : IsS91 w0 W g f0 f1) : IsS91 w0 w' g f0 f1 := by subst hq; exact IsS91.drewN h m
theorem IsS91.apart {w0 W : World} {g : Nat} {f0 : List Int} {f1 : Bool} {α : Type} {d : Kd α} {e : Nat} {base : Nat} {ok : Nat → Prop} {v : Value} {xs : List α} (h : IsS91 w0 W g f0 f1) (ho : d.R e W base ok v xs) (ht : ∀ q, q ∈ e :: d.E → q ≠ 91) : d.R e W base (fun k => ok k ∧ k ≠ g) v xs := by
 obtain ⟨A0, c0, hb, hg, hr0⟩ := h
 exact Kd.R_types ho hb ht
theorem IsS91.own_ne {w0 W : World} {g : Nat} {f0 : List Int} {f1 : Bool} {α : Type} {d : Kd α} {e : Nat} {base : Nat} {ok : Nat → Prop} {v : Value} {xs : List α} (h : IsS91 w0 W g f0 f1) (ho : d.R e W base ok v xs) (ht : e ≠ 91) : some g ≠ v.ownBlock := by
 obtain ⟨A0, c0, hb, hg, hr0⟩ := h
 exact Kd.R_ne ho hb ht
theorem IsS91.lt {w0 W : World} {g : Nat} {f0 : List Int} {f1 : Bool} (h : IsS91 w0 W g f0 f1) : g < W.heap.size := by
 obtain ⟨A0, c0, hb, hg, hr0⟩ := h
 exact blk_lt hb
theorem IsS91.ge {w0 W : World} {g : Nat} {f0 : List Int} {f1 : Bool} (h : IsS91 w0 W g f0 f1) : w0.heap.size ≤ g := by
 obtain ⟨A0, c0, hb, hg, hr0⟩ := h
 exact hg
theorem IsS91.ne_blk {w0 W : World} {g : Nat} {f0 : List Int} {f1 : Bool} {a : Nat} {cs : Array Value} {t : TypeId} {fr : Nat × Nat} (h : IsS91 w0 W g f0 f1) (hb2 : W.heap[a]? = some (.cells cs t fr)) (ht : t ≠ 91) : g ≠ a := by
 obtain ⟨A0, c0, hb, hg, hr0⟩ := h
 rintro rfl
 rw [hb] at hb2
 injection hb2 with hb2
 injection hb2 with _ ht2
 exact ht ht2.symm
theorem IsS91.far {w0 W : World} {g : Nat} {f0 : List Int} {f1 : Bool} {p : Addr} (h : IsS91 w0 W g f0 f1) (hne : g ≠ p.block) (u : Value) : IsS91 w0 (W.setCell p u) g f0 f1 := by
 obtain ⟨A0, c0, hb, hg, hr0⟩ := h
 exact ⟨A0, c0, blk_far hb hne u, hg, hr0⟩
theorem cellS91_0 {W : World} {g : Nat} {A0 : Option Addr} {c0 : Nat} {f0 : List Int} {f1 : Bool} (h : W.heap[g]? = some (.cells #[.slice A0 f0.length c0, .bool f1] 91 (0, 0))) : W.cell? ⟨g, 0, none⟩ = some (.slice A0 f0.length c0) := (zbc h 0).trans rfl
theorem cellS91_1 {W : World} {g : Nat} {A0 : Option Addr} {c0 : Nat} {f0 : List Int} {f1 : Bool} (h : W.heap[g]? = some (.cells #[.slice A0 f0.length c0, .bool f1] 91 (0, 0))) : W.cell? ⟨g, 1, none⟩ = some (.bool f1) := (zbc h 1).trans rfl
theorem IsS91.set_1 {w0 W : World} {g : Nat} {f0 : List Int} {f1 : Bool} (h : IsS91 w0 W g f0 f1) (x : Bool) : IsS91 w0 (W.setCell ⟨g, 1, none⟩ (.bool x)) g f0 x := by
 obtain ⟨A0, c0, hb, hg, hr0⟩ := h
 exact ⟨A0, c0, by simpa using blk_set hb 1 (.bool x), hg, hr0⟩
/-- The same, over what this very call has made. -/
def IsB91 (w0 W : World) (g : Nat) (f0 : List Int) (f1 : Bool) : Prop := ∃ wb : World, w0.heap.size ≤ wb.heap.size ∧ Below wb.heap.size wb W ∧ IsS91 wb W g f0 f1
theorem IsB91.below {w0 W : World} {g : Nat} {f0 : List Int} {f1 : Bool} (h : IsB91 w0 W g f0 f1) {W1 : World} (hw : Below W.heap.size W W1) : IsB91 w0 W1 g f0 f1 := by
 obtain ⟨wb_, hs_, hv_, hi_⟩ := h
 exact ⟨wb_, hs_, zbt hv_ hw, hi_.below hw⟩
theorem IsB91.alloc {w0 W : World} {g : Nat} {f0 : List Int} {f1 : Bool} (h : IsB91 w0 W g f0 f1) (o : Obj) : IsB91 w0 (W.alloc o) g f0 f1 := by
 obtain ⟨wb_, hs_, hv_, hi_⟩ := h
 exact ⟨wb_, hs_, zba hv_ o, hi_.alloc o⟩
theorem IsB91.drewN {w0 W : World} {g : Nat} {f0 : List Int} {f1 : Bool} (h : IsB91 w0 W g f0 f1) (m : Nat) : IsB91 w0 (W.drewN m) g f0 f1 := by
 obtain ⟨wb_, hs_, hv_, hi_⟩ := h
 exact ⟨wb_, hs_, zbn hv_ m, hi_.drewN m⟩
theorem IsB91.drew {w0 W : World} {g : Nat} {f0 : List Int} {f1 : Bool} (h : IsB91 w0 W g f0 f1) : IsB91 w0 W.drew g f0 f1 := by
 obtain ⟨wb_, hs_, hv_, hi_⟩ := h
 exact ⟨wb_, hs_, zbd hv_, hi_.drew⟩
theorem IsB91.at_ {w0 W : World} {g : Nat} {f0 : List Int} {f1 : Bool} {w' : World} {m : Nat} (hq : W.drewN m = w') (h : IsB91 w0 W g f0 f1) : IsB91 w0 w' g f0 f1 := by subst hq; exact IsB91.drewN h m
theorem IsB91.apart {w0 W : World} {g : Nat} {f0 : List Int} {f1 : Bool} {α : Type} {d : Kd α} {e : Nat} {base : Nat} {ok : Nat → Prop} {v : Value} {xs : List α} (h : IsB91 w0 W g f0 f1) (ho : d.R e W base ok v xs) (ht : ∀ q, q ∈ e :: d.E → q ≠ 91) : d.R e W base (fun k => ok k ∧ k ≠ g) v xs := by
 obtain ⟨wb_, hs_, hv_, hi_⟩ := h
 exact hi_.apart ho ht
theorem IsB91.own_ne {w0 W : World} {g : Nat} {f0 : List Int} {f1 : Bool} {α : Type} {d : Kd α} {e : Nat} {base : Nat} {ok : Nat → Prop} {v : Value} {xs : List α} (h : IsB91 w0 W g f0 f1) (ho : d.R e W base ok v xs) (ht : e ≠ 91) : some g ≠ v.ownBlock := by
 obtain ⟨wb_, hs_, hv_, hi_⟩ := h
 exact hi_.own_ne ho ht
theorem IsB91.lt {w0 W : World} {g : Nat} {f0 : List Int} {f1 : Bool} (h : IsB91 w0 W g f0 f1) : g < W.heap.size := by
 obtain ⟨wb_, hs_, hv_, hi_⟩ := h
 exact hi_.lt
theorem IsB91.ge {w0 W : World} {g : Nat} {f0 : List Int} {f1 : Bool} (h : IsB91 w0 W g f0 f1) : w0.heap.size ≤ g := by
 obtain ⟨wb_, hs_, hv_, hi_⟩ := h
 exact Nat.le_trans hs_ hi_.ge
theorem IsB91.ne_blk {w0 W : World} {g : Nat} {f0 : List Int} {f1 : Bool} {a : Nat} {cs : Array Value} {t : TypeId} {fr : Nat × Nat} (h : IsB91 w0 W g f0 f1) (hb2 : W.heap[a]? = some (.cells cs t fr)) (ht : t ≠ 91) : g ≠ a := by
 obtain ⟨wb_, hs_, hv_, hi_⟩ := h
 exact hi_.ne_blk hb2 ht
theorem IsB91.step {w0 W W1 : World} {g : Nat} {f0 : List Int} {f1 : Bool} (hB : Below w0.heap.size w0 W) (hs : ∃ wb : World, w0.heap.size ≤ wb.heap.size ∧ Below wb.heap.size wb W ∧ wb.heap.size ≤ g ∧ Below wb.heap.size wb W1 ∧ IsS91 wb W1 g f0 f1) (hk : KeepBut W W1 g none) : IsB91 w0 W1 g f0 f1 ∧ Below w0.heap.size w0 W1 := by
 obtain ⟨wb, h1, h2, h3, h4, h5⟩ := hs
 refine ⟨⟨wb, h1, h4, h5⟩, h4.os.trans (h2.os.symm.trans hB.os), h4.tape.trans (h2.tape.symm.trans hB.tape), h4.output.trans (h2.output.symm.trans hB.output), Nat.le_trans hB.size hk.1, fun k hk' => ?_⟩
 have hz := hB.size
 exact (hk.2 k (by omega) (by omega) (by simp)).trans (hB.block k hk')

/-! ### octs_From: function 44 -/
def octs_From.f (l0 : List Int) : Option (List Int × Bool) := some (l0, false)
set_option maxHeartbeats 8000000 in
set_option maxRecDepth 100000 in
theorem octs_From.calls (A0 : Option Addr) (c0 : Nat) (l0 : List Int) (r1 : List Int) (r2 : Bool) (w0 w : World) (hB : Below w0.heap.size w0 w) (hr0 : Kd.C (Kd.int .u8) w0 A0 l0.length l0) (hc0 : l0.length ≤ c0) (h : octs_From.f l0 = some (r1, r2)) :
  Calls Try.prog 44 #[.slice A0 l0.length c0] w fun e w' => ∃ g_ : Nat, e = .returned (.pointer (some ⟨g_, 0, none⟩)) ∧ IsS91 w0 w' g_ r1 r2 ∧ Below w0.heap.size w0 w' ∧ Below w.heap.size w w' ∧ w.heap.size ≤ g_ := by
 have hu91 := Try.underlying91
 have HR0 := Zs.mk hr0
 have HC0 := Zs.mk hc0
 clear hr0 hc0
 have HBW := Zs.mk (Below.refl w.heap.size w)
 have HW0 := Zs.mk hB.size
 have HB := Zs.mk hB
 clear hB
 have H : (some (l0, false)) = some (r1, r2) := h
 clear h
 simp only [Option.some.injEq, Prod.mk.injEq] at H
 obtain ⟨rfl, rfl⟩ := H
 go_enter Try.func44, Try.ntmps44
 go_wp2_with (first | ((with_reducible refine gate_dst (N := 5) rfl ?_); refine box_event ?hg (N := 5) ?hd (cs := #[.slice A0 l0.length c0, .bool false]) (t := 91) ?hr ?_; (case hd => rfl); (case hg => rfl); (case hr => first | (go_simp; done) | (go_simp; rfl)); intro gb151 hg w2 hbox hb; have n0_ := Zs.mk (zbt HBW.out hb); have n1_ := Zs.mk (zbt (by repeat (first | (with_reducible first | exact HB.out | apply zba | apply zbn | apply zbd) | exact HB.out)) hb); have n2_ := Zs.mk (hbox); have n3_ := Zs.mk ((by rw [hg]; exact (zbz (by repeat (first | (with_reducible first | exact HBW.out | apply zba | apply zbn | apply zbd) | exact HBW.out))) : w.heap.size ≤ gb151)); have n4_ := Zs.mk ((Nat.le_trans HW0.out (by rw [hg]; exact (zbz (by repeat (first | (with_reducible first | exact HBW.out | apply zba | apply zbn | apply zbd) | exact HBW.out))) : w.heap.size ≤ gb151) : w0.heap.size ≤ gb151)); clear HBW; clear HB; have HBW := n0_; have HB := n1_; have BK151 := n2_; have GW151 := n3_; have GE151 := n4_; clear n0_ n1_ n2_ n3_ n4_; clear hb hbox hg))
 all_goals first | (go_ret; exact ⟨_, rfl, (show IsS91 w0 _ gb151 l0 false from ⟨_, _, by (with_reducible repeat (first | refine blk_drewN ?_ _ | refine blk_drew ?_ | refine blk_alloc ?_ _)); exact BK151.out, GE151.out, ⟨HR0.out, HC0.out⟩⟩), by repeat (first | (with_reducible first | exact HB.out | apply zba | apply zbn | apply zbd | refine zbs ?_ GE151.out) | exact HB.out), by repeat (first | (with_reducible first | exact HBW.out | apply zba | apply zbn | apply zbd | refine zbs ?_ GW151.out) | exact HBW.out), GW151.out⟩) | (exfalso; simp_all; done)
/-! ### octs_number: function 61 -/
def octs_number.l0 : Nat → Int → List Int → Int → Int → Option (Int)
 | 0, _, _, _, _ => none
 | k + 1, x3, x6, x7, x8 => if x8 < x7 then (if 0 ≤ x8 then (if x8 < (x6.length : Int) then (octs_number.l0 k (Go.bits .or .u64 (IntKind.u64.wrap (x3 * 256)) (IntKind.u64.wrap (rd x6 x8))) x6 x7 (wrap64 (x8 + 1))) else (none)) else (none)) else (some x3)
def octs_number.f (k : Nat) (l0 : List Int) : Option (Int) := octs_number.l0 k 0 l0 (l0.length : Int) 0
set_option maxHeartbeats 8000000 in
set_option maxRecDepth 100000 in
theorem octs_number.calls (k : Nat) (A0 : Option Addr) (c0 : Nat) (l0 : List Int) (r : Int) (w : World) (hr0 : Kd.C (Kd.int .u8) w A0 l0.length l0) (hc0 : l0.length ≤ c0) (h : octs_number.f k l0 = some r) :
  Calls Try.prog 61 #[.slice A0 l0.length c0] w fun e w' => e = .returned (.int .u64 r) ∧ Drawn0 w w' := by
 have HR0 := Zs.mk hr0
 have HC0 := Zs.mk hc0
 clear hr0 hc0
 have H : (octs_number.l0 k 0 l0 (l0.length : Int) 0) = some r := h
 clear h
 have H' := Zs.mk H
 clear H
 go_enter Try.func61, Try.ntmps61
 go_wp2
 go_loopg [3, 8] k (fun kq v3 v8 w' => ∃ (x3_1 : Int) (x8_1 : Int), v3 = .int .u64 x3_1 ∧ v8 = .int .i64 x8_1 ∧ Zs (octs_number.l0 kq x3_1 l0 (l0.length : Int) x8_1 = some r) ∧ Zs (kq ≤ k) ∧ Drawn0 w w')
 case atStart => exact ⟨(0), (0), (by first | rfl | (simp; done) | (simp [*]; done)), (by first | rfl | (simp; done) | (simp [*]; done)), H', ⟨Nat.le_refl _⟩, by repeat (first | exact Drawn0.refl _ | apply Drawn0.step)⟩
 case round =>
  clear H'
  obtain ⟨x3_1, x8_1, rfl, rfl, HA, HK1, ⟨m1, rfl⟩⟩ := hrel
  cases gk with
  | zero => exact absurd HA.out (by simp [octs_number.l0])
  | succ k1 =>
   have H := HA.out
   clear HA
   simp only [octs_number.l0] at H
   by_cases c2 : x8_1 < (l0.length : Int)
   ·
    rw [if_pos c2] at H
    have c2b0 : decide (x8_1 < (l0.length : Int)) = true := decide_eq_true c2
    clear c2
    by_cases c3 : 0 ≤ x8_1
    ·
     rw [if_pos c3] at H
     have c3b0 : decide (0 ≤ x8_1) = true := decide_eq_true c3
     clear c3
     by_cases c4 : x8_1 < (l0.length : Int)
     ·
      rw [if_pos c4] at H
      have c4b0 : decide (x8_1 < (l0.length : Int)) = true := decide_eq_true c4
      clear c4
      have H' := Zs.mk H
      clear H
      have p152 : 0 ≤ (x8_1 : Int) := of_decide_eq_true (by first | (with_reducible assumption) | assumption)
      have q152 : x8_1 < (l0.length : Int) := of_decide_eq_true (by first | (with_reducible assumption) | assumption)
      obtain ⟨ad152, e152, hx152_0⟩ := Kd.at_int HR0.out x8_1 p152 q152
      cases e152
      replace p152 := eq_true p152
      replace q152 := eq_true q152
      go_wp2
      go_roundg k1
      case measure => have := HK1.out; omega
      case rel => exact ⟨(Go.bits .or .u64 (IntKind.u64.wrap (x3_1 * 256)) (IntKind.u64.wrap (rd l0 x8_1))), (wrap64 (x8_1 + 1)), (by first | rfl | (simp; done) | (simp [*]; done)), (by first | rfl | (simp; done) | (simp [*]; done)), H', ⟨by have := HK1.out; omega⟩, by repeat (first | exact Drawn0.refl _ | apply Drawn0.step)⟩
     rw [if_neg c4] at H
     exact absurd H (by simp)
    rw [if_neg c3] at H
    exact absurd H (by simp)
   rw [if_neg c2] at H
   have c2b0 : decide (x8_1 < (l0.length : Int)) = false := decide_eq_false c2
   clear c2
   obtain rfl := Option.some.inj H
   go_wp2
   all_goals first | (go_ret; exact ⟨by first | rfl | (simp; done) | (simp [*]; done), by repeat (first | exact Drawn0.refl _ | apply Drawn0.step)⟩) | (exfalso; simp_all; done)

/-! ### octs_In_take: function 62 -/
def octs_In_take.f (s0_0 : List Int) (s0_1 : Bool) (a1 : Int) : Option (List Int × List Int × Bool) :=
 if s0_1 = true then some ([], [], true) else if (s0_0.length : Int) < a1 then some ([], [], true) else
 if 0 ≤ a1 then (if s0_0.length < 140737488355328 then some (s0_0.take a1.toNat, s0_0.drop a1.toNat, false) else none) else none
theorem S91_wipe {w0 W : World} {g : Nat} {f0 : List Int} {f1 : Bool} (h : IsS91 w0 W g f0 f1) : IsS91 w0 ((W.setCell ⟨g, 0, none⟩ (.slice none 0 0)).setCell ⟨g, 1, none⟩ (.bool true)) g [] true := by
 obtain ⟨A0, c0, hb, hg, hr0⟩ := h
 exact ⟨none, 0, by simpa using blk_set (blk_set hb 0 (.slice none 0 0)) 1 (.bool true), hg, Kd.C_nil _ _, Nat.zero_le _⟩
theorem S91_put {w0 W : World} {g : Nat} {f0 : List Int} {f1 : Bool} (h : IsS91 w0 W g f0 f1) (A : Option Addr) (l : List Int) (n c : Nat) (hn : n = l.length) (hr : Kd.C (Kd.int .u8) w0 A l.length l) (hc : l.length ≤ c) : IsS91 w0 (W.setCell ⟨g, 0, none⟩ (.slice A n c)) g l f1 := by
 subst hn
 obtain ⟨A0, c0, hb, hg, hr0⟩ := h
 exact ⟨A, c, by simpa using blk_set hb 0 (.slice A l.length c), hg, hr, hc⟩
set_option maxHeartbeats 8000000 in
set_option maxRecDepth 100000 in
theorem octs_In_take.calls (g : Nat) (s0_0 : List Int) (s0_1 : Bool) (a1 : Int) (r1 : List Int) (r2 : List Int) (r3 : Bool) (w0 w : World) (hI : IsS91 w0 w g s0_0 s0_1) (hB : Below w0.heap.size w0 w) (h : octs_In_take.f s0_0 s0_1 a1 = some (r1, r2, r3)) :
  Calls Try.prog 62 #[.pointer (some ⟨g, 0, none⟩), .int .u64 a1] w fun e w' => ∃ v0_ : Value, e = .returned (v0_) ∧ Kd.R (Kd.int .u8) 5 w' w.heap.size (fun _ => True) v0_ r1 ∧ IsS91 w0 w' g r2 r3 ∧ Below w0.heap.size w0 w' ∧ KeepBut w w' g none := by
 have HI0 := Zs.mk hI
 have HK := Zs.mk (KeepBut.refl w g none)
 have HL := Zs.mk hB.size
 have HB := Zs.mk hB
 obtain ⟨ASz, cSz, HGz, hgz, HSz, HCz⟩ := hI
 have hcz_0 := cellS91_0 HGz
 have hcz_1 := cellS91_1 HGz
 have hfz_0 := zbf HGz 0
 have hfz_1 := zbf HGz 1
 have HM := Zs.mk (Kd.C_max HSz)
 have HR := Zs.mk HSz
 have HG := Zs.mk hgz
 clear hgz HSz HGz hB
 unfold octs_In_take.f at h
 cases s0_1 with
 | true =>
  rw [if_pos rfl] at h
  simp only [Option.some.injEq, Prod.mk.injEq] at h
  obtain ⟨rfl, rfl, rfl⟩ := h
  go_enter Try.func62, Try.ntmps62
  go_wp2
  all_goals first | (go_ret; exact ⟨_, rfl, Kd.R_nil _ _ _ _ _, (S91_wipe HI0.out), (zbs (zbs HB.out HG.out) HG.out), (KeepBut.set_ (KeepBut.set_ HK.out 0 _) 1 _)⟩) | (exfalso; simp_all; done)
 | false =>
  rw [if_neg (by simp)] at h
  have hm := HM.out
  by_cases c1 : (s0_0.length : Int) < a1
  ·
   rw [if_pos c1] at h
   simp only [Option.some.injEq, Prod.mk.injEq] at h
   obtain ⟨rfl, rfl, rfl⟩ := h
   go_enter Try.func62, Try.ntmps62
   go_wp2
   all_goals first | (go_ret; exact ⟨_, rfl, Kd.R_nil _ _ _ _ _, (S91_wipe HI0.out), (zbs (zbs HB.out HG.out) HG.out), (KeepBut.set_ (KeepBut.set_ HK.out 0 _) 1 _)⟩) | (exfalso; simp_all; done)
  rw [if_neg c1] at h
  by_cases c2 : 0 ≤ a1
  ·
   rw [if_pos c2] at h
   by_cases c3 : s0_0.length < 140737488355328
   ·
    rw [if_pos c3] at h
    simp only [Option.some.injEq, Prod.mk.injEq] at h
    obtain ⟨rfl, rfl, rfl⟩ := h
    obtain ⟨n, rfl⟩ := Int.eq_ofNat_of_zero_le c2
    have hn : n ≤ s0_0.length := by omega
    have hnc : n ≤ cSz := Nat.le_trans hn HCz
    have c1' : ¬ (s0_0.length < n) := by omega
    clear c1 c2
    have hlt : (s0_0.take n).length = n := by rw [List.length_take]; omega
    have HT : ∀ W : World, Below w0.heap.size w0 W → Calls Try.prog 33 #[.slice ASz n cSz] W fun e w' => ∃ v0_ : Value, e = .returned (v0_) ∧ Kd.R (Kd.int .u8) 5 w' W.heap.size (fun _ => True) v0_ (s0_0.take n) ∧ Below W.heap.size W w' := fun W hW => by
     have hr := Kd.C_below (Kd.C_take HR.out hn) hW
     have := slices_Clone_byte_byte.calls ASz cSz (s0_0.take n) (s0_0.take n) W hr (by omega) (by unfold slices_Clone_byte_byte.f; rw [if_pos (by omega)])
     rwa [hlt] at this
    clear hlt
    have HC := Zs.mk HT
    have HD := Zs.mk (Kd.C_drop HR.out hn HCz)
    have HZ := Zs.mk HCz
    clear HT HCz
    go_enter Try.func62, Try.ntmps62
    go_wp2_with fail
    refine (HC.out _ HB.out).mono ?_
    rintro e w1 ⟨v0, rfl, ho, hb⟩
    have hgl := IsS91.lt HI0.out
    have hc0 := (hb.cell (p := ⟨g, 0, none⟩) hgl).trans hcz_0
    have hf0 := (hb.frozen (p := ⟨g, 0, none⟩) hgl).trans hfz_0
    have HI1 := Zs.mk (IsS91.below HI0.out hb)
    have HB1 := Zs.mk (zbt HB.out hb)
    have HO := Zs.mk ho
    have HN := Zs.mk (IsS91.own_ne HI1.out ho (by decide))
    have HK1 := Zs.mk (KeepBut.trans HK.out (KeepBut.of_below hb g none) (.inl rfl))
    have hz := HZ.out
    clear hcz_0 hcz_1 hfz_0 hfz_1 hgl hb ho HB HK HC HI0
    obtain ⟨A1_, c1_, HG1, hg1_, hr1_⟩ := HI1.out
    have HS := Zs.mk (fun u : Value => Kd.R_set HO.out HG1 (by decide) 0 u)
    clear HG1 hg1_ hr1_
    have hl : s0_0.length - n = (s0_0.drop n).length := (List.length_drop).symm
    have HLn := Zs.mk hl
    clear hl
    by_cases hcn : cSz = n
    ·
     have HE := Zs.mk hcn
     have HD2 := HD.out
     rw [if_pos hcn] at HD2
     have HD3 := Zs.mk HD2
     clear HD2
     go_wp2
     all_goals first | (go_ret; exact ⟨_, rfl, HS.out _, S91_put HI1.out _ _ _ _ HLn.out HD3.out (by show (s0_0.drop n).length ≤ _; rw [← HLn.out]; omega), zbs HB1.out HG.out, KeepBut.set_ HK1.out 0 _⟩) | (exfalso; simp_all; done)
    have HD2 := HD.out
    rw [if_neg hcn] at HD2
    simp only [show (Kd.int .u8).sz = 1 from rfl, Nat.mul_one] at HD2
    have HD3 := Zs.mk HD2
    clear HD2
    go_wp2
    all_goals first | (go_ret; exact ⟨_, rfl, HS.out _, S91_put HI1.out _ _ _ _ HLn.out HD3.out (by show (s0_0.drop n).length ≤ _; rw [← HLn.out]; omega), zbs HB1.out HG.out, KeepBut.set_ HK1.out 0 _⟩) | (exfalso; simp_all; done)
   rw [if_neg c3] at h
   exact absurd h (by simp)
  rw [if_neg c2] at h
  exact absurd h (by simp)
/-! ### octs_In_Int: function 45 -/
def octs_In_Int.f (k : Nat) (s0_0 : List Int) (s0_1 : Bool) (a1 : Int) : Option (Int × List Int × Bool) := (octs_width.f a1).bind fun t153 => ((octs_In_take.f s0_0 s0_1 (IntKind.u64.wrap (t153))).bind fun bt154 => ((octs_number.f k bt154.1).bind fun t159 => (some (t159, bt154.2.1, bt154.2.2))))
set_option maxHeartbeats 8000000 in
set_option maxRecDepth 100000 in
theorem octs_In_Int.calls (k : Nat) (g : Nat) (s0_0 : List Int) (s0_1 : Bool) (a1 : Int) (r1 : Int) (r2 : List Int) (r3 : Bool) (w0 w : World) (hI : IsS91 w0 w g s0_0 s0_1) (hB : Below w0.heap.size w0 w) (h : octs_In_Int.f k s0_0 s0_1 a1 = some (r1, r2, r3)) :
  Calls Try.prog 45 #[.pointer (some ⟨g, 0, none⟩), .int .i64 a1] w fun e w' => e = .returned (.int .u64 r1) ∧ IsS91 w0 w' g r2 r3 ∧ Below w0.heap.size w0 w' ∧ KeepBut w w' g none := by
 have HI0 := Zs.mk hI
 have HK := Zs.mk (KeepBut.refl w g none)
 have HL := Zs.mk hB.size
 clear hI
 have HW0 := Zs.mk hB.size
 have HB := Zs.mk hB
 clear hB
 have H : ((octs_width.f a1).bind fun t153 => ((octs_In_take.f s0_0 s0_1 (IntKind.u64.wrap (t153))).bind fun bt154 => ((octs_number.f k bt154.1).bind fun t159 => (some (t159, bt154.2.1, bt154.2.2))))) = some (r1, r2, r3) := h
 clear h
 replace H := Option.bind_eq_some_iff.mp H
 obtain ⟨t153, A30, H⟩ := H
 replace H : ((octs_In_take.f s0_0 s0_1 (IntKind.u64.wrap (t153))).bind fun bt154 => ((octs_number.f k bt154.1).bind fun t159 => (some (t159, bt154.2.1, bt154.2.2)))) = some (r1, r2, r3) := H
 have A3 := Zs.mk A30
 clear A30
 replace H := Option.bind_eq_some_iff.mp H
 obtain ⟨⟨t154, t157, t158⟩, A40, H⟩ := H
 replace H : ((octs_number.f k t154).bind fun t159 => (some (t159, t157, t158))) = some (r1, r2, r3) := H
 have A4 := Zs.mk A40
 clear A40
 replace H := Option.bind_eq_some_iff.mp H
 obtain ⟨t159, A50, H⟩ := H
 replace H : (some (t159, t157, t158)) = some (r1, r2, r3) := H
 have A5 := Zs.mk A50
 clear A50
 simp only [Option.some.injEq, Prod.mk.injEq] at H
 obtain ⟨rfl, rfl, rfl⟩ := H
 go_enter Try.func45, Try.ntmps45
 go_wp2_with (first | ((with_reducible refine gate_callee (f := 60) rfl ?_); refine goesL_ (some 7) rfl rfl Try.func60 (by kernel_rfl) rfl #[.int .i64 a1] rfl (by (try simp only [List.map_toArray, List.map_cons, List.map_nil]); first | done | rfl | (simp only [List.length_drop, List.length_take]; rfl)) ?_; (with_reducible refine (octs_width.calls a1 t153 _ A3.out).mono ?_); rintro e w6 ⟨rfl, hb⟩; refine ⟨_, rfl, ?_⟩; have n0_ := Zs.mk (IsS91.below (by repeat (first | (with_reducible first | exact HI0.out | apply IsS91.alloc | apply IsS91.drewN | apply IsS91.drew | apply IsS91.set_1) | exact HI0.out)) hb); have n1_ := Zs.mk (KeepBut.trans (by repeat (first | (with_reducible first | exact HK.out | apply KeepBut.set_ | apply keep_drewN | apply keep_drew | apply keep_alloc) | exact HK.out)) (KeepBut.of_below hb g none) (.inl rfl)); have n2_ := Zs.mk (zbt (by repeat (first | (with_reducible first | exact HB.out | apply zba | apply zbn | apply zbd | refine zbs ?_ (IsS91.ge HI0.out)) | exact HB.out)) hb); clear HI0; clear HK; clear HB; have HI0 := n0_; have HK := n1_; have HB := n2_; clear n0_ n1_ n2_; (try clear hb); (try clear hb2); (try clear hk); (try clear hi); (try clear hge)) | ((with_reducible refine gate_callee (f := 62) rfl ?_); refine goesL_ (some 9) rfl rfl Try.func62 (by kernel_rfl) rfl #[.pointer (some ⟨g, 0, none⟩), .int .u64 (IntKind.u64.wrap (t153))] rfl (by (try simp only [List.map_toArray, List.map_cons, List.map_nil]); first | done | rfl | (simp only [List.length_drop, List.length_take]; rfl)) ?_; (with_reducible refine (octs_In_take.calls g s0_0 s0_1 (IntKind.u64.wrap (t153)) t154 t157 t158 w0 _ ?side1 ?side2 A4.out).mono ?_); (case side1 => repeat (first | (with_reducible first | exact HI0.out | apply IsS91.alloc | apply IsS91.drewN | apply IsS91.drew | apply IsS91.set_1) | exact HI0.out)); (case side2 => repeat (first | (with_reducible first | exact HB.out | apply zba | apply zbn | apply zbd | refine zbs ?_ (IsS91.ge HI0.out)) | exact HB.out)); rintro e w7 ⟨v155, rfl, ho0, hi, hb, hk⟩; refine ⟨_, rfl, ?_⟩; have n0_ := Zs.mk (Kd.R_lower ho0 (keep_size (w := w) (g := g) (row := none) (by repeat (first | (with_reducible first | exact HK.out | apply KeepBut.set_ | apply keep_drewN | apply keep_drew | apply keep_alloc) | exact HK.out)))); have n1_ := Zs.mk (KeepBut.trans (by repeat (first | (with_reducible first | exact HK.out | apply KeepBut.set_ | apply keep_drewN | apply keep_drew | apply keep_alloc) | exact HK.out)) hk (.inl rfl)); have n2_ := Zs.mk (hb); have n3_ := Zs.mk (hi); clear HK; clear HB; clear HI0; have HO156 := n0_; have HK := n1_; have HB := n2_; have HI0 := n3_; clear n0_ n1_ n2_ n3_; (try clear hb); (try clear hb2); (try clear hk); (try clear hi); (try clear hge); (try clear ho0); obtain ⟨Ao8, co8, eo8⟩ := Kd.R_slice HO156.out; subst eo8) | ((with_reducible refine gate_callee (f := 61) rfl ?_); refine goesL_ (some 10) rfl rfl Try.func61 (by kernel_rfl) rfl #[.slice Ao8 t154.length co8] rfl (by (try simp only [List.map_toArray, List.map_cons, List.map_nil]); first | done | rfl | (simp only [List.length_drop, List.length_take]; rfl)) ?_; (with_reducible refine (octs_number.calls k _ _ t154 t159 _ ?side1 ?side2 A5.out).mono ?_); (case side1 => repeat (first | exact (Kd.R_reads' HO156.out).2.2 | (with_reducible refine Kd.C_alloc ?_ _) | (with_reducible refine Kd.C_drewN ?_ _) | (with_reducible refine Kd.C_drew ?_))); (case side2 => exact (Kd.R_reads' HO156.out).2.1); rintro e w' ⟨rfl, ⟨nd, rfl⟩⟩; refine ⟨_, rfl, ?_⟩))
 all_goals first | (go_ret; exact ⟨by first | rfl | (simp [zen, zes]; done) | (simp [zen, zes]; rfl) | (simp [*, zen, zes]; done) | (simp [*, zen, zes]; rfl), by repeat (first | (with_reducible first | exact HI0.out | apply IsS91.alloc | apply IsS91.drewN | apply IsS91.drew | apply IsS91.set_1) | exact HI0.out), by repeat (first | (with_reducible first | exact HB.out | apply zba | apply zbn | apply zbd | refine zbs ?_ (IsS91.ge HI0.out)) | exact HB.out), by repeat (first | (with_reducible first | exact HK.out | apply KeepBut.set_ | apply keep_drewN | apply keep_drew | apply keep_alloc) | exact HK.out)⟩) | (exfalso; simp_all; done)
end Go.Proofs.Ytfhaffpegncdiaa.PT
