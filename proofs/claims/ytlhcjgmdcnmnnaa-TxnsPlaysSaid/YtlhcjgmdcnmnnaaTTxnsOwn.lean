/-
(*txns.Tx).add, and which blocks it changes.
-/
import Derived.Test.YtlhcjgmdcnmnnaaTTxnsSteps
namespace Go.Proofs.Ytlhcjgmdcnmnnaa.PT
open Go.RowKit Go.Proofs.YtlhcjgmdcnmnnaaW.PrintWords Go.Proofs.YtlhcjgmdcnmnnaaW.PrintLast Go.Proofs.YtlhcjgmdcnmnnaaW.PrintMore
set_option linter.unusedVariables false
set_option linter.unusedSimpArgs false
namespace Tx
/-- The blocks that a change of a Tx may change: its own and its row's. -/
def S (g : Nat) (v : Value) : Nat → Prop := fun k => k = g ∨ some k = v.ownBlock
/-- Block g is a Tx; v is its row of steps, and what they lead to is in ok. -/
def Own (w : World) (g : Nat) (on : Bool) (v : Value) (ok : Nat → Prop) (xs : List S37) : Prop := w.heap[g]? = some (.cells #[.bool on, v] 85 (0, 0)) ∧ Kd.N k37 37 w (g + 1) ok v xs
section
variable {w w1 : World} {g : Nat} {on : Bool} {v : Value} {ok : Nat → Prop} {xs : List S37}
theorem Own.lt (h : Own w g on v ok xs) : g < w.heap.size := blk_lt h.1
theorem Own.step (h : Own w g on v ok xs) (hm : ∀ k, (k = g ∨ ok k) → k < w.heap.size → w1.heap[k]? = w.heap[k]?) : Own w1 g on v ok xs :=
  ⟨(hm g (Or.inl rfl) h.lt).trans h.1, Kd.N_step h.2 (fun k hk hlt => hm k (Or.inr hk) hlt)⟩
theorem Own.below (h : Own w g on v ok xs) (hb : Below w.heap.size w w1) : Own w1 g on v ok xs := h.step (fun k _ hlt => hb.block k hlt)
theorem Own.is_alloc (h : Own w g on v ok xs) (o : Obj) : Own (w.alloc o) g on v ok xs := h.below (below_alloc (Below.refl _ _) o)
theorem Own.is_drewN (h : Own w g on v ok xs) (m : Nat) : Own (w.drewN m) g on v ok xs := h.below (pw_below_drewN (Below.refl _ _) m)
theorem Own.is_drew (h : Own w g on v ok xs) : Own w.drew g on v ok xs := h.below (below_drew1 (Below.refl _ _))
end
end Tx
set_option maxHeartbeats 8000000 in
set_option maxRecDepth 100000 in
theorem Tx.add2 (g : Nat) (on : Bool) (xs : List S37) (s : S37) (A6 : Option Addr) (c6 : Nat) (A8 : Option Addr) (c8 : Nat) (w : World) (v : Value) (ok : Nat → Prop) (hok : ∀ k, ok k → k ≠ g) (hfr : ∀ k, w.heap.size ≤ k → ok k) (hI : Tx.Own w g on v ok xs) (h6 : Kd.C (Kd.int .u8) w A6 s.f1.f1.f4.length s.f1.f1.f4) (hc6 : s.f1.f1.f4.length ≤ c6) (h8 : Kd.C (Kd.int .u64) w A8 s.f2.length s.f2) (hc8 : s.f2.length ≤ c8) (hb : s.f1.f1.f4.length ≤ 1000000) (ht : s.f2.length ≤ 1000000) (hx : xs.length ≤ 1000000) :
    Calls Try.prog 45 #[.pointer (some ⟨g, 0, none⟩), .agg #[.int .i64 s.f0, .string s.f1.f0, .string s.f1.f1.f0, .string s.f1.f1.f1, .string s.f1.f1.f2, .int .i64 s.f1.f1.f3, .slice A6 s.f1.f1.f4.length c6, .bool s.f1.f2, .slice A8 s.f2.length c8]] w
      fun e w' => ∃ v', e = .returned (.bool on) ∧ Tx.Own w' g on v' ok (Tx.next on xs s) ∧ Below g w w' ∧ Kept w w' (Tx.S g v) ∧ (v'.ownBlock = v.ownBlock ∨ ∃ b, v'.ownBlock = some b ∧ w.heap.size ≤ b) := by
  obtain ⟨A, c, ev⟩ := Kd.N_slice hI.2
  subst ev
  have HOK := Aside0.mk hok
  have HFR := Aside0.mk hfr
  clear hok hfr
  have hu37 := Try.underlying37
  have hu85 := Try.underlying85
  have HL := Aside0.mk (Tx.Own.lt hI)
  have HI := Aside0.mk hI
  have H6 := Aside0.mk h6
  have HC6 := Aside0.mk hc6
  have H8 := Aside0.mk h8
  have HC8 := Aside0.mk hc8
  have HB6 := Aside0.mk hb
  have HT8 := Aside0.mk ht
  have HX := Aside0.mk hx
  clear hI h6 hc6 h8 hc8 hb ht hx
  have HW := Aside0.mk (Below.refl g w)
  go_enter Try.func45, Try.ntmps45
  go_upto_region 1 with (first | ((with_reducible refine gate_dst (N := 3) rfl ?_); refine box_event ?hg (N := 3) ?hd (cs := #[.int .i64 s.f0, .string s.f1.f0, .string s.f1.f1.f0, .string s.f1.f1.f1, .string s.f1.f1.f2, .int .i64 s.f1.f1.f3, .slice A6 s.f1.f1.f4.length c6, .bool s.f1.f2, .slice A8 s.f2.length c8]) (t := 37) ?hr ?_; (case hd => rfl); (case hg => rfl); (case hr => first | (go_simp; done) | (go_simp; rfl)); intro gb he w1 hbox hb; have BK := Aside0.mk hbox; have HI1 := Aside0.mk (Tx.Own.below HI.out hb); have HK1 := Aside0.mk (Kept.of_below hb (Tx.S g (.slice A xs.length c))); have H61 := Aside0.mk (Kd.C_below H6.out hb); have H81 := Aside0.mk (Kd.C_below H8.out hb); have GB := Aside0.mk (show g < gb from by rw [he]; exact HL.out); have HW1 := Aside0.mk (hb.mono (Nat.le_of_lt HL.out)); clear HI H6 H8 HW; clear hbox hb he))
  obtain ⟨hbk, hn⟩ := HI1.out
  have HBK := Aside0.mk hbk
  have HN := Aside0.mk hn
  have hcg0 : w1.cell? ⟨g, 0, none⟩ = some (.bool on) := (blk_cell hbk 0).trans rfl
  clear hbk hn
  cases on with
  | false =>
    go_wp2
    go_ret
    exact ⟨_, rfl, HI1.out, HW1.out, HK1.out, Or.inl rfl⟩
  | true =>
    have HBKd := Aside0.mk (blk_drew HBK.out)
    have BKd := Aside0.mk (blk_drew BK.out)
    have HNd := Aside0.mk (Kd.N_drew HN.out)
    have HWd := Aside0.mk (below_drew1 HW1.out)
    have H6d := Aside0.mk (Kd.C_drew H61.out)
    have H8d := Aside0.mk (Kd.C_drew H81.out)
    have GD := Aside0.mk (show g < w1.heap.size from Tx.Own.lt HI1.out)
    go_wp2
    clear HI1 hcg0
    refine start_ (n := 12) (S := fun w' => w'.cell? ⟨g, 1, none⟩ = some (.slice A xs.length c) ∧ w'.cell? ⟨gb, 0, none⟩ = some (.int .i64 s.f0) ∧ w'.cell? ⟨gb, 1, none⟩ = some (.string s.f1.f0) ∧ w'.cell? ⟨gb, 2, none⟩ = some (.string s.f1.f1.f0) ∧ w'.cell? ⟨gb, 3, none⟩ = some (.string s.f1.f1.f1) ∧ w'.cell? ⟨gb, 4, none⟩ = some (.string s.f1.f1.f2) ∧ w'.cell? ⟨gb, 5, none⟩ = some (.int .i64 s.f1.f1.f3) ∧ w'.cell? ⟨gb, 6, none⟩ = some (.slice A6 s.f1.f1.f4.length c6) ∧ w'.cell? ⟨gb, 7, none⟩ = some (.bool s.f1.f2) ∧ w'.cell? ⟨gb, 8, none⟩ = some (.slice A8 s.f2.length c8)) (ds := [8, 11]) #[false, false, false, false, false, false, false, false, false, false, false, false] (by kernel_rfl) rfl rfl ⟨(blk_cell HBKd.out 1).trans rfl, (blk_cell BKd.out 0).trans rfl, (blk_cell BKd.out 1).trans rfl, (blk_cell BKd.out 2).trans rfl, (blk_cell BKd.out 3).trans rfl, (blk_cell BKd.out 4).trans rfl, (blk_cell BKd.out 5).trans rfl, (blk_cell BKd.out 6).trans rfl, (blk_cell BKd.out 7).trans rfl, (blk_cell BKd.out 8).trans rfl⟩ (fun hHeld => ?_)
    refine pure_ (i := 0) (N := some 9) (v := ?_) (a' := ?_) #[true, false, false, false, false, false, false, false, false, false, false, false] rfl rfl (by kernel_rfl) (fun _ _ _ h => h) (Or.inl ⟨by rfl, ?_⟩) ?_ ?_
    rotate_left
    · intro w'
      go_simp
      with_reducible rfl
    rotate_left
    · simp only [Act.put, List.setIfInBounds_toArray, List.set_cons_zero, List.set_cons_succ, i64_w, i32_w]
      rfl
    refine pure_ (i := 1) (N := some 10) (v := ?_) (a' := ?_) #[true, true, false, false, false, false, false, false, false, false, false, false] rfl rfl (by kernel_rfl) (fun _ _ _ h => h) (Or.inl ⟨by rfl, ?_⟩) ?_ ?_
    rotate_left
    · intro w'
      go_simp
      with_reducible rfl
    rotate_left
    · simp only [Act.put, List.setIfInBounds_toArray, List.set_cons_zero, List.set_cons_succ, i64_w, i32_w]
      rfl
    refine pure_ (i := 2) (N := some 11) (v := ?_) (a' := ?_) #[true, true, true, false, false, false, false, false, false, false, false, false] rfl rfl (by kernel_rfl) (fun _ _ _ h => h) (Or.inl ⟨by rfl, ?_⟩) ?_ ?_
    rotate_left
    · intro w'
      go_simp
      with_reducible rfl
    rotate_left
    · simp only [Act.put, List.setIfInBounds_toArray, List.set_cons_zero, List.set_cons_succ, i64_w, i32_w]
      rfl
    refine pure_ (i := 3) (N := some 12) (v := ?_) (a' := ?_) #[true, true, true, true, false, false, false, false, false, false, false, false] rfl rfl (by kernel_rfl) (fun _ _ _ h => h) (Or.inl ⟨by rfl, ?_⟩) ?_ ?_
    rotate_left
    · intro w'
      go_simp
      with_reducible rfl
    rotate_left
    · simp only [Act.put, List.setIfInBounds_toArray, List.set_cons_zero, List.set_cons_succ, i64_w, i32_w]
      rfl
    refine take_ (i := 4) (N := some 13) (v := ?_) (a' := ?_) #[true, true, true, true, true, false, false, false, false, false, false, false] rfl rfl (by kernel_rfl) (fun _ _ _ h => h) (Or.inl ⟨by rfl, ?_⟩) hHeld ?_ ?_
    rotate_left
    · rintro w' ⟨s0, s1, s2, s3, s4, s5, s6, s7, s8, s9⟩
      go_simp
      with_reducible rfl
    rotate_left
    · simp only [Act.put, List.setIfInBounds_toArray, List.set_cons_zero, List.set_cons_succ, i64_w, i32_w]
      rfl
    refine take_ (i := 5) (N := some 14) (v := ?_) (a' := ?_) #[true, true, true, true, true, true, false, false, false, false, false, false] rfl rfl (by kernel_rfl) (fun _ _ _ h => h) (Or.inl ⟨by rfl, ?_⟩) hHeld ?_ ?_
    rotate_left
    · rintro w' ⟨s0, s1, s2, s3, s4, s5, s6, s7, s8, s9⟩
      go_simp
      with_reducible rfl
    rotate_left
    · simp only [Act.put, List.setIfInBounds_toArray, List.set_cons_zero, List.set_cons_succ, i64_w, i32_w]
      rfl
    refine one_ (i := 6) (N := some 15) #[true, true, true, true, true, true, true, false, false, false, false, false] rfl rfl (by kernel_rfl) (by decide) (fun K hK => ?_)
    refine goes_ Try.func46 (by kernel_rfl) rfl #[.agg #[.int .i64 s.f0, .string s.f1.f0, .string s.f1.f1.f0, .string s.f1.f1.f1, .string s.f1.f1.f2, .int .i64 s.f1.f1.f3, .slice A6 s.f1.f1.f4.length c6, .bool s.f1.f2, .slice A8 s.f2.length c8]] (by rfl) rfl rfl (by simp only [List.map_toArray, List.map_cons, List.map_nil]; rfl) ?_
    with_reducible refine (txns_still.calls s.f0 s.f1.f0 s.f1.f1.f0 s.f1.f1.f1 s.f1.f1.f2 s.f1.f1.f3 A6 c6 s.f1.f1.f4 s.f1.f2 A8 c8 s.f2 _ _ _ _ _ _ _ _ _ _ H6d.out HC6.out H8d.out HC8.out (txns_still.id _ _ _ _ _ _ _ _ _ (by have := HB6.out; omega) (by have := HT8.out; omega))).mono ?_
    rintro e w3 ⟨v6, v8, rfl, ho6, ho8, hb3⟩
    refine ⟨_, rfl, ?_⟩
    have HBK3 := Aside0.mk (blk_below HBKd.out hb3)
    have BK3 := Aside0.mk (blk_below BKd.out hb3)
    have HN3 := Aside0.mk (Kd.N_below HNd.out hb3)
    have HW3 := Aside0.mk (HWd.out.trans (hb3.mono (Nat.le_of_lt GD.out)))
    have HK3 := Aside0.mk (Kept.below (Kept.drew HK1.out) hb3)
    have HV6 := Aside0.mk ho6
    have HV8 := Aside0.mk ho8
    have HS3 := Aside0.mk hb3.size
    clear ho6 ho8 hb3
    refine hK.out _ _ ⟨(blk_cell HBK3.out 1).trans rfl, (blk_cell BK3.out 0).trans rfl, (blk_cell BK3.out 1).trans rfl, (blk_cell BK3.out 2).trans rfl, (blk_cell BK3.out 3).trans rfl, (blk_cell BK3.out 4).trans rfl, (blk_cell BK3.out 5).trans rfl, (blk_cell BK3.out 6).trans rfl, (blk_cell BK3.out 7).trans rfl, (blk_cell BK3.out 8).trans rfl⟩ (fun hHeld => ?_)
    clear hK K
    refine norm_ (a' := ?_) ?_ ?_
    rotate_left
    · show Act.put _ (some 15) _ = _
      simp only [Act.put, List.setIfInBounds_toArray, List.set_cons_zero, List.set_cons_succ, i64_w, i32_w]
      rfl
    refine one_ (i := 7) (N := some 16) #[true, true, true, true, true, true, true, true, false, false, false, false] rfl rfl (by kernel_rfl) (by decide) (fun K hK => ?_)
    refine value_ (w1 := ?_) (v := ?_) (by rfl) rfl ?_ ?_
    rotate_left 2
    · go_simp
      constructor
      · rfl
      · rfl
    refine hK.out _ _ ⟨(blk_cell (blk_alloc HBK3.out _) 1).trans rfl, (blk_cell (blk_alloc BK3.out _) 0).trans rfl, (blk_cell (blk_alloc BK3.out _) 1).trans rfl, (blk_cell (blk_alloc BK3.out _) 2).trans rfl, (blk_cell (blk_alloc BK3.out _) 3).trans rfl, (blk_cell (blk_alloc BK3.out _) 4).trans rfl, (blk_cell (blk_alloc BK3.out _) 5).trans rfl, (blk_cell (blk_alloc BK3.out _) 6).trans rfl, (blk_cell (blk_alloc BK3.out _) 7).trans rfl, (blk_cell (blk_alloc BK3.out _) 8).trans rfl⟩ (fun hHeld => ?_)
    clear hK K
    refine norm_ (a' := ?_) ?_ ?_
    rotate_left
    · show Act.put _ (some 16) _ = _
      simp only [Act.put, List.setIfInBounds_toArray, List.set_cons_zero, List.set_cons_succ, i64_w, i32_w]
      rfl
    refine last_ (i := 8) (N := some 17) #[true, true, true, true, true, true, true, true, true, false, false, false] rfl rfl (by kernel_rfl) (by decide) (fun K hK => ?_)
    refine Kd.N_append_step k37 (w0 := w3) (W := w3) (g + 1) (by rfl) (.tmp 13) (.tmp 16) 34 37 (.agg #[.int .i64 0, .string ⟨#[]⟩, .string ⟨#[]⟩, .string ⟨#[]⟩, .string ⟨#[]⟩, .int .i64 0, .slice none 0 0, .bool false, .slice none 0 0]) 136 rfl Try.underlying34 info37_ rfl (by decide) (by omega) (.slice A xs.length c) xs s [.int .i64 s.f0, .string s.f1.f0, .string s.f1.f1.f0, .string s.f1.f1.f1, .string s.f1.f1.f2, .int .i64 s.f1.f1.f3, v6, .bool s.f1.f2, v8] ok (fun k => w1.heap.size ≤ k) rfl rfl ?aP ?aK ?aF ?aO ?aB ?aS ?aL ?_
    (case aP => exact Kd.FK_of_M (base := w1.heap.size) (k37_mkM _ _ _ s (Kd.R_mono (Kd.R_bound HV6.out) (fun _ hk => hk.2.1)) (Kd.R_mono (Kd.R_bound HV8.out) (fun _ hk => hk.2.1))))
    (case aK => exact fun k_ hk_ => ⟨HFR.out _ (Nat.le_trans HK1.out.1 hk_), fun he_ => Nat.not_lt.2 hk_ (Kd.N_lt HNd.out _ he_.symm)⟩)
    (case aF => exact fun k_ hk_ => HFR.out _ (Nat.le_trans HK3.out.1 hk_))
    (case aO => exact HN3.out)
    (case aB => exact Below.refl _ _)
    (case aS => exact Nat.le_trans GD.out HS3.out)
    (case aL => have := HX.out; omega)
    intro v4 w4 ho hb hg hat
    generalize hX4 : xs ++ [s] = X4 at ho
    obtain ⟨A4, c4, ev4⟩ := Kd.N_slice ho
    subst ev4
    have HX4 := Aside0.mk hX4
    clear hX4
    have HN4 := Aside0.mk ho
    have HBK4 := Aside0.mk (blk_grown HBK3.out hg (Kd.N_ne HN3.out HBK3.out (by decide)))
    have HW4 := Aside0.mk (HW3.out.trans (hb.mono (Nat.le_succ _)))
    have hcg4 : w4.cell? ⟨g, 1, none⟩ = some (.slice A xs.length c) := (blk_cell HBK4.out 1).trans rfl
    have hfg4 := blk_frozen HBK4.out 1
    have HK4 := Aside0.mk (Kept.of_grown hg HK3.out (fun k hk => Or.inl (Or.inr hk.symm)))
    have HAT := Aside0.mk hat
    clear ho hb hg hat
    refine hK.out _ _ ?_
    clear hK K
    refine norm_ (a' := ?_) ?_ ?_
    rotate_left
    · show Act.put _ (some 17) _ = _
      simp only [Act.put, List.setIfInBounds_toArray, List.set_cons_zero, List.set_cons_succ, i64_w, i32_w]
      rfl
    refine pure_ (i := 9) (N := some 18) (v := ?_) (a' := ?_) #[true, true, true, true, true, true, true, true, true, true, false, false] rfl rfl (by kernel_rfl) (fun _ _ _ h => h) (Or.inl ⟨by rfl, ?_⟩) ?_ ?_
    rotate_left
    · intro w'
      go_simp
      with_reducible rfl
    rotate_left
    · simp only [Act.put, List.setIfInBounds_toArray, List.set_cons_zero, List.set_cons_succ, i64_w, i32_w]
      rfl
    refine pure_ (i := 10) (N := some 19) (v := ?_) (a' := ?_) #[true, true, true, true, true, true, true, true, true, true, true, false] rfl rfl (by kernel_rfl) (fun _ _ _ h => h) (Or.inl ⟨by rfl, ?_⟩) ?_ ?_
    rotate_left
    · intro w'
      go_simp
      with_reducible rfl
    rotate_left
    · simp only [Act.put, List.setIfInBounds_toArray, List.set_cons_zero, List.set_cons_succ, i64_w, i32_w]
      rfl
    refine last_ (i := 11) (N := none) #[true, true, true, true, true, true, true, true, true, true, true, true] rfl rfl (by kernel_rfl) (by decide) (fun K hK => ?_)
    refine skip_ (w1 := ?_) (by rfl) rfl ?_ ?_
    rotate_left
    · go_simp
      rfl
    refine hK.out _ _ ?_
    clear hK K
    refine done_ (by kernel_rfl) ?_
    have hblk := blk_put (cs := #[.bool true, .slice A xs.length c]) HBK4.out 1 (.slice A4 X4.length c4) rfl
    have hco := (blk_cell hblk 0).trans rfl
    have HF := Aside0.mk (show Tx.Own (w4.setCell ⟨g, 1, none⟩ (.slice A4 X4.length c4)) g true (.slice A4 X4.length c4) ok X4 from ⟨hblk, Kd.N_far (p := ⟨g, 1, none⟩) HN4.out (fun k hk => HOK.out k hk) _⟩)
    clear hblk
    go_wp2
    go_ret
    refine ⟨_, rfl, by rw [show Tx.next true xs s = xs ++ [s] from rfl, HX4.out]; exact HF.out, HW4.out.setCell (Nat.le_refl _) _, Kept.setCell HK4.out (Or.inl (Or.inl rfl)) _, ?_⟩
    rcases HAT.out with h | ⟨b, h1, h2⟩
    · exact Or.inl h
    · exact Or.inr ⟨b, h1, Nat.le_trans HK3.out.1 h2⟩
end Go.Proofs.Ytlhcjgmdcnmnnaa.PT
