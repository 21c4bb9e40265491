/-
The operations of what waits for a commit, and which blocks they change.
-/
import Derived.Test.YtlhcjgmdcnmnnaaTTxnsOwn
namespace Go.Proofs.Ytlhcjgmdcnmnnaa.PT
open Go.RowKit Go.Proofs.YtlhcjgmdcnmnnaaW.PrintWords Go.Proofs.YtlhcjgmdcnmnnaaW.PrintLast Go.Proofs.YtlhcjgmdcnmnnaaW.PrintMore
set_option linter.unusedVariables false
set_option linter.unusedSimpArgs false
set_option maxHeartbeats 8000000
set_option maxRecDepth 100000
section
variable {g : Nat} {on : Bool} {xs : List S37} {w : World} {v : Value} {ok : Nat → Prop}
theorem Tx.Own.at_ (h : Tx.Own w g on v ok xs) (hok : ∀ k, ok k → g < k) : Tx.At w g on xs := by
  obtain ⟨A, c, ev⟩ := Kd.N_slice h.2
  subst ev
  exact ⟨A, c, h.1, Kd.N_mono h.2 hok⟩
theorem Tx.select2 (hok : ∀ k, ok k → k ≠ g) (hI : Tx.Own w g on v ok xs) : Calls Try.prog 21 #[.pointer (some ⟨g, 0, none⟩)] w fun e w' => e = .returned (.tuple #[]) ∧ Tx.Own w' g true v ok xs ∧ Below g w w' ∧ Kept w w' (Tx.S g v) := by
  have hu85 := Try.underlying85
  obtain ⟨A, c, ev⟩ := Kd.N_slice hI.2
  subst ev
  obtain ⟨hbk, hn⟩ := hI
  have HI := Aside0.mk (show Tx.Own (w.setCell ⟨g, 0, none⟩ (.bool true)) g true (.slice A xs.length c) ok xs from ⟨blk_put (cs := #[.bool on, .slice A xs.length c]) hbk 0 _ rfl, Kd.N_far (p := ⟨g, 0, none⟩) hn (fun k hk => hok k hk) _⟩)
  have HB := Aside0.mk ((Below.refl g w).setCell (p := ⟨g, 0, none⟩) (Nat.le_refl _) (.bool true))
  have HK := Aside0.mk (Kept.setCell (Kept.refl w (Tx.S g (.slice A xs.length c))) (p := ⟨g, 0, none⟩) (Or.inl (Or.inl rfl)) (.bool true))
  have hcg0 : w.cell? ⟨g, 0, none⟩ = some (.bool on) := (blk_cell hbk 0).trans rfl
  have hfg0 := blk_frozen hbk 0
  clear hbk hn hok
  go_enter Try.func21, Try.ntmps21
  go_wp2
  first | go_end0 | ((try simp only [Exit.inBlock, Exit.then]); refine bodyPost_ret (results_none rfl _ _ _) rfl ?_)
  exact ⟨rfl, HI.out, HB.out, HK.out⟩
theorem Tx.clear2 (hI : Tx.Own w g on v ok xs) : Calls Try.prog 22 #[.pointer (some ⟨g, 0, none⟩)] w fun e w' => e = .returned (.tuple #[]) ∧ (∀ ok', Tx.Own w' g on (.slice none 0 0) ok' []) ∧ Below g w w' ∧ Kept w w' (Tx.S g v) := by
  have hu85 := Try.underlying85
  obtain ⟨A, c, ev⟩ := Kd.N_slice hI.2
  subst ev
  obtain ⟨hbk, hn⟩ := hI
  have HI := Aside0.mk (show ∀ ok', Tx.Own (w.setCell ⟨g, 1, none⟩ (.slice none 0 0)) g on (.slice none 0 0) ok' [] from fun ok' => ⟨blk_put (cs := #[.bool on, .slice A xs.length c]) hbk 1 _ rfl, Kd.N_nil _ _ _ _ _⟩)
  have HB := Aside0.mk ((Below.refl g w).setCell (p := ⟨g, 1, none⟩) (Nat.le_refl _) (.slice none 0 0))
  have HK := Aside0.mk (Kept.setCell (Kept.refl w (Tx.S g (.slice A xs.length c))) (p := ⟨g, 1, none⟩) (Or.inl (Or.inl rfl)) (.slice none 0 0))
  have hcg1 : w.cell? ⟨g, 1, none⟩ = some (.slice A xs.length c) := (blk_cell hbk 1).trans rfl
  have hfg1 := blk_frozen hbk 1
  clear hbk hn
  go_enter Try.func22, Try.ntmps22
  go_wp2
  first | go_end0 | ((try simp only [Exit.inBlock, Exit.then]); refine bodyPost_ret (results_none rfl _ _ _) rfl ?_)
  exact ⟨rfl, HI.out, HB.out, HK.out⟩
theorem Tx.kept_size {w W : World} {S : Nat → Prop} (h : Kept w W S) : w.heap.size ≤ W.heap.size := h.1
theorem Tx.at_then {v v' : Value} {m n : Nat} (h : v'.ownBlock = v.ownBlock ∨ ∃ b, v'.ownBlock = some b ∧ m ≤ b) (hm : n ≤ m) : v'.ownBlock = v.ownBlock ∨ ∃ b, v'.ownBlock = some b ∧ n ≤ b := by
  rcases h with h | ⟨b, h1, h2⟩
  · exact Or.inl h
  · exact Or.inr ⟨b, h1, Nat.le_trans hm h2⟩
theorem Tx.put2 (p : S30) (A5 : Option Addr) (c5 : Nat) (hok : ∀ k, ok k → k ≠ g) (hfr : ∀ k, w.heap.size ≤ k → ok k) (hI : Tx.Own w g on v ok xs) (h5 : Kd.C (Kd.int .u8) w A5 p.f1.f4.length p.f1.f4) (hc5 : p.f1.f4.length ≤ c5) (hb : p.f1.f4.length ≤ 1000000) (hx : xs.length ≤ 1000000) :
    Calls Try.prog 17 #[.pointer (some ⟨g, 0, none⟩), .agg #[.string p.f0, .string p.f1.f0, .string p.f1.f1, .string p.f1.f2, .int .i64 p.f1.f3, .slice A5 p.f1.f4.length c5, .bool p.f2]] w
      fun e w' => ∃ v', e = .returned (.bool on) ∧ Tx.Own w' g on v' ok (Tx.next on xs ⟨1, p, []⟩) ∧ Below g w w' ∧ Kept w w' (Tx.S g v) ∧ (v'.ownBlock = v.ownBlock ∨ ∃ b, v'.ownBlock = some b ∧ w.heap.size ≤ b) := by
  have HOK := Aside0.mk hok
  have HFR := Aside0.mk hfr
  clear hok hfr
  have hu30 := Try.underlying30
  have hu37 := Try.underlying37
  have HI := Aside0.mk hI
  have H5 := Aside0.mk h5
  have HC5 := Aside0.mk hc5
  have HB5 := Aside0.mk hb
  have HX := Aside0.mk hx
  have HL := Aside0.mk (Tx.Own.lt hI)
  clear hI h5 hc5 hb hx
  have HW := Aside0.mk (Below.refl g w)
  go_enter Try.func17, Try.ntmps17
  go_upto_region 1 with (first | ((with_reducible refine gate_dst (N := 3) rfl ?_); refine box_event ?hg (N := 3) ?hd (cs := #[.string p.f0, .string p.f1.f0, .string p.f1.f1, .string p.f1.f2, .int .i64 p.f1.f3, .slice A5 p.f1.f4.length c5, .bool p.f2]) (t := 30) ?hr ?_; (case hd => rfl); (case hg => rfl); (case hr => first | (go_simp; done) | (go_simp; rfl)); intro gb he w1 hbox hb; have BK := Aside0.mk hbox; have HI1 := Aside0.mk (Tx.Own.below HI.out hb); have HK1 := Aside0.mk (Kept.of_below hb (Tx.S g v)); have H51 := Aside0.mk (Kd.C_below H5.out hb); have HW1 := Aside0.mk (hb.mono (Nat.le_of_lt HL.out)); clear HI H5 HW; clear hbox hb he))
  have hc0 := (blk_cell BK.out 0).trans rfl
  have hc1 := (blk_cell BK.out 1).trans rfl
  have hc2 := (blk_cell BK.out 2).trans rfl
  have hc3 := (blk_cell BK.out 3).trans rfl
  have hc4 := (blk_cell BK.out 4).trans rfl
  have hc5 := (blk_cell BK.out 5).trans rfl
  have hc6 := (blk_cell BK.out 6).trans rfl
  go_wp2_with (first | (go_at_call 45; refine (Tx.add2 g on xs (⟨1, p, []⟩ : S37) A5 c5 none 0 _ v ok HOK.out ?a0 ?a1 ?a2 ?a3 ?a4 ?a5 ?a6 ?a7 ?a8).mono ?_; (case a0 => exact fun k_ hk_ => HFR.out k_ (Nat.le_trans (Tx.kept_size (by (with_reducible repeat (first | apply Kept.alloc | apply Kept.drewN | apply Kept.drew)); exact HK1.out)) hk_)); (case a1 => (with_reducible repeat (first | apply Tx.Own.is_alloc | apply Tx.Own.is_drewN | apply Tx.Own.is_drew)); exact HI1.out); (case a2 => (with_reducible repeat (first | apply Kd.C_alloc | apply Kd.C_drewN | apply Kd.C_drew)); exact H51.out); (case a3 => exact HC5.out); (case a4 => exact Kd.C_nil _ _); (case a5 => exact Nat.le_refl _); (case a6 => exact HB5.out); (case a7 => exact Nat.zero_le _); (case a8 => exact HX.out); rintro e w2 ⟨v2, rfl, hi, hb, hk, hat⟩; have HK2 := Aside0.mk (Kept.then_ (by (with_reducible repeat (first | apply Kept.alloc | apply Kept.drewN | apply Kept.drew)); exact HK1.out) hk (fun _ h_ => Or.inl h_)); have HAT := Aside0.mk (Tx.at_then hat (Tx.kept_size (by (with_reducible repeat (first | apply Kept.alloc | apply Kept.drewN | apply Kept.drew)); exact HK1.out))); have HI2 := Aside0.mk hi; have HW2 := Aside0.mk (HW1.out.trans hb); clear hi hb hk hat))
  go_ret
  exact ⟨_, rfl, HI2.out, HW2.out, HK2.out, HAT.out⟩
theorem Tx.settle2 (l : List Int) (back : Bool) (A8 : Option Addr) (c8 : Nat) (hok : ∀ k, ok k → k ≠ g) (hfr : ∀ k, w.heap.size ≤ k → ok k) (hI : Tx.Own w g on v ok xs) (h8 : Kd.C (Kd.int .u64) w A8 l.length l) (hc8 : l.length ≤ c8) (hl : l.length ≤ 1000000) (hx : xs.length ≤ 1000000) :
    Calls Try.prog 18 #[.pointer (some ⟨g, 0, none⟩), .slice A8 l.length c8, .bool back] w
      fun e w' => ∃ v', e = .returned (.bool on) ∧ Tx.Own w' g on v' ok (Tx.next on xs (Tx.stepOf back l)) ∧ Below g w w' ∧ Kept w w' (Tx.S g v) ∧ (v'.ownBlock = v.ownBlock ∨ ∃ b, v'.ownBlock = some b ∧ w.heap.size ≤ b) := by
  have HOK := Aside0.mk hok
  have HFR := Aside0.mk hfr
  clear hok hfr
  have HK1 := Aside0.mk (Kept.refl w (Tx.S g v))
  have hu37 := Try.underlying37
  have HI := Aside0.mk hI
  have H8 := Aside0.mk h8
  have HC8 := Aside0.mk hc8
  have HB8 := Aside0.mk hl
  have HX := Aside0.mk hx
  clear hI h8 hc8 hl hx
  have HW := Aside0.mk (Below.refl g w)
  cases back with
  | true =>
    go_enter Try.func18, Try.ntmps18
    go_wp2_with (first | (go_at_call 45; refine (Tx.add2 g on xs (⟨3, z30, l⟩ : S37) none 0 A8 c8 _ v ok HOK.out ?a0 ?a1 ?a2 ?a3 ?a4 ?a5 ?a6 ?a7 ?a8).mono ?_; (case a0 => exact fun k_ hk_ => HFR.out k_ (Nat.le_trans (Tx.kept_size (by (with_reducible repeat (first | apply Kept.alloc | apply Kept.drewN | apply Kept.drew)); exact HK1.out)) hk_)); (case a1 => (with_reducible repeat (first | apply Tx.Own.is_alloc | apply Tx.Own.is_drewN | apply Tx.Own.is_drew)); exact HI.out); (case a2 => exact Kd.C_nil _ _); (case a3 => exact Nat.le_refl _); (case a4 => (with_reducible repeat (first | apply Kd.C_alloc | apply Kd.C_drewN | apply Kd.C_drew)); exact H8.out); (case a5 => exact HC8.out); (case a6 => exact Nat.zero_le _); (case a7 => exact HB8.out); (case a8 => exact HX.out); rintro e w2 ⟨v2, rfl, hi, hb, hk, hat⟩; have HK2 := Aside0.mk (Kept.then_ (by (with_reducible repeat (first | apply Kept.alloc | apply Kept.drewN | apply Kept.drew)); exact HK1.out) hk (fun _ h_ => Or.inl h_)); have HAT := Aside0.mk (Tx.at_then hat (Tx.kept_size (by (with_reducible repeat (first | apply Kept.alloc | apply Kept.drewN | apply Kept.drew)); exact HK1.out))); have HI2 := Aside0.mk hi; have HW2 := Aside0.mk (HW.out.trans hb); clear hi hb hk hat))
    go_ret
    exact ⟨_, rfl, HI2.out, HW2.out, HK2.out, HAT.out⟩
  | false =>
    go_enter Try.func18, Try.ntmps18
    go_wp2_with (first | (go_at_call 45; refine (Tx.add2 g on xs (⟨2, z30, l⟩ : S37) none 0 A8 c8 _ v ok HOK.out ?a0 ?a1 ?a2 ?a3 ?a4 ?a5 ?a6 ?a7 ?a8).mono ?_; (case a0 => exact fun k_ hk_ => HFR.out k_ (Nat.le_trans (Tx.kept_size (by (with_reducible repeat (first | apply Kept.alloc | apply Kept.drewN | apply Kept.drew)); exact HK1.out)) hk_)); (case a1 => (with_reducible repeat (first | apply Tx.Own.is_alloc | apply Tx.Own.is_drewN | apply Tx.Own.is_drew)); exact HI.out); (case a2 => exact Kd.C_nil _ _); (case a3 => exact Nat.le_refl _); (case a4 => (with_reducible repeat (first | apply Kd.C_alloc | apply Kd.C_drewN | apply Kd.C_drew)); exact H8.out); (case a5 => exact HC8.out); (case a6 => exact Nat.zero_le _); (case a7 => exact HB8.out); (case a8 => exact HX.out); rintro e w2 ⟨v2, rfl, hi, hb, hk, hat⟩; have HK2 := Aside0.mk (Kept.then_ (by (with_reducible repeat (first | apply Kept.alloc | apply Kept.drewN | apply Kept.drew)); exact HK1.out) hk (fun _ h_ => Or.inl h_)); have HAT := Aside0.mk (Tx.at_then hat (Tx.kept_size (by (with_reducible repeat (first | apply Kept.alloc | apply Kept.drewN | apply Kept.drew)); exact HK1.out))); have HI2 := Aside0.mk hi; have HW2 := Aside0.mk (HW.out.trans hb); clear hi hb hk hat))
    go_ret
    exact ⟨_, rfl, HI2.out, HW2.out, HK2.out, HAT.out⟩
end
end Go.Proofs.Ytlhcjgmdcnmnnaa.PT
