/-
The walk of the law of ops that are done to a map.
-/
import Derived.Test.YtpjkaodbcclecaaMUnitApplyPure
import Derived.Test.YtpjkaodbcclecaaPMx8
import Derived.Test.YtpjkaodbcclecaaPMx9
namespace Go.Proofs.Ytpjkaodbcclecaa.PM
open Go.RowKit Go.Proofs.YtpjkaodbcclecaaW.PrintWords Go.Proofs.YtpjkaodbcclecaaW.PrintLast Go.Proofs.YtpjkaodbcclecaaW.PrintMore
set_option linter.unusedVariables false
set_option linter.unusedSimpArgs false
theorem k38_heap : Kd.Heap k38 := Kd.heap_iso _ (Kd.heap_pair Kd.heap_string (Kd.heap_pair Kd.heap_bool (Kd.heap_slice 5 (Kd.heap_int .u8))))
theorem info38_ : (Try.prog.info? 38).map (fun i => (i.zero, i.size, i.bytes)) = some (some (.agg #[(.string ⟨#[]⟩), (.bool false), (.slice none 0 0)]), 3, 48) := by kernel_rfl
section
variable {P : Program} {ops : Array Oper} {rest : List Oper} {o : Oper} {a : Act} {Q : Exit → Act → World → Prop}
theorem map_event {W : World} (hgd : o.guard = none) {N : Tmp} (_hd : o.dst = some N)
    (hrun : (execOp a.eval o).run P W = .ok (.value (.map (some W.heap.size))) (W.alloc (.map #[] 0)))
    (h : ∀ b, b = W.heap.size → ∀ w1, Ma.Is P w1 b [] → Below W.heap.size W w1 → wpList P ops Q rest (a.put o.dst (.map (some b))) w1) : wpList P ops Q (o :: rest) a W :=
  Kd.event_run hgd hrun (h _ rfl _ (Ma.made P W) (below_alloc (Below.refl _ _) _))
end
theorem lit_pack {W w4 : World} {v4 : Value} {ok0 ok1 : Nat → Prop} {A0 A1 : Option Addr} {n0 n1 : Nat} {t0 t1 : List S38} (h0 : Kd.F k38 W ok0 A0 n0 t0) (h1 : Kd.F k38 W ok1 A1 n1 t1) (hg : W.grownBy w4 none) (hat : ∃ b, v4.ownBlock = some b ∧ W.heap.size ≤ b) :
    ∃ M, Kd.F k38 w4 (fun k => k < M) A0 n0 t0 ∧ Kd.F k38 w4 (fun k => k < M) A1 n1 t1 ∧ (∀ k, v4.ownBlock = some k → M ≤ k) ∧ M ≤ w4.heap.size := by
  refine ⟨W.heap.size, Kd.F_mono (Kd.F_grown (Kd.F_bound h0) hg (fun _ _ => by simp)) (fun _ hk => hk.2), Kd.F_mono (Kd.F_grown (Kd.F_bound h1) hg (fun _ _ => by simp)) (fun _ hk => hk.2), ?_, hg.size⟩
  intro k hk
  obtain ⟨b, e1, e2⟩ := hat
  rw [e1] at hk
  injection hk with hk
  rw [← hk]
  exact e2
theorem app_pack {W w5 : World} {v v5 : Value} {M n : Nat} {A : Option Addr} {t : List S38} (h : Kd.F k38 W (fun k => k < M) A n t) (hv : ∀ k, v.ownBlock = some k → M ≤ k) (hM : M ≤ W.heap.size) (hg : W.grownBy w5 v.ownBlock) (hat : v5.ownBlock = v.ownBlock ∨ ∃ b, v5.ownBlock = some b ∧ W.heap.size ≤ b) :
    Kd.F k38 w5 (fun k => k < M) A n t ∧ (∀ k, v5.ownBlock = some k → M ≤ k) ∧ M ≤ w5.heap.size := by
  refine ⟨Kd.F_grown h hg (fun k hk he => Nat.not_lt.2 (hv k he.symm) hk), ?_, Nat.le_trans hM hg.size⟩
  intro k hk
  rcases hat with e | ⟨b, e1, e2⟩
  · exact hv k (by rw [← e]; exact hk)
  · rw [e1] at hk
    injection hk with hk
    rw [← hk]
    exact Nat.le_trans hM e2
theorem map_pack {W w7 : World} {ok : Nat → Prop} {A : Option Addr} {n b : Nat} {l : List S38} (hf : Kd.F k38 W ok A n l) (he : b = W.heap.size) (hb : Below W.heap.size W w7) : Kd.F k38 w7 (fun k => k < b) A n l := by
  subst he
  exact Kd.F_mono (Kd.F_below (Kd.F_bound hf) hb) (fun _ hk => hk.2)
theorem and255 (x : Int) : 0 ≤ Go.bits .and .i64 x 255 := by
  unfold Go.bits
  have h1 : (BitVec.ofInt (IntKind.i64.bits) x &&& BitVec.ofInt (IntKind.i64.bits) 255).toNat ≤ 255 := by
    rw [BitVec.toNat_and]
    have : (BitVec.ofInt (IntKind.i64.bits) 255).toNat = 255 := by decide
    rw [this]
    exact Nat.and_le_right
  simp only []
  rw [IntKind.wrap_i64]
  omega
theorem Ma.below_at {P : Program} {w w' : World} {b B : Nat} {E : List (Lit × DataW Unit)} (h : Ma.Is P w b E) (hb : Below B w w') (hlt : b < B) : Ma.Is P w' b E := by
  obtain ⟨es, clock, hbb, F, hE⟩ := h
  exact ⟨es, clock, (hb.block b hlt).trans hbb, F, hE⟩
theorem Ma.len_run {P : Program} {t : TypeId} (ht : P.underlying t = some (.map 9 9)) {w : World} {b : Nat} {E : List (Lit × DataW Unit)} (h : Ma.Is P w b E) (ty : TypeId) : (Builtin.len_ #[t] ty #[.map (some b)]).run P w = .ok (.int .i64 (E.length : Int)) w := by
  obtain ⟨es, clock, hb, F, hE⟩ := h
  rw [← Ma.len_es hE]
  exact run_len_map (w := w) t ty b es clock (by simp [Program.mapKeyOf, Program.mapElemOf, ht]) hb
theorem UA.all_mem : ∀ (l : List S38) {L : List S70} {z : S70}, z ∈ Map_Do.all L l → z ∈ L ∨ ∃ x ∈ l, z = UA.mk x
  | [], L, z, h => Or.inl h
  | x :: l, L, z, h => by
    have h : z ∈ Map_Do.all (Map_Do.one L x) l := h
    rcases UA.all_mem l h with h | ⟨y, hy, e⟩
    · rw [UA.one_eq] at h
      rcases UA.one_mem h with h | h
      · exact Or.inl h
      · exact Or.inr ⟨x, List.mem_cons_self, h⟩
    · exact Or.inr ⟨y, List.mem_cons_of_mem _ hy, e⟩
theorem Ma.is_drewN {P : Program} {w : World} {b : Nat} {E : List (Lit × DataW Unit)} (h : Ma.Is P w b E) (m : Nat) : Ma.Is P (w.drewN m) b E := Ma.below h (pw_below_drewN (Below.refl _ _) m)
theorem Ma.is_drew {P : Program} {w : World} {b : Nat} {E : List (Lit × DataW Unit)} (h : Ma.Is P w b E) : Ma.Is P w.drew b E := Ma.below h (below_drew1 (Below.refl _ _))
theorem Ma.is_alloc {P : Program} {w : World} {b : Nat} {E : List (Lit × DataW Unit)} (h : Ma.Is P w b E) (o : Obj) : Ma.Is P (w.alloc o) b E := Ma.below h (below_alloc (Below.refl _ _) o)
theorem below_grown {w W w1 : World} {b : Nat} (h : Below w.heap.size w W) (hg : W.grownBy w1 (some b)) (hb : w.heap.size ≤ b) : Below w.heap.size w w1 :=
  ⟨hg.os.trans h.os, hg.tape.trans h.tape, hg.output.trans h.output, Nat.le_trans h.size hg.size, fun k hk => (hg.block k (by have := h.size; omega) (by simp; omega)).trans (h.block k hk)⟩
set_option maxHeartbeats 8000000 in
set_option maxRecDepth 100000 in
theorem waybilllaw13_UnitApplies.calls0 (k : Nat) (A0 : Option Addr) (c0 : Nat) (l0 : List S38) (A1 : Option Addr) (c1 : Nat) (l1 : List S38) (kk : Int) (w : World) (hr0 : Kd.C k38 w A0 l0.length l0) (hc0 : l0.length ≤ c0) (hr1 : Kd.C k38 w A1 l1.length l1) (hc1 : l1.length ≤ c1) (s0 s1 : Bool) (hs0 : waybilllaw13_Small.f k l0 = some s0) (hs1 : waybilllaw13_Small.f k l1 = some s1) (hf : s0 = false ∨ s1 = false) (haw : waybilllaw13_awake.f k = some true) :
    Calls Try.prog 9 #[.slice A0 l0.length c0, .slice A1 l1.length c1, .int .i64 kk] w fun e w' => e = .returned (.bool true) ∧ Below w.heap.size w w' := by
  have HR0 := Aside0.mk hr0
  have HC0 := Aside0.mk hc0
  have HR1 := Aside0.mk hr1
  have HC1 := Aside0.mk hc1
  have HAW := Aside0.mk haw
  have HS0 := Aside0.mk hs0
  have HS1 := Aside0.mk hs1
  clear hr0 hc0 hr1 hc1 haw hs0 hs1
  have HB := Aside0.mk (Below.refl w.heap.size w)
  cases s0 with
  | false =>
    clear HS1
    go_enter Try.func9, Try.ntmps9
    go_wp2_with (first | (go_at_call 22; (with_reducible refine (waybilllaw13_Small.calls k _ _ l0 false _ ?side1 ?side2 HS0.out).mono ?_); (case side1 => repeat (first | exact HR0.out | (with_reducible refine Kd.C_alloc ?_ _) | (with_reducible refine Kd.C_drewN ?_ _) | (with_reducible refine Kd.C_drew ?_))); (case side2 => exact HC0.out); rintro e w' ⟨rfl, ⟨nd, rfl⟩⟩; (try first | exact ⟨rfl, _, World.drewN_drewN _ _ _⟩ | exact ⟨rfl, _, Eq.trans (World.drewN_drewN _ _ _) (congrArg (World.drewN _) (Nat.add_assoc _ _ _))⟩)) | (go_at_call 21; (with_reducible refine (waybilllaw13_awake.calls k true _ HAW.out).mono ?_); rintro e wz ⟨rfl, hb⟩; have n0_ := Aside0.mk (below_step (by repeat (first | (with_reducible first | exact HB.out | apply below_alloc | apply pw_below_drewN | apply below_drew1) | exact HB.out)) hb); clear HB; have HB := n0_; clear n0_; (try clear hb)))
    all_goals first | (go_ret; exact ⟨rfl, (by repeat (first | (with_reducible first | exact HB.out | apply below_alloc | apply pw_below_drewN | apply below_drew1) | exact HB.out))⟩) | (exfalso; simp_all; done)
  | true =>
    cases s1 with
    | true => exact absurd hf (by simp)
    | false =>
      go_enter Try.func9, Try.ntmps9
      go_wp2_with (first | (go_at_call 22; (with_reducible refine (waybilllaw13_Small.calls k _ _ l0 true _ ?side1 ?side2 HS0.out).mono ?_); (case side1 => repeat (first | exact HR0.out | (with_reducible refine Kd.C_alloc ?_ _) | (with_reducible refine Kd.C_drewN ?_ _) | (with_reducible refine Kd.C_drew ?_))); (case side2 => exact HC0.out); rintro e w' ⟨rfl, ⟨nd, rfl⟩⟩; (try first | exact ⟨rfl, _, World.drewN_drewN _ _ _⟩ | exact ⟨rfl, _, Eq.trans (World.drewN_drewN _ _ _) (congrArg (World.drewN _) (Nat.add_assoc _ _ _))⟩)) | (go_at_call 22; (with_reducible refine (waybilllaw13_Small.calls k _ _ l1 false _ ?side1 ?side2 HS1.out).mono ?_); (case side1 => repeat (first | exact HR1.out | (with_reducible refine Kd.C_alloc ?_ _) | (with_reducible refine Kd.C_drewN ?_ _) | (with_reducible refine Kd.C_drew ?_))); (case side2 => exact HC1.out); rintro e w' ⟨rfl, ⟨nd, rfl⟩⟩; (try first | exact ⟨rfl, _, World.drewN_drewN _ _ _⟩ | exact ⟨rfl, _, Eq.trans (World.drewN_drewN _ _ _) (congrArg (World.drewN _) (Nat.add_assoc _ _ _))⟩)) | (go_at_call 21; (with_reducible refine (waybilllaw13_awake.calls k true _ HAW.out).mono ?_); rintro e wz ⟨rfl, hb⟩; have n0_ := Aside0.mk (below_step (by repeat (first | (with_reducible first | exact HB.out | apply below_alloc | apply pw_below_drewN | apply below_drew1) | exact HB.out)) hb); clear HB; have HB := n0_; clear n0_; (try clear hb)))
      all_goals first | (go_ret; exact ⟨rfl, (by repeat (first | (with_reducible first | exact HB.out | apply below_alloc | apply pw_below_drewN | apply below_drew1) | exact HB.out))⟩) | (exfalso; simp_all; done)
set_option maxHeartbeats 8000000 in
set_option maxRecDepth 100000 in
theorem waybilllaw13_UnitApplies.calls1 (k : Nat) (A0 : Option Addr) (c0 : Nat) (l0 : List S38) (A1 : Option Addr) (c1 : Nat) (l1 : List S38) (kk : Int) (w : World) (hr0 : Kd.C k38 w A0 l0.length l0) (hc0 : l0.length ≤ c0) (hr1 : Kd.C k38 w A1 l1.length l1) (hc1 : l1.length ≤ c1) (hs0 : waybilllaw13_Small.f k l0 = some true) (hs1 : waybilllaw13_Small.f k l1 = some true) (haw : waybilllaw13_awake.f k = some true) (t0 t1 l : List S38) (ht0 : waybilllaw13_Tame.f k l0 = some t0) (ht1 : waybilllaw13_Tame.f k l1 = some t1) (hl : t0 ++ t1 = l) (hn : l.length ≤ 60) (hk : ∀ x ∈ l, x.f0.size ≤ maxLen ∧ x.f2.length ≤ maxLen) :
    Calls Try.prog 9 #[.slice A0 l0.length c0, .slice A1 l1.length c1, .int .i64 kk] w fun e w' => e = .returned (.bool true) ∧ Below w.heap.size w w' := by
  have HR0 := Aside0.mk hr0
  have HC0 := Aside0.mk hc0
  have HR1 := Aside0.mk hr1
  have HC1 := Aside0.mk hc1
  have HAW := Aside0.mk haw
  have HS0 := Aside0.mk hs0
  have HS1 := Aside0.mk hs1
  have HT0 := Aside0.mk ht0
  have HT1 := Aside0.mk ht1
  have HL := Aside0.mk hl
  have HN := Aside0.mk hn
  have HTL := Aside0.mk (show (t0 ++ t1).length ≤ 60 from by rw [hl]; exact hn)
  have HK := Aside0.mk hk
  clear hr0 hc0 hr1 hc1 haw hs0 hs1 ht0 ht1 hl hn hk
  have HB := Aside0.mk (Below.refl w.heap.size w)
  go_enter Try.func9, Try.ntmps9
  go_upto_region 5 with (first | (go_at_call 22; (with_reducible refine (waybilllaw13_Small.calls k _ _ l0 true _ ?side1 ?side2 HS0.out).mono ?_); (case side1 => repeat (first | exact HR0.out | (with_reducible refine Kd.C_alloc ?_ _) | (with_reducible refine Kd.C_drewN ?_ _) | (with_reducible refine Kd.C_drew ?_))); (case side2 => exact HC0.out); rintro e w' ⟨rfl, ⟨nd, rfl⟩⟩; (try first | exact ⟨rfl, _, World.drewN_drewN _ _ _⟩ | exact ⟨rfl, _, Eq.trans (World.drewN_drewN _ _ _) (congrArg (World.drewN _) (Nat.add_assoc _ _ _))⟩)) | (go_at_call 22; (with_reducible refine (waybilllaw13_Small.calls k _ _ l1 true _ ?side1 ?side2 HS1.out).mono ?_); (case side1 => repeat (first | exact HR1.out | (with_reducible refine Kd.C_alloc ?_ _) | (with_reducible refine Kd.C_drewN ?_ _) | (with_reducible refine Kd.C_drew ?_))); (case side2 => exact HC1.out); rintro e w' ⟨rfl, ⟨nd, rfl⟩⟩; (try first | exact ⟨rfl, _, World.drewN_drewN _ _ _⟩ | exact ⟨rfl, _, Eq.trans (World.drewN_drewN _ _ _) (congrArg (World.drewN _) (Nat.add_assoc _ _ _))⟩)) | (go_at_call 29; (with_reducible refine (waybilllaw13_Tame.calls k (fun k_ => k_ < w.heap.size) _ _ l0 t0 _ ?side1 HT0.out).mono ?_); (case side1 => exact Kd.V_mk HC0.out (Kd.F_below (Kd.C_F k38_heap HR0.out) (by repeat (first | (with_reducible first | exact HB.out | apply below_alloc | apply pw_below_drewN | apply below_drew1) | exact HB.out)))); rintro e w2 ⟨vt0, rfl, ho0, hb⟩; have HO0 := Aside0.mk (Kd.N_lower (Kd.N_mono (ok' := fun k_ => True) ho0 (fun k_ hk_ => trivial)) (below_size (by repeat (first | (with_reducible first | exact HB.out | apply below_alloc | apply pw_below_drewN | apply below_drew1) | exact HB.out)))); have n1_ := Aside0.mk (below_step (by repeat (first | (with_reducible first | exact HB.out | apply below_alloc | apply pw_below_drewN | apply below_drew1) | exact HB.out)) hb); clear HB; have HB := n1_; clear n1_; (try clear hb); (try clear ho0); obtain ⟨At0, ct0, et0⟩ := Kd.N_slice HO0.out; subst et0) | (go_at_call 29; (with_reducible refine (waybilllaw13_Tame.calls k (fun k_ => k_ < w.heap.size) _ _ l1 t1 _ ?side1 HT1.out).mono ?_); (case side1 => exact Kd.V_mk HC1.out (Kd.F_below (Kd.C_F k38_heap HR1.out) (by repeat (first | (with_reducible first | exact HB.out | apply below_alloc | apply pw_below_drewN | apply below_drew1) | exact HB.out)))); rintro e w3 ⟨vt1, rfl, ho0, hb⟩; have n0_ := Aside0.mk (Kd.N_below (by (with_reducible repeat (first | apply Kd.N_alloc | apply Kd.N_drewN | apply Kd.N_drew)); exact HO0.out) hb); clear HO0; have HO0 := n0_; clear n0_; have HO1 := Aside0.mk (Kd.N_lower (Kd.N_mono (ok' := fun k_ => True) ho0 (fun k_ hk_ => trivial)) (below_size (by repeat (first | (with_reducible first | exact HB.out | apply below_alloc | apply pw_below_drewN | apply below_drew1) | exact HB.out)))); have n1_ := Aside0.mk (below_step (by repeat (first | (with_reducible first | exact HB.out | apply below_alloc | apply pw_below_drewN | apply below_drew1) | exact HB.out)) hb); clear HB; have HB := n1_; clear n1_; (try clear hb); (try clear ho0); obtain ⟨At1, ct1, et1⟩ := Kd.N_slice HO1.out; subst et1) | ((with_reducible refine gate_dst (N := 29) rfl ?_); refine Kd.N_lit k38 (w0 := w) w.heap.size 38 ?hg (N' := 29) ?hd (xs := ([] : List S38)) (inner := []) (ok := fun _ => True) (okp := fun _ => True) ?hr ?hp (fun _ _ => trivial) trivial ?hB ?hbase (by simp) ?_; (case hd => rfl); (case hg => rfl); (case hr => first | (go_simp; done) | (go_simp; rfl)); (case hp => exact (Reps.none _ _)); (case hB => exact (by repeat (first | (with_reducible first | exact HB.out | apply below_alloc | apply pw_below_drewN | apply below_drew1) | exact HB.out))); (case hbase => exact below_size (by repeat (first | (with_reducible first | exact HB.out | apply below_alloc | apply pw_below_drewN | apply below_drew1) | exact HB.out))); intro v4 w4 ho hb hg hat; obtain ⟨M, hf0, hf1, hat4, hm4⟩ := lit_pack (Kd.N_F (by (with_reducible repeat (first | apply Kd.N_alloc | apply Kd.N_drewN | apply Kd.N_drew)); exact HO0.out)) (Kd.N_F (by (with_reducible repeat (first | apply Kd.N_alloc | apply Kd.N_drewN | apply Kd.N_drew)); exact HO1.out)) hg hat; have HF0 := Aside0.mk hf0; have HF1 := Aside0.mk hf1; have HAT4 := Aside0.mk hat4; have HM4 := Aside0.mk hm4; have HV4 := Aside0.mk ho; clear HB; have HB := Aside0.mk hb; clear ho hb hg hat hf0 hf1 hat4 hm4) | ((with_reducible refine gate_builtin (b := .append) (xs := #[.tmp 29, .tmp 30]) rfl ?_); at_builtin; refine Kd.N_append_rows k38 (w0 := w) w.heap.size rfl (.tmp 29) (.tmp 30) 39 38 (.agg #[(.string ⟨#[]⟩), (.bool false), (.slice none 0 0)]) 48 rfl Try.underlying39 info38_ rfl (by decide) (by decide) v4 ([] : List S38) t0 _ _ _ (fun _ => True) (fun k_ => k_ < M) rfl rfl ?aV ?aR ?aK (fun _ _ => trivial) ?aB ?aS ?aL ?_; (case aV => exact (by (with_reducible repeat (first | apply Kd.N_alloc | apply Kd.N_drewN | apply Kd.N_drew)); exact HV4.out)); (case aR => exact (by (with_reducible repeat (first | apply Kd.F_alloc | apply Kd.F_drewN | apply Kd.F_drew)); exact HF0.out)); (case aK => exact fun k_ hk_ => ⟨trivial, fun he_ => Nat.not_lt.2 (HAT4.out _ he_.symm) hk_⟩); (case aB => exact (by repeat (first | (with_reducible first | exact HB.out | apply below_alloc | apply pw_below_drewN | apply below_drew1) | exact HB.out))); (case aS => exact below_size (by repeat (first | (with_reducible first | exact HB.out | apply below_alloc | apply pw_below_drewN | apply below_drew1) | exact HB.out))); (case aL => have h_ := HTL.out; rw [List.length_append] at h_; first | omega | (simp only [List.length_nil]; omega)); intro v5 w5 ho hb hg hat; rw [List.nil_append] at ho; obtain ⟨hf1, hat5, hm5⟩ := app_pack (by (with_reducible repeat (first | apply Kd.F_alloc | apply Kd.F_drewN | apply Kd.F_drew)); exact HF1.out) HAT4.out (by first | exact HM4.out | (simp; exact HM4.out) | (simp; omega)) hg hat; clear HF0 HF1; have HF1 := Aside0.mk hf1; have HAT5 := Aside0.mk hat5; have HM5 := Aside0.mk hm5; have HV5 := Aside0.mk ho; clear hf1 hat5 hm5; clear HB; have HB := Aside0.mk hb; clear ho hb hg hat) | ((with_reducible refine gate_builtin (b := .append) (xs := #[.tmp 31, .tmp 32]) rfl ?_); at_builtin; refine Kd.N_append_rows k38 (w0 := w) w.heap.size rfl (.tmp 31) (.tmp 32) 39 38 (.agg #[(.string ⟨#[]⟩), (.bool false), (.slice none 0 0)]) 48 rfl Try.underlying39 info38_ rfl (by decide) (by decide) v5 (t0) t1 _ _ _ (fun _ => True) (fun k_ => k_ < M) rfl rfl ?aV ?aR ?aK (fun _ _ => trivial) ?aB ?aS ?aL ?_; (case aV => exact (by (with_reducible repeat (first | apply Kd.N_alloc | apply Kd.N_drewN | apply Kd.N_drew)); exact HV5.out)); (case aR => exact (by (with_reducible repeat (first | apply Kd.F_alloc | apply Kd.F_drewN | apply Kd.F_drew)); exact HF1.out)); (case aK => exact fun k_ hk_ => ⟨trivial, fun he_ => Nat.not_lt.2 (HAT5.out _ he_.symm) hk_⟩); (case aB => exact (by repeat (first | (with_reducible first | exact HB.out | apply below_alloc | apply pw_below_drewN | apply below_drew1) | exact HB.out))); (case aS => exact below_size (by repeat (first | (with_reducible first | exact HB.out | apply below_alloc | apply pw_below_drewN | apply below_drew1) | exact HB.out))); (case aL => have h_ := HTL.out; rw [List.length_append] at h_; first | omega | (simp only [List.length_nil]; omega)); intro v6 w6 ho hb hg hat; rw [HL.out] at ho; obtain ⟨A6, c6, e6⟩ := Kd.N_slice ho; subst e6; have HV6 := Aside0.mk ho; clear HF1 HV4 HV5 HAT4 HAT5 HM4 HM5 HO0 HO1; clear HB; have HB := Aside0.mk hb; clear ho hb hg hat))
  have HF := Aside0.mk (Kd.N_F HV6.out)
  go_upto_region 6 with (first | ((with_reducible refine gate_dst (N := 34) rfl ?_); refine map_event ?hg (N := 34) ?hd ?hr ?_; (case hd => rfl); (case hg => rfl); (case hr => first | (go_simp; done) | (go_simp; rfl)); intro b1 he w7 hm hb; have hf_ := map_pack (by (with_reducible repeat (first | apply Kd.F_alloc | apply Kd.F_drewN | apply Kd.F_drew)); exact HF.out) he hb; clear HF; have HF := Aside0.mk hf_; clear hf_; have HM1 := Aside0.mk hm; have HB1 := Aside0.mk (show w.heap.size ≤ b1 from by rw [he]; exact below_size (by repeat (first | (with_reducible first | exact HB.out | apply below_alloc | apply pw_below_drewN | apply below_drew1) | exact HB.out))); have n1_ := Aside0.mk (below_step (by repeat (first | (with_reducible first | exact HB.out | apply below_alloc | apply pw_below_drewN | apply below_drew1) | exact HB.out)) hb); clear HB; have HB := n1_; clear n1_; clear hm hb he) | ((with_reducible refine gate_dst (N := 35) rfl ?_); refine map_event ?hg (N := 35) ?hd ?hr ?_; (case hd => rfl); (case hg => rfl); (case hr => first | (go_simp; done) | (go_simp; rfl)); intro b2 he w8 hm hb; have n0_ := Aside0.mk (Kd.F_below (by (with_reducible repeat (first | apply Kd.F_alloc | apply Kd.F_drewN | apply Kd.F_drew)); exact HF.out) hb); clear HF; have HF := n0_; clear n0_; have n0_ := Aside0.mk (Ma.below (by (with_reducible repeat (first | apply Ma.is_alloc | apply Ma.is_drewN | apply Ma.is_drew)); exact HM1.out) hb); have HB12 := Aside0.mk (show b1 < b2 from by rw [he]; exact Ma.lt (by (with_reducible repeat (first | apply Ma.is_alloc | apply Ma.is_drewN | apply Ma.is_drew)); exact HM1.out)); clear HM1; have HM1 := n0_; clear n0_; have HM2 := Aside0.mk hm; have n1_ := Aside0.mk (below_step (by repeat (first | (with_reducible first | exact HB.out | apply below_alloc | apply pw_below_drewN | apply below_drew1) | exact HB.out)) hb); clear HB; have HB := n1_; clear n1_; clear hm hb he))
  have HCap := Aside0.mk (Kd.N_reads' HV6.out).2.1
  clear HV6
  have hML : 1000 < maxLen := by decide
  have HE1 := Aside0.mk (show ([] : List (Lit × DataW Unit)).length + l.length < maxLen from by have := HN.out; simp only [List.length_nil]; omega)
  go_upto_region 7 with (first | (go_at_call 35; (with_reducible refine (unit_Apply.calls A6 c6 l b1 [] _ ?a1 ?a2 ?a3 ?a4 ?a5).mono ?_); (case a1 => exact Kd.F_now (by (with_reducible repeat (first | apply Kd.F_alloc | apply Kd.F_drewN | apply Kd.F_drew)); exact HF.out)); (case a2 => exact HCap.out); (case a3 => exact (by (with_reducible repeat (first | apply Ma.is_alloc | apply Ma.is_drewN | apply Ma.is_drew)); exact HM1.out)); (case a4 => exact HE1.out); (case a5 => exact HK.out); rintro e w9 ⟨rfl, hm, hg⟩; have n0_ := Aside0.mk (Kd.F_grown (by (with_reducible repeat (first | apply Kd.F_alloc | apply Kd.F_drewN | apply Kd.F_drew)); exact HF.out) hg (fun k_ hk_ he_ => by injection he_ with he_; subst he_; exact absurd hk_ (Nat.lt_irrefl _))); clear HF; have HF := n0_; clear n0_; have n0_ := Aside0.mk (Ma.kept (by (with_reducible repeat (first | apply Ma.is_alloc | apply Ma.is_drewN | apply Ma.is_drew)); exact HM2.out) hg (fun he_ => by injection he_ with he_; have := HB12.out; omega)); clear HM2; have HM2 := n0_; clear HM1; have HM1 := Aside0.mk hm; have n1_ := Aside0.mk (below_grown (by repeat (first | (with_reducible first | exact HB.out | apply below_alloc | apply pw_below_drewN | apply below_drew1) | exact HB.out)) hg HB1.out); clear HB; have HB := n1_; clear n1_; clear hm hg))
  have hw1 : wrap64 ((l.length : Int) + 1) = (l.length : Int) + 1 := by have := HN.out; unfold wrap64; omega
  have hz1 : (((l.length : Int) + 1) = 0) = False := by simp; omega
  go_upto_region 8 with (fail)
  generalize hJ : (Go.bits BinOp.and IntKind.i64 kk 255).tmod ((l.length : Int) + 1) = J
  have hJ0 : 0 ≤ J := by rw [← hJ]; exact Int.tmod_nonneg _ (and255 kk)
  have hJ1 : J ≤ (l.length : Int) := by
    have := Int.tmod_lt_of_pos (Go.bits .and .i64 kk 255) (show 0 < (l.length : Int) + 1 by omega)
    omega
  clear hJ hw1 hz1
  obtain ⟨i38, hi38, _, hsz38, _⟩ := info_parts info38_
  obtain ⟨P1, hP1⟩ : ∃ P1, P1 = l.take J.toNat := ⟨_, rfl⟩
  obtain ⟨P2, hP2⟩ : ∃ P2, P2 = l.drop J.toNat := ⟨_, rfl⟩
  have hl1 : P1.length = J.toNat := by rw [hP1, List.length_take]; omega
  have hl2 : P2.length = l.length - J.toNat := by rw [hP2, List.length_drop]
  have hcut1 := cut_to (P := Try.prog) 39 38 .i64 Try.underlying39 hi38 A6 l.length c6 J hJ0 hJ1 HCap.out
  rw [← hl1] at hcut1
  have hcut2 := cut_from (P := Try.prog) 39 38 .i64 Try.underlying39 hi38 3 hsz38 A6 l.length c6 J hJ0 hJ1
  rw [← hl2] at hcut2
  have hC2 : P2.length ≤ c6 - J.toNat := by have := HCap.out; omega
  have hf1 : ∀ W ok, Kd.F k38 W ok A6 l.length l → Kd.F k38 W ok A6 P1.length P1 := fun W ok h => by rw [hP1]; exact Kd.F_take h (by omega)
  have hf2 : ∀ W ok, Kd.F k38 W ok A6 l.length l → Kd.F k38 W ok (if c6 = J.toNat then A6 else Option.map (fun (x : Addr) => x.add (J.toNat * 3)) A6) P2.length P2 := fun W ok h => by rw [hP2]; exact Kd.F_cut h (by omega) HCap.out
  generalize hAX : (if c6 = J.toNat then A6 else Option.map (fun (x : Addr) => x.add (J.toNat * 3)) A6) = AX at hcut2 hf2
  generalize hCX : c6 - J.toNat = CX at hcut2 hC2
  have HF1 := Aside0.mk hf1
  have HF2 := Aside0.mk hf2
  have HC1 := Aside0.mk (show P1.length ≤ c6 from by have := HCap.out; omega)
  have HC2 := Aside0.mk hC2
  have HE2 := Aside0.mk (show ([] : List (Lit × DataW Unit)).length + P1.length < maxLen from by have := HN.out; simp only [List.length_nil]; omega)
  have HE3 := Aside0.mk (show (unit_Apply.all [] P1).length + P2.length < maxLen from by
    have h1 := HN.out
    have h2 := unit_Apply.all_len P1 []
    simp only [List.length_nil] at h2
    omega)
  have HK1 := Aside0.mk (show ∀ x ∈ P1, x.f0.size ≤ maxLen ∧ x.f2.length ≤ maxLen from fun x hx => HK.out x (by rw [hP1] at hx; exact List.mem_of_mem_take hx))
  have HK2 := Aside0.mk (show ∀ x ∈ P2, x.f0.size ≤ maxLen ∧ x.f2.length ≤ maxLen from fun x hx => HK.out x (by rw [hP2] at hx; exact List.mem_of_mem_drop hx))
  have HPP := Aside0.mk (show unit_Apply.all (unit_Apply.all [] P1) P2 = unit_Apply.all [] l from by rw [hP1, hP2]; exact UA.parts l J.toNat)
  clear hP1 hP2 hf1 hf2 hC2 hl1 hl2 hAX hCX hJ0 hJ1 hi38 hsz38
  go_upto_region 9 with (first | (go_at_call 35; (with_reducible refine (unit_Apply.calls A6 c6 P1 b2 [] _ ?a1 ?a2 ?a3 ?a4 ?a5).mono ?_); (case a1 => exact Kd.F_now (HF1.out _ _ (by (with_reducible repeat (first | apply Kd.F_alloc | apply Kd.F_drewN | apply Kd.F_drew)); exact HF.out))); (case a2 => exact HC1.out); (case a3 => exact (by (with_reducible repeat (first | apply Ma.is_alloc | apply Ma.is_drewN | apply Ma.is_drew)); exact HM2.out)); (case a4 => exact HE2.out); (case a5 => exact HK1.out); rintro e w10 ⟨rfl, hm, hg⟩; have n0_ := Aside0.mk (Kd.F_grown (by (with_reducible repeat (first | apply Kd.F_alloc | apply Kd.F_drewN | apply Kd.F_drew)); exact HF.out) hg (fun k_ hk_ he_ => by injection he_ with he_; subst he_; have := HB12.out; omega)); clear HF; have HF := n0_; clear n0_; have n0_ := Aside0.mk (Ma.kept (by (with_reducible repeat (first | apply Ma.is_alloc | apply Ma.is_drewN | apply Ma.is_drew)); exact HM1.out) hg (fun he_ => by injection he_ with he_; have := HB12.out; omega)); clear HM1; have HM1 := n0_; clear n0_; clear HM2; have HM2 := Aside0.mk hm; have n1_ := Aside0.mk (below_grown (by repeat (first | (with_reducible first | exact HB.out | apply below_alloc | apply pw_below_drewN | apply below_drew1) | exact HB.out)) hg (Nat.le_trans HB1.out (Nat.le_of_lt HB12.out))); clear HB; have HB := n1_; clear n1_; clear hm hg))
  go_upto_region 10 with (first | (go_at_call 35; (with_reducible refine (unit_Apply.calls AX _ P2 b2 (unit_Apply.all [] P1) _ ?a1 ?a2 ?a3 ?a4 ?a5).mono ?_); (case a1 => exact Kd.F_now (HF2.out _ _ (by (with_reducible repeat (first | apply Kd.F_alloc | apply Kd.F_drewN | apply Kd.F_drew)); exact HF.out))); (case a2 => exact HC2.out); (case a3 => exact (by (with_reducible repeat (first | apply Ma.is_alloc | apply Ma.is_drewN | apply Ma.is_drew)); exact HM2.out)); (case a4 => exact HE3.out); (case a5 => exact HK2.out); rintro e w11 ⟨rfl, hm, hg⟩; have n0_ := Aside0.mk (Kd.F_grown (by (with_reducible repeat (first | apply Kd.F_alloc | apply Kd.F_drewN | apply Kd.F_drew)); exact HF.out) hg (fun k_ hk_ he_ => by injection he_ with he_; subst he_; have := HB12.out; omega)); clear HF; have HF := n0_; clear n0_; have n0_ := Aside0.mk (Ma.kept (by (with_reducible repeat (first | apply Ma.is_alloc | apply Ma.is_drewN | apply Ma.is_drew)); exact HM1.out) hg (fun he_ => by injection he_ with he_; have := HB12.out; omega)); clear HM1; have HM1 := n0_; clear n0_; clear HM2; have HM2 := Aside0.mk hm; have n1_ := Aside0.mk (below_grown (by repeat (first | (with_reducible first | exact HB.out | apply below_alloc | apply pw_below_drewN | apply below_drew1) | exact HB.out)) hg (Nat.le_trans HB1.out (Nat.le_of_lt HB12.out))); clear HB; have HB := n1_; clear n1_; clear hm hg))
  clear hcut1 hcut2
  go_upto_region 12 with (first | ((with_reducible refine gate_dst (N := 56) rfl ?_); refine box_event ?hg (N := 56) ?hd (cs := #[.slice none 0 0]) (t := 66) ?hr ?_; (case hd => rfl); (case hg => rfl); (case hr => first | (go_simp; done) | (go_simp; rfl)); intro gm he w12 hbox hb; have HG2 := Aside0.mk (show b2 < gm from by rw [he]; exact Ma.lt (by (with_reducible repeat (first | apply Ma.is_alloc | apply Ma.is_drewN | apply Ma.is_drew)); exact HM2.out)); have HGM := Aside0.mk (show w.heap.size ≤ gm from by rw [he]; exact below_size (by repeat (first | (with_reducible first | exact HB.out | apply below_alloc | apply pw_below_drewN | apply below_drew1) | exact HB.out))); have BK := Aside0.mk hbox; have n0_ := Aside0.mk (Kd.F_below (by (with_reducible repeat (first | apply Kd.F_alloc | apply Kd.F_drewN | apply Kd.F_drew)); exact HF.out) hb); clear HF; have HF := n0_; clear n0_; have n0_ := Aside0.mk (Ma.below (by (with_reducible repeat (first | apply Ma.is_alloc | apply Ma.is_drewN | apply Ma.is_drew)); exact HM1.out) hb); clear HM1; have HM1 := n0_; clear n0_; have n0_ := Aside0.mk (Ma.below (by (with_reducible repeat (first | apply Ma.is_alloc | apply Ma.is_drewN | apply Ma.is_drew)); exact HM2.out) hb); clear HM2; have HM2 := n0_; clear n0_; have n1_ := Aside0.mk (below_step (by repeat (first | (with_reducible first | exact HB.out | apply below_alloc | apply pw_below_drewN | apply below_drew1) | exact HB.out)) hb); clear HB; have HB := n1_; clear n1_; clear hbox hb he) | (go_at_call 36; (with_reducible refine (Map_Do.calls A6 c6 l gm _ ?a1 ?a2 ?a3 ?a4).mono ?_); (case a1 => exact fun w_ hb_ => Kd.F_now (Kd.F_step (by (with_reducible repeat (first | apply Kd.F_alloc | apply Kd.F_drewN | apply Kd.F_drew)); exact HF.out) (fun k_ hk_ _ => hb_.block k_ (by have h1_ := HG2.out; have h2_ := HB12.out; have h3_ : k_ < b1 := hk_; omega)))); (case a2 => exact HCap.out); (case a3 => exact (by (with_reducible repeat (first | exact BK.out | refine blk_drewN ?_ _ | refine blk_drew ?_)))); (case a4 => have := HN.out; omega); rintro e w13 ⟨rfl, ⟨v, hv, hR⟩, hb⟩; have n0_ := Aside0.mk (Ma.below_at (by (with_reducible repeat (first | apply Ma.is_alloc | apply Ma.is_drewN | apply Ma.is_drew)); exact HM1.out) hb (Nat.lt_trans HB12.out HG2.out)); clear HM1; have HM1 := n0_; clear n0_; have n0_ := Aside0.mk (Ma.below_at (by (with_reducible repeat (first | apply Ma.is_alloc | apply Ma.is_drewN | apply Ma.is_drew)); exact HM2.out) hb HG2.out); clear HM2; have HM2 := n0_; clear n0_; clear BK HF; have BK := Aside0.mk hv; have HO := Aside0.mk hR; have n1_ := Aside0.mk (Below.trans (by repeat (first | (with_reducible first | exact HB.out | apply below_alloc | apply pw_below_drewN | apply below_drew1) | exact HB.out)) (hb.mono HGM.out)); clear HB; have HB := n1_; clear n1_; clear hv hR hb))
  clear HF1 HF2 HC1 HC2 HE1 HE2 HE3 HK1 HK2 HCap HL HTL
  obtain ⟨R, hR⟩ : ∃ R, R = Map_Do.all [] l := ⟨_, rfl⟩
  have n1_ := Aside0.mk (show Ma.Is Try.prog w13 b1 (R.map UA.ent) from by rw [hR, ← (UA.tells l).1]; exact HM1.out)
  have n2_ := Aside0.mk (show Ma.Is Try.prog w13 b2 (R.map UA.ent) from by rw [hR, ← (UA.tells l).1, ← HPP.out]; exact HM2.out)
  clear HM1 HM2 HPP
  have HM1 := n1_
  have HM2 := n2_
  clear n1_ n2_
  have HUP := Aside0.mk (show UA.Up R from by rw [hR]; exact (UA.tells l).2)
  have HRl := Aside0.mk (show R.length ≤ 60 from by
    have h1 := Map_Do.all_len l []
    have h2 := HN.out
    rw [hR]
    simp only [List.length_nil] at h1
    omega)
  have HRk := Aside0.mk (show ∀ y ∈ R, y.f0.size ≤ maxLen from fun y hy => by
    rw [hR] at hy
    rcases UA.all_mem l hy with h | ⟨x, hx, e⟩
    · cases h
    · rw [e]; exact (HK.out x hx).1)
  rw [← hR] at HO
  clear hR HK HN HT0 HT1 HS0 HS1 HR0 HR1 HC0
  obtain ⟨Av, cv, ev⟩ := Kd.R_slice HO.out
  subst ev
  try go_wp2
  have n1_ := Aside0.mk (Ma.is_drew HM1.out)
  have n2_ := Aside0.mk (Ma.is_drew HM2.out)
  have n3_ := Aside0.mk (blk_drew BK.out)
  have n4_ := Aside0.mk (Kd.R_drew HO.out)
  have n5_ := Aside0.mk (below_drew1 HB.out)
  clear HM1 HM2 BK HO HB
  have HM1 := n1_
  have HM2 := n2_
  have BK := n3_
  have HO := n4_
  have HB := n5_
  clear n1_ n2_ n3_ n4_ n5_
  have hln1 := Ma.len_run Try.underlying61 HM1.out 3
  have hln2 := Ma.len_run Try.underlying61 HM2.out 3
  rw [List.length_map] at hln1 hln2
  have hcg : w13.drew.cell? ⟨gm, 0, none⟩ = some (.slice Av R.length cv) := (blk_cell BK.out 0).trans rfl
  refine start_ (n := 18) (S := fun w' => w'.cell? ⟨gm, 0, none⟩ = some (.slice Av R.length cv) ∧ (Builtin.len_ #[61] 3 #[.map (some b1)]).run Try.prog w' = .ok (.int .i64 (R.length : Int)) w' ∧ (Builtin.len_ #[61] 3 #[.map (some b2)]).run Try.prog w' = .ok (.int .i64 (R.length : Int)) w') (ds := []) #[false, false, false, false, false, false, false, false, false, false, false, false, false, false, false, false, false, false] (by kernel_rfl) rfl rfl ⟨hcg, hln1, hln2⟩ (fun hHeld => ?_)
  refine pure_ (i := 0) (N := some 60) (v := ?_) (a' := ?_) #[true, false, false, false, false, false, false, false, false, false, false, false, false, false, false, false, false, false] rfl rfl (by kernel_rfl) (fun _ _ _ h => h) (Or.inl ⟨by rfl, ?_⟩) ?_ ?_
  rotate_left
  · intro w'
    go_simp
    with_reducible rfl
  rotate_left
  · simp only [Act.put, List.setIfInBounds_toArray, List.set_cons_zero, List.set_cons_succ, i64_w, i32_w]
    rfl
  refine pure_ (i := 2) (N := some 62) (v := ?_) (a' := ?_) #[true, false, true, false, false, false, false, false, false, false, false, false, false, false, false, false, false, false] rfl rfl (by kernel_rfl) (fun _ _ _ h => h) (Or.inl ⟨by rfl, ?_⟩) ?_ ?_
  rotate_left
  · intro w'
    go_simp
    with_reducible rfl
  rotate_left
  · simp only [Act.put, List.setIfInBounds_toArray, List.set_cons_zero, List.set_cons_succ, i64_w, i32_w]
    rfl
  refine pure_ (i := 3) (N := some 63) (v := ?_) (a' := ?_) #[true, false, true, true, false, false, false, false, false, false, false, false, false, false, false, false, false, false] rfl rfl (by kernel_rfl) (fun _ _ _ h => h) (Or.inl ⟨by rfl, ?_⟩) ?_ ?_
  rotate_left
  · intro w'
    go_simp
    with_reducible rfl
  rotate_left
  · simp only [Act.put, List.setIfInBounds_toArray, List.set_cons_zero, List.set_cons_succ, i64_w, i32_w]
    rfl
  refine pure_ (i := 4) (N := some 64) (v := ?_) (a' := ?_) #[true, false, true, true, true, false, false, false, false, false, false, false, false, false, false, false, false, false] rfl rfl (by kernel_rfl) (fun _ _ _ h => h) (Or.inl ⟨by rfl, ?_⟩) ?_ ?_
  rotate_left
  · intro w'
    go_simp
    with_reducible rfl
  rotate_left
  · simp only [Act.put, List.setIfInBounds_toArray, List.set_cons_zero, List.set_cons_succ, i64_w, i32_w]
    rfl
  refine take_ (i := 1) (N := some 61) (v := ?_) (a' := ?_) #[true, true, true, true, true, false, false, false, false, false, false, false, false, false, false, false, false, false] rfl rfl (by kernel_rfl) (fun _ _ _ h => h) (Or.inl ⟨by rfl, ?_⟩) hHeld ?_ ?_
  rotate_left
  · rintro w' ⟨s0, s1, s2⟩
    go_simp
    with_reducible rfl
  rotate_left
  · simp only [Act.put, List.setIfInBounds_toArray, List.set_cons_zero, List.set_cons_succ, i64_w, i32_w]
    rfl
  refine take_ (i := 5) (N := some 65) (v := ?_) (a' := ?_) #[true, true, true, true, true, true, false, false, false, false, false, false, false, false, false, false, false, false] rfl rfl (by kernel_rfl) (fun _ _ _ h => h) (Or.inl ⟨by rfl, ?_⟩) hHeld ?_ ?_
  rotate_left
  · rintro w' ⟨s0, s1, s2⟩
    go_simp
    with_reducible rfl
  rotate_left
  · simp only [Act.put, List.setIfInBounds_toArray, List.set_cons_zero, List.set_cons_succ, i64_w, i32_w]
    rfl
  refine pure_ (i := 6) (N := some 66) (v := ?_) (a' := ?_) #[true, true, true, true, true, true, true, false, false, false, false, false, false, false, false, false, false, false] rfl rfl (by kernel_rfl) (fun _ _ _ h => h) (Or.inl ⟨by rfl, ?_⟩) ?_ ?_
  rotate_left
  · intro w'
    go_simp
    with_reducible rfl
  rotate_left
  · simp only [Act.put, List.setIfInBounds_toArray, List.set_cons_zero, List.set_cons_succ, i64_w, i32_w]
    rfl
  refine pure_ (i := 7) (N := some 67) (v := ?_) (a' := ?_) #[true, true, true, true, true, true, true, true, false, false, false, false, false, false, false, false, false, false] rfl rfl (by kernel_rfl) (fun _ _ _ h => h) (Or.inl ⟨by rfl, ?_⟩) ?_ ?_
  rotate_left
  · intro w'
    go_simp
    with_reducible rfl
  rotate_left
  · simp only [Act.put, List.setIfInBounds_toArray, List.set_cons_zero, List.set_cons_succ, i64_w, i32_w]
    rfl
  refine pure_ (i := 8) (N := some 68) (v := ?_) (a' := ?_) #[true, true, true, true, true, true, true, true, true, false, false, false, false, false, false, false, false, false] rfl rfl (by kernel_rfl) (fun _ _ _ h => h) (Or.inl ⟨by rfl, ?_⟩) ?_ ?_
  rotate_left
  · intro w'
    go_simp
    with_reducible rfl
  rotate_left
  · simp only [Act.put, List.setIfInBounds_toArray, List.set_cons_zero, List.set_cons_succ, i64_w, i32_w]
    rfl
  refine pure_ (i := 9) (N := some 69) (v := ?_) (a' := ?_) #[true, true, true, true, true, true, true, true, true, true, false, false, false, false, false, false, false, false] rfl rfl (by kernel_rfl) (fun _ _ _ h => h) (Or.inl ⟨by rfl, ?_⟩) ?_ ?_
  rotate_left
  · intro w'
    go_simp
    with_reducible rfl
  rotate_left
  · simp only [Act.put, List.setIfInBounds_toArray, List.set_cons_zero, List.set_cons_succ, i64_w, i32_w]
    rfl
  refine pure_ (i := 11) (N := some 71) (v := ?_) (a' := ?_) #[true, true, true, true, true, true, true, true, true, true, false, true, false, false, false, false, false, false] rfl rfl (by kernel_rfl) (fun _ _ _ h => h) (Or.inl ⟨by rfl, ?_⟩) ?_ ?_
  rotate_left
  · intro w'
    go_simp
    with_reducible rfl
  rotate_left
  · simp only [Act.put, List.setIfInBounds_toArray, List.set_cons_zero, List.set_cons_succ, i64_w, i32_w]
    rfl
  refine pure_ (i := 12) (N := some 72) (v := ?_) (a' := ?_) #[true, true, true, true, true, true, true, true, true, true, false, true, true, false, false, false, false, false] rfl rfl (by kernel_rfl) (fun _ _ _ h => h) (Or.inl ⟨by rfl, ?_⟩) ?_ ?_
  rotate_left
  · intro w'
    go_simp
    with_reducible rfl
  rotate_left
  · simp only [Act.put, List.setIfInBounds_toArray, List.set_cons_zero, List.set_cons_succ, i64_w, i32_w]
    rfl
  refine pure_ (i := 13) (N := some 73) (v := ?_) (a' := ?_) #[true, true, true, true, true, true, true, true, true, true, false, true, true, true, false, false, false, false] rfl rfl (by kernel_rfl) (fun _ _ _ h => h) (Or.inl ⟨by rfl, ?_⟩) ?_ ?_
  rotate_left
  · intro w'
    go_simp
    with_reducible rfl
  rotate_left
  · simp only [Act.put, List.setIfInBounds_toArray, List.set_cons_zero, List.set_cons_succ, i64_w, i32_w]
    rfl
  refine take_ (i := 10) (N := some 70) (v := ?_) (a' := ?_) #[true, true, true, true, true, true, true, true, true, true, true, true, true, true, false, false, false, false] rfl rfl (by kernel_rfl) (fun _ _ _ h => h) (Or.inl ⟨by rfl, ?_⟩) hHeld ?_ ?_
  rotate_left
  · rintro w' ⟨s0, s1, s2⟩
    go_simp
    with_reducible rfl
  rotate_left
  · simp only [Act.put, List.setIfInBounds_toArray, List.set_cons_zero, List.set_cons_succ, i64_w, i32_w]
    rfl
  refine take_ (i := 14) (N := some 74) (v := ?_) (a' := ?_) #[true, true, true, true, true, true, true, true, true, true, true, true, true, true, true, false, false, false] rfl rfl (by kernel_rfl) (fun _ _ _ h => h) (Or.inl ⟨by rfl, ?_⟩) hHeld ?_ ?_
  rotate_left
  · rintro w' ⟨s0, s1, s2⟩
    go_simp
    with_reducible rfl
  rotate_left
  · simp only [Act.put, List.setIfInBounds_toArray, List.set_cons_zero, List.set_cons_succ, i64_w, i32_w]
    rfl
  refine pure_ (i := 15) (N := some 75) (v := ?_) (a' := ?_) #[true, true, true, true, true, true, true, true, true, true, true, true, true, true, true, true, false, false] rfl rfl (by kernel_rfl) (fun _ _ _ h => h) (Or.inl ⟨by rfl, ?_⟩) ?_ ?_
  rotate_left
  · intro w'
    go_simp
    with_reducible rfl
  rotate_left
  · simp only [Act.put, List.setIfInBounds_toArray, List.set_cons_zero, List.set_cons_succ, i64_w, i32_w]
    rfl
  refine pure_ (i := 16) (N := some 76) (v := ?_) (a' := ?_) #[true, true, true, true, true, true, true, true, true, true, true, true, true, true, true, true, true, false] rfl rfl (by kernel_rfl) (fun _ _ _ h => h) (Or.inl ⟨by rfl, ?_⟩) ?_ ?_
  rotate_left
  · intro w'
    go_simp
    with_reducible rfl
  rotate_left
  · simp only [Act.put, List.setIfInBounds_toArray, List.set_cons_zero, List.set_cons_succ, i64_w, i32_w]
    rfl
  refine pure_ (i := 17) (N := some 77) (v := ?_) (a' := ?_) #[true, true, true, true, true, true, true, true, true, true, true, true, true, true, true, true, true, true] rfl rfl (by kernel_rfl) (fun _ _ _ h => h) (Or.inl ⟨by rfl, ?_⟩) ?_ ?_
  rotate_left
  · intro w'
    go_simp
    with_reducible rfl
  rotate_left
  · simp only [Act.put, List.setIfInBounds_toArray, List.set_cons_zero, List.set_cons_succ, i64_w, i32_w]
    rfl
  refine done_ (by kernel_rfl) ?_
  clear hln1 hln2 hcg
  try go_wp2
  go_loopg [11] (R.length + 1) (fun kq v11 w' => ∃ j : Int, v11 = .int .i64 j ∧ Aside0 (0 ≤ j) ∧ Aside0 (j ≤ (R.length : Int)) ∧ Aside0 (kq + j.toNat = R.length + 1) ∧ Aside0 (w'.heap[gm]? = some (.cells #[.slice Av R.length cv] 66 (0, 0))) ∧ Aside0 (Kd.R k70 70 w' (gm + 1) (fun _ => True) (.slice Av R.length cv) R) ∧ Aside0 (Ma.Is Try.prog w' b1 (R.map UA.ent)) ∧ Aside0 (Ma.Is Try.prog w' b2 (R.map UA.ent)) ∧ Aside0 (Below w.heap.size w w'))
  case atStart => exact ⟨0, rfl, ⟨by omega⟩, ⟨by omega⟩, ⟨rfl⟩, BK, HO, HM1, HM2, HB⟩
  case round =>
    clear BK HO HM1 HM2 HB
    obtain ⟨j, rfl, HP, HJ, HI, BK, HO, HM1, HM2, HB⟩ := hrel
    have hp := HP.out
    have hj := HJ.out
    by_cases c1 : j < (R.length : Int)
    · obtain ⟨k1, rfl⟩ : ∃ k1, gk = k1 + 1 := ⟨gk - 1, by have := HI.out; omega⟩
      have c1b : decide (j < (R.length : Int)) = true := decide_eq_true c1
      obtain ⟨av, eav, hx0, hx1⟩ := at_T70 (Kd.R_reads' HO.out).2.2 j hp c1
      subst eav
      have hcg : wr.cell? ⟨gm, 0, none⟩ = some (.slice (some av) R.length cv) := (blk_cell BK.out 0).trans rfl
      have hjn : j.toNat < R.length := by omega
      have erd := Map_Do.rd R j hp c1
      have hz9 : (zeroValue 9).run Try.prog wr = .ok (.string ⟨#[]⟩) wr := by kernel_rfl
      have hks : (rd_T70 R j).f0.size ≤ maxLen := HRk.out _ (by rw [erd]; exact List.getElem_mem hjn)
      obtain ⟨va, oka, hrunA, hatA⟩ := Ma.look (P := Try.prog) Try.underlying61 Try.underlying9 hz9 HM1.out (rd_T70 R j).f0 hks
      obtain ⟨vb, okb, hrunB, hatB⟩ := Ma.look (P := Try.prog) Try.underlying61 Try.underlying9 hz9 HM2.out (rd_T70 R j).f0 hks
      rw [erd] at hatA hatB
      obtain ⟨e1, e2⟩ := UA.told HUP.out j.toNat hjn hatA
      obtain ⟨e3, e4⟩ := UA.told HUP.out j.toNat hjn hatB
      rw [← erd] at e2 e4
      subst e1 e2 e3 e4
      clear hatA hatB erd hz9 hks hjn
      have HW := Aside0.mk (show wrap64 (j + 1) = j + 1 from by have := HRl.out; unfold wrap64; omega)
      have p0 : (0 ≤ j) = True := eq_true hp
      have q0 : (j < (R.length : Int)) = True := eq_true c1
      go_wp2
      go_roundg k1
      case measure => omega
      case rel => exact ⟨j + 1, by rw [HW.out], ⟨by omega⟩, ⟨by omega⟩, ⟨by have := HI.out; omega⟩, BK, HO, HM1, HM2, HB⟩
    · have c1b : decide (j < (R.length : Int)) = false := decide_eq_false c1
      have hcg : wr.cell? ⟨gm, 0, none⟩ = some (.slice Av R.length cv) := (blk_cell BK.out 0).trans rfl
      go_wp2_with (first | (go_at_call 21; (with_reducible refine (waybilllaw13_awake.calls k true _ HAW.out).mono ?_); rintro e wz ⟨rfl, hb⟩; have n0_ := Aside0.mk (below_step (by repeat (first | (with_reducible first | exact HB.out | apply below_alloc | apply pw_below_drewN | apply below_drew1) | exact HB.out)) hb); clear HB; have HB := n0_; clear n0_; (try clear hb)))
      all_goals first | (go_ret; exact ⟨rfl, (by repeat (first | (with_reducible first | exact HB.out | apply below_alloc | apply pw_below_drewN | apply below_drew1) | exact HB.out))⟩) | (exfalso; simp_all; done)
end Go.Proofs.Ytpjkaodbcclecaa.PM
