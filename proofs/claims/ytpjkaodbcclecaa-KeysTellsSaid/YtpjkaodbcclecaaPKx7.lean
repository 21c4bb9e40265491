/- What functions of the given program come to: printed; Lean checks it. -/
import Derived.Test.YtpjkaodbcclecaaPKx0
import Derived.Test.YtpjkaodbcclecaaPKx2
import Derived.Test.YtpjkaodbcclecaaPKx3
import Derived.Test.YtpjkaodbcclecaaPKx5
import Derived.Test.YtpjkaodbcclecaaPKx6
namespace Go.Proofs.Ytpjkaodbcclecaa.PK
open Go.RowKit Go.Proofs.YtpjkaodbcclecaaW.PrintWords Go.Proofs.YtpjkaodbcclecaaW.PrintLast Go.Proofs.YtpjkaodbcclecaaW.PrintMore
attribute [local go_sem] max2_int min2_int max_two min_two max_three min_three max_four min_four
set_option linter.unusedVariables false
set_option linter.unusedSimpArgs false

/-! ### octs_In_Left: function 56 -/
def octs_In_Left.f (s0_0 : List Int) (s0_1 : Bool) : Option (Int × List Int × Bool) := some ((s0_0.length : Int), s0_0, s0_1)
set_option maxHeartbeats 8000000 in
set_option maxRecDepth 100000 in
theorem octs_In_Left.calls (g : Nat) (s0_0 : List Int) (s0_1 : Bool) (r1 : Int) (r2 : List Int) (r3 : Bool) (w0 w : World) (hI : IsS117 w0 w g s0_0 s0_1) (hB : Below w0.heap.size w0 w) (h : octs_In_Left.f s0_0 s0_1 = some (r1, r2, r3)) :
    Calls Try.prog 56 #[.pointer (some ⟨g, 0, none⟩)] w fun e w' => e = .returned (.int .i64 r1) ∧ IsS117 w0 w' g r2 r3 ∧ Below w0.heap.size w0 w' ∧ KeepBut w w' g none := by
  have HI0 := Aside0.mk hI
  have HK := Aside0.mk (KeepBut.refl w g none)
  have HL := Aside0.mk hB.size
  clear hI
  have HW0 := Aside0.mk hB.size
  have HB := Aside0.mk hB
  clear hB
  have H : (some ((s0_0.length : Int), s0_0, s0_1)) = some (r1, r2, r3) := h
  clear h
  simp only [Option.some.injEq, Prod.mk.injEq] at H
  obtain ⟨rfl, rfl, rfl⟩ := H
  obtain ⟨ASz2_0, cSz2_0, HGz2, hgz2, HSz2_0⟩ := HI0.out
  have hcz2_0 := cellS117_0 HGz2
  have hcz2_1 := cellS117_1 HGz2
  have hfz2_0 := blk_frozen HGz2 0
  have hfz2_1 := blk_frozen HGz2 1
  clear HGz2 hgz2
  go_enter Try.func56, Try.ntmps56
  go_wp2
  all_goals first | (go_ret; exact ⟨by first | rfl | (simp [errW_none, errW_some]; done) | (simp [errW_none, errW_some]; rfl) | (simp [*, errW_none, errW_some]; done) | (simp [*, errW_none, errW_some]; rfl), by repeat (first | (with_reducible first | exact HI0.out | apply IsS117.alloc | apply IsS117.drewN | apply IsS117.drew | apply IsS117.set_1) | exact HI0.out), by repeat (first | (with_reducible first | exact HB.out | apply below_alloc | apply pw_below_drewN | apply below_drew1 | refine below_set ?_ (IsS117.ge HI0.out)) | exact HB.out), by repeat (first | (with_reducible first | exact HK.out | apply KeepBut.set_ | apply keep_drewN | apply keep_drew | apply keep_alloc) | exact HK.out)⟩) | (exfalso; simp_all; done)
theorem octs_In_Left.callsB (g : Nat) (s0_0 : List Int) (s0_1 : Bool) (r1 : Int) (r2 : List Int) (r3 : Bool) (w0 w : World) (hI : IsB117 w0 w g s0_0 s0_1) (hB : Below w0.heap.size w0 w) (h : octs_In_Left.f s0_0 s0_1 = some (r1, r2, r3)) :
    Calls Try.prog 56 #[.pointer (some ⟨g, 0, none⟩)] w fun e w' => e = .returned (.int .i64 r1) ∧ IsB117 w0 w' g r2 r3 ∧ Below w0.heap.size w0 w' ∧ KeepBut w w' g none := by
  obtain ⟨wb_, hs_, hv_, hi_⟩ := hI
  refine (octs_In_Left.calls g s0_0 s0_1 r1 r2 r3 wb_ w hi_ hv_ h).mono ?_
  rintro e_ w_ ⟨rfl, hi2_, hb_, hk_⟩
  obtain ⟨h1_, h2_⟩ := IsB117.step hB ⟨wb_, hs_, hv_, hi_.ge, hb_, hi2_⟩ hk_
  exact ⟨rfl, h1_, h2_, hk_⟩

/-! ### keys_Parse: function 41 -/
def keys_Parse.tst (n i : Int) : Bool := (if i = 0 then Go.bits .and .i64 n 1 else if i = 1 then Go.bits .and .i64 (n / 2) 1 else Go.bits .and .i64 (n / 4) 1) == 1
def keys_Parse.l0 (k : Nat) : Nat → Int → Int → List Int → Bool → ByteArray → ByteArray → ByteArray → Option (List Int × Bool × ByteArray × ByteArray × ByteArray)
  | 0, _, _, _, _, _, _, _ => none
  | q + 1, n, i, l, b, a0, a1, a2 => if i < 3 then (if keys_Parse.tst n i = true then ((octs_In_Short.f k l b).bind fun t => keys_Parse.l0 k q n (i + 1) t.2.1 t.2.2 (if i = 0 then t.1 else a0) (if i = 1 then t.1 else a1) (if i = 2 then t.1 else a2)) else keys_Parse.l0 k q n (i + 1) l b a0 a1 a2) else some (l, b, a0, a1, a2)
def keys_Parse.no : Option (Int × ByteArray × ByteArray × ByteArray × Int × Bool) := some (0, (⟨#[]⟩ : ByteArray), (⟨#[]⟩ : ByteArray), (⟨#[]⟩ : ByteArray), 0, false)
def keys_Parse.end_ (k : Nat) (kd : Int) (a0 a1 a2 : ByteArray) (id : Int) (l : List Int) (b : Bool) : Option (Int × ByteArray × ByteArray × ByteArray × Int × Bool) :=
  (octs_In_Ok.f l b).bind fun o => if o.1 = true then ((octs_In_Left.f o.2.1 o.2.2).bind fun m => if m.1 > 0 then keys_Parse.no else ((keys_good.f k kd a0 a1 a2 id).bind fun g => if g = true then some (kd, a0, a1, a2, id, true) else keys_Parse.no)) else keys_Parse.no
def keys_Parse.f (k : Nat) (a0 : ByteArray) : Option (Int × ByteArray × ByteArray × ByteArray × Int × Bool) :=
  if a0.size ≤ 9223372036854775807 then ((octs_From.f (bytesOf a0)).bind fun r => (octs_In_Int.f k r.1 r.2 1).bind fun v => (keys_has.f k (wrap64 v.1)).bind fun n => (keys_Parse.l0 k 4 n 0 v.2.1 v.2.2 (⟨#[]⟩ : ByteArray) (⟨#[]⟩ : ByteArray) (⟨#[]⟩ : ByteArray)).bind fun t =>
    if Go.bits .and .i64 n 8 = 0 then keys_Parse.end_ k (wrap64 v.1) t.2.2.1 t.2.2.2.1 t.2.2.2.2 0 t.1 t.2.1
    else ((octs_In_Int.f k t.1 t.2.1 8).bind fun d => keys_Parse.end_ k (wrap64 v.1) t.2.2.1 t.2.2.2.1 t.2.2.2.2 d.1 d.2.1 d.2.2)) else none
section
variable {P : Program} {ops : Array Oper} {rest : List Oper} {o : Oper} {a : Act} {Q : Exit → Act → World → Prop}
theorem keys_Parse_lit {W : World} (hgd : o.guard = none) {N : Tmp} (_hd : o.dst = some N) {cs : Array Value} {t : TypeId} {n : Nat}
    (hrun : (execOp a.eval o).run P W = .ok (.value (.slice (some ⟨W.heap.size, 0, none⟩) n n)) (W.alloc (.cells cs t (0, 0))))
    (h : ∀ g, g = W.heap.size → ∀ w1, w1.heap[g]? = some (.cells cs t (0, 0)) → Below W.heap.size W w1 → wpList P ops Q rest (a.put o.dst (.slice (some ⟨g, 0, none⟩) n n)) w1) : wpList P ops Q (o :: rest) a W :=
  Kd.event_run hgd hrun (h _ rfl _ (blk_new W _) (below_alloc (Below.refl _ _) _))
end
theorem keys_Parse_cells {W : World} {g : Nat} {t : TypeId} {a b c d e : Value} (h : W.heap[g]? = some (.cells #[a, b, c, d, e] t (0, 0))) :
    (W.cell? ⟨g, 0, none⟩ = some a ∧ W.cell? ⟨g, 1, none⟩ = some b ∧ W.cell? ⟨g, 2, none⟩ = some c ∧ W.cell? ⟨g, 3, none⟩ = some d ∧ W.cell? ⟨g, 4, none⟩ = some e) ∧
    (W.frozen? ⟨g, 0, none⟩ = false ∧ W.frozen? ⟨g, 1, none⟩ = false ∧ W.frozen? ⟨g, 2, none⟩ = false ∧ W.frozen? ⟨g, 3, none⟩ = false ∧ W.frozen? ⟨g, 4, none⟩ = false) :=
  ⟨⟨(blk_cell h 0).trans rfl, (blk_cell h 1).trans rfl, (blk_cell h 2).trans rfl, (blk_cell h 3).trans rfl, (blk_cell h 4).trans rfl⟩, blk_frozen h 0, blk_frozen h 1, blk_frozen h 2, blk_frozen h 3, blk_frozen h 4⟩
theorem keys_Parse_ne {W : World} {a b : Nat} {cs ds : Array Value} {t u : TypeId} (h1 : W.heap[a]? = some (.cells cs t (0, 0))) (h2 : W.heap[b]? = some (.cells ds u (0, 0))) (ht : t ≠ u) : a ≠ b := by
  rintro rfl
  rw [h1] at h2
  have h3 := Option.some.inj h2
  injection h3 with _ h4
  exact ht h4
set_option maxHeartbeats 8000000 in
set_option maxRecDepth 100000 in
theorem keys_Parse.calls (k : Nat) (a0 : ByteArray) (r1 : Int) (r2 r3 r4 : ByteArray) (r5 : Int) (r6 : Bool) (w : World) (h : keys_Parse.f k a0 = some (r1, r2, r3, r4, r5, r6)) :
    Calls Try.prog 41 #[.string a0] w fun e w' => e = .returned (.tuple #[.agg #[.int .i64 r1, .string r2, .string r3, .string r4, .int .u64 r5], .bool r6]) ∧ Below w.heap.size w w' := by
  have hu74 := Try.underlying74
  have HB := Aside0.mk (Below.refl w.heap.size w)
  unfold keys_Parse.f at h
  by_cases hsz : a0.size ≤ 9223372036854775807
  case neg => rw [if_neg hsz] at h; exact absurd h (by simp)
  rw [if_pos hsz] at h
  have HSZ := Aside0.mk hsz
  clear hsz
  obtain ⟨⟨l1, b1⟩, h1, h⟩ := Option.bind_eq_some_iff.mp h
  obtain ⟨⟨v1, l2, b2⟩, h2, h⟩ := Option.bind_eq_some_iff.mp h
  obtain ⟨n, h3, h⟩ := Option.bind_eq_some_iff.mp h
  obtain ⟨⟨l3, b3, x1, x2, x3⟩, h4, h⟩ := Option.bind_eq_some_iff.mp h
  have A1 := Aside0.mk (show octs_From.f (bytesOf a0) = some (l1, b1) from h1)
  have A2 := Aside0.mk (show octs_In_Int.f k l1 b1 1 = some (v1, l2, b2) from h2)
  have A3 := Aside0.mk (show keys_has.f k (wrap64 v1) = some n from h3)
  have A4 := Aside0.mk (show keys_Parse.l0 k 4 n 0 l2 b2 (⟨#[]⟩ : ByteArray) (⟨#[]⟩ : ByteArray) (⟨#[]⟩ : ByteArray) = some (l3, b3, x1, x2, x3) from h4)
  have A5 := Aside0.mk (show (if Go.bits .and .i64 n 8 = 0 then keys_Parse.end_ k (wrap64 v1) x1 x2 x3 0 l3 b3 else ((octs_In_Int.f k l3 b3 8).bind fun d => keys_Parse.end_ k (wrap64 v1) x1 x2 x3 d.1 d.2.1 d.2.2)) = some (r1, r2, r3, r4, r5, r6) from h)
  clear h1 h2 h3 h4 h
  go_enter Try.func41, Try.ntmps41
  go_wp2_with (first
    | ((with_reducible refine gate_dst (N := 2) rfl ?_); refine box_event ?hg (N := 2) ?hd (cs := #[.int .i64 0, .string (⟨#[]⟩ : ByteArray), .string (⟨#[]⟩ : ByteArray), .string (⟨#[]⟩ : ByteArray), .int .u64 0]) (t := 74) ?hr ?_; (case hd => rfl); (case hg => rfl); (case hr => first | (go_simp; done) | (go_simp; rfl)); intro gr hg W1 hbox hb
       have GR := Aside0.mk (show w.heap.size ≤ gr by rw [hg]; exact Nat.le_refl _)
       have BR := Aside0.mk hbox
       have HB1 := Aside0.mk (below_step HB.out hb)
       clear HB hb hbox hg)
    | ((with_reducible refine gate_dst (N := 10) rfl ?_); refine Kd.V_conv (w0 := w) w.heap.size 5 9 26 rfl (N := 10) rfl a0 _ rfl rfl Try.underlying9 Try.underlying26 Try.underlying5 HB1.out HB1.out.size HSZ.out ?_; intro v2 W2 hv hb hgr hnw
       have BR2 := Aside0.mk ((hgr.block gr (blk_lt BR.out) (by simp)).trans BR.out)
       obtain ⟨A0, c0, hve, hlc, hF⟩ := hv
       have HC := Aside0.mk (Kd.F_now hF)
       have HL := Aside0.mk hlc
       have HB2 := Aside0.mk hb
       subst hve
       clear BR HB1 hb hgr hnw hF hlc)
    | ((with_reducible refine gate_callee (f := 52) rfl ?_); refine goesL_ (some 11) rfl rfl Try.func52 (by kernel_rfl) rfl #[.slice A0 (bytesOf a0).length c0] rfl (by (try simp only [List.map_toArray, List.map_cons, List.map_nil]); first | done | rfl) ?_; (with_reducible refine (octs_From.calls _ _ (bytesOf a0) l1 b1 W2 _ (Below.refl _ _) HC.out HL.out A1.out).mono ?_); rintro e W3 ⟨g, rfl, hi, hb, hb2, hge⟩; refine ⟨_, rfl, ?_⟩
       have BR3 := Aside0.mk ((hb2.block gr (blk_lt BR2.out)).trans BR2.out)
       have HB3 := Aside0.mk hb
       have HI3 := Aside0.mk hi
       have NR := Aside0.mk (IsS117.ne_blk hi BR3.out (by decide))
       clear BR2 HC HL hb hb2 hge hi)
    | ((with_reducible refine gate_callee (f := 53) rfl ?_); refine goesL_ (some 13) rfl rfl Try.func53 (by kernel_rfl) rfl #[.pointer (some ⟨g, 0, none⟩), .int .i64 1] rfl (by (try simp only [List.map_toArray, List.map_cons, List.map_nil]); first | done | rfl) ?_; (with_reducible refine (octs_In_Int.calls k g l1 b1 1 v1 l2 b2 W2 _ HI3.out HB3.out A2.out).mono ?_); rintro e W4 ⟨rfl, hi, hb, hk⟩; refine ⟨_, rfl, ?_⟩
       have BR4 := Aside0.mk (KeepBut.blk hk BR3.out (Ne.symm NR.out) (by simp))
       have HB4 := Aside0.mk hb
       have HI4 := Aside0.mk hi
       clear BR3 HB3 HI3 hb hk hi)
    | ((with_reducible refine gate_dst (N := 5) rfl ?_); refine box_event ?hg (N := 5) ?hd (cs := #[.int .i64 0, .string (⟨#[]⟩ : ByteArray), .string (⟨#[]⟩ : ByteArray), .string (⟨#[]⟩ : ByteArray), .int .u64 0]) (t := 74) ?hr ?_; (case hd => rfl); (case hg => rfl); (case hr => first | (go_simp; done) | (go_simp; rfl)); intro gb hg W5 hbox hb
       have GK := Aside0.mk (show W2.heap.size ≤ gb by rw [hg]; exact HB4.out.size)
       have NK := Aside0.mk (show gr ≠ gb by rw [hg]; exact Nat.ne_of_lt (blk_lt BR4.out))
       have BR5 := Aside0.mk ((hb.block gr (blk_lt BR4.out)).trans BR4.out)
       have BK5 := Aside0.mk hbox
       have HI5 := Aside0.mk (IsS117.below HI4.out hb)
       have NGK := Aside0.mk (IsS117.ne_blk HI5.out BK5.out (by decide))
       have HB5 := Aside0.mk (below_step HB4.out hb)
       have c5_0 : W5.cell? ⟨gb, 0, none⟩ = some (.int .i64 0) := (blk_cell BK5.out 0).trans rfl
       have c5_1 : W5.cell? ⟨gb, 1, none⟩ = some (.string (⟨#[]⟩ : ByteArray)) := (blk_cell BK5.out 1).trans rfl
       have c5_2 : W5.cell? ⟨gb, 2, none⟩ = some (.string (⟨#[]⟩ : ByteArray)) := (blk_cell BK5.out 2).trans rfl
       have c5_3 : W5.cell? ⟨gb, 3, none⟩ = some (.string (⟨#[]⟩ : ByteArray)) := (blk_cell BK5.out 3).trans rfl
       have c5_4 : W5.cell? ⟨gb, 4, none⟩ = some (.int .u64 0) := (blk_cell BK5.out 4).trans rfl
       have f5_0 := blk_frozen BK5.out 0
       have f5_1 := blk_frozen BK5.out 1
       have f5_2 := blk_frozen BK5.out 2
       have f5_3 := blk_frozen BK5.out 3
       have f5_4 := blk_frozen BK5.out 4
       clear HB4 HI4 BR4 hb hbox hg)
    | ((with_reducible refine gate_callee (f := 66) rfl ?_); refine goesL_ (some 18) rfl rfl Try.func66 (by kernel_rfl) rfl #[.int .i64 (wrap64 v1)] rfl (by (try simp only [List.map_toArray, List.map_cons, List.map_nil]); first | done | rfl) ?_; (with_reducible refine (keys_has.calls k (wrap64 v1) n _ A3.out).mono ?_); rintro e W6 ⟨rfl, hd⟩; refine ⟨_, rfl, ?_⟩
       have hb := hd.below
       have BK6 := Aside0.mk (blk_below (g := gb) (o := .cells #[.int .i64 (wrap64 v1), .string (⟨#[]⟩ : ByteArray), .string (⟨#[]⟩ : ByteArray), .string (⟨#[]⟩ : ByteArray), .int .u64 0] 74 (0, 0)) (by
         refine blk_put (cs := #[.int .i64 (wrap64 v1), .string (⟨#[]⟩ : ByteArray), .string (⟨#[]⟩ : ByteArray), .string (⟨#[]⟩ : ByteArray), .int .u64 0]) ?_ 4 _ rfl
         refine blk_put (cs := #[.int .i64 (wrap64 v1), .string (⟨#[]⟩ : ByteArray), .string (⟨#[]⟩ : ByteArray), .string (⟨#[]⟩ : ByteArray), .int .u64 0]) ?_ 3 _ rfl
         refine blk_put (cs := #[.int .i64 (wrap64 v1), .string (⟨#[]⟩ : ByteArray), .string (⟨#[]⟩ : ByteArray), .string (⟨#[]⟩ : ByteArray), .int .u64 0]) ?_ 2 _ rfl
         refine blk_put (cs := #[.int .i64 (wrap64 v1), .string (⟨#[]⟩ : ByteArray), .string (⟨#[]⟩ : ByteArray), .string (⟨#[]⟩ : ByteArray), .int .u64 0]) ?_ 1 _ rfl
         refine blk_put (cs := #[.int .i64 0, .string (⟨#[]⟩ : ByteArray), .string (⟨#[]⟩ : ByteArray), .string (⟨#[]⟩ : ByteArray), .int .u64 0]) ?_ 0 _ rfl
         exact BK5.out) hb)
       have HI6 := Aside0.mk (IsS117.below (IsS117.far (IsS117.far (IsS117.far (IsS117.far (IsS117.far HI5.out NGK.out _) NGK.out _) NGK.out _) NGK.out _) NGK.out _) hb)
       have HB6 := Aside0.mk (below_step (below_set (below_set (below_set (below_set (below_set HB5.out GK.out) GK.out) GK.out) GK.out) GK.out) hb)
       have BR6 := Aside0.mk (blk_below (g := gr) (o := .cells #[.int .i64 0, .string (⟨#[]⟩ : ByteArray), .string (⟨#[]⟩ : ByteArray), .string (⟨#[]⟩ : ByteArray), .int .u64 0] 74 (0, 0)) (blk_far (blk_far (blk_far (blk_far (blk_far BR5.out NK.out _) NK.out _) NK.out _) NK.out _) NK.out _) hb)
       clear hd hb BK5 HI5 HB5 BR5 c5_0 c5_1 c5_2 c5_3 c5_4 f5_0 f5_1 f5_2 f5_3 f5_4)
    | ((with_reducible refine gate_dst (N := 22) rfl ?_); refine keys_Parse_lit ?hg (N := 22) ?hd (cs := #[.pointer (some ⟨gb, 1, none⟩), .pointer (some ⟨gb, 2, none⟩), .pointer (some ⟨gb, 3, none⟩)]) (t := 113) (n := 3) ?hr ?_; (case hd => rfl); (case hg => rfl); (case hr => first | (go_simp; done) | (go_simp; rfl)); intro gp hg W7 hbox hb
       have BP7 := Aside0.mk hbox
       have BK7 := Aside0.mk (blk_below BK6.out hb)
       have BR7 := Aside0.mk (blk_below BR6.out hb)
       have HI7 := Aside0.mk (IsS117.below HI6.out hb)
       have HB7 := Aside0.mk (below_step HB6.out hb)
       have NGP := Aside0.mk (IsS117.ne_blk HI7.out BP7.out (by decide))
       have NKP := Aside0.mk (keys_Parse_ne BK7.out BP7.out (by decide))
       clear BK6 BR6 HI6 HB6 hb hbox hg))
  go_loopg [7, 8, 24] 4 (fun kq v7 v8 v24 w' => ∃ (i : Int) (l : List Int) (b : Bool) (y0 y1 y2 : ByteArray), v24 = .int .i64 i ∧ Aside0 (0 ≤ i ∧ i ≤ 3) ∧ Aside0 (keys_Parse.l0 k kq n i l b y0 y1 y2 = some (l3, b3, x1, x2, x3)) ∧ Aside0 (IsS117 W2 w' g l b) ∧ Aside0 (Below W2.heap.size W2 w') ∧ Aside0 (w'.heap[gb]? = some (.cells #[.int .i64 (wrap64 v1), .string y0, .string y1, .string y2, .int .u64 0] 74 (0, 0))) ∧ Aside0 (w'.heap[gr]? = some (.cells #[.int .i64 0, .string (⟨#[]⟩ : ByteArray), .string (⟨#[]⟩ : ByteArray), .string (⟨#[]⟩ : ByteArray), .int .u64 0] 74 (0, 0))) ∧ Aside0 (w'.heap[gp]? = some (.cells #[.pointer (some ⟨gb, 1, none⟩), .pointer (some ⟨gb, 2, none⟩), .pointer (some ⟨gb, 3, none⟩)] 113 (0, 0))))
  case atStart => exact ⟨0, l2, b2, _, _, _, rfl, ⟨by omega⟩, A4, HI7, HB7, BK7, BR7, BP7⟩
  case round =>
    clear A4 HI7 HB7 BK7 BR7 BP7
    obtain ⟨i, l, b, y0, y1, y2, rfl, HIR, HA, HI, HBc, BK, BR, BP⟩ := hrel
    cases gk with
    | zero => exact absurd HA.out (by simp [keys_Parse.l0])
    | succ q =>
      have H := HA.out
      clear HA
      simp only [keys_Parse.l0] at H
      by_cases hi : i < 3
      · rw [if_pos hi] at H
        have hir := HIR.out
        obtain h0 | h0 | h0 : i = 0 ∨ i = 1 ∨ i = 2 := by omega
        · subst h0
          clear hi hir
          have hp : wr.cell? ⟨gp, 0, none⟩ = some (.pointer (some ⟨gb, 1, none⟩)) := (blk_cell BP.out 0).trans rfl
          by_cases ht : keys_Parse.tst n 0 = true
          · rw [if_pos ht] at H
            obtain ⟨⟨t1, t2, t3⟩, h1, H⟩ := Option.bind_eq_some_iff.mp H
            have A6 := Aside0.mk (show octs_In_Short.f k l b = some (t1, t2, t3) from h1)
            have HH := Aside0.mk (show keys_Parse.l0 k q n 1 t2 t3 t1 y1 y2 = some (l3, b3, x1, x2, x3) from by simpa using H)
            clear H h1
            have ht' : (Go.bits .and .i64 n 1 == 1) = true := by simpa [keys_Parse.tst] using ht
            clear ht
            go_wp2_with ((with_reducible refine gate_callee (f := 54) rfl ?_); refine goesL_ (some 37) rfl rfl Try.func54 (by kernel_rfl) rfl #[.pointer (some ⟨g, 0, none⟩)] rfl (by (try simp only [List.map_toArray, List.map_cons, List.map_nil]); first | done | rfl) ?_; (with_reducible refine (octs_In_Short.calls k g l b t1 t2 t3 W2 _ HI.out HBc.out A6.out).mono ?_); rintro e W8 ⟨rfl, hi8, hb8, hk8⟩; refine ⟨_, rfl, ?_⟩; have BK8 := Aside0.mk (KeepBut.blk hk8 BK.out (Ne.symm NGK.out) (by simp)); have BR8 := Aside0.mk (KeepBut.blk hk8 BR.out (Ne.symm NR.out) (by simp)); have BP8 := Aside0.mk (KeepBut.blk hk8 BP.out (Ne.symm NGP.out) (by simp)); have HI8 := Aside0.mk hi8; have HB8 := Aside0.mk hb8; have ck : W8.cell? ⟨gb, 1, none⟩ = some (.string y0) := (blk_cell BK8.out 1).trans rfl; have fk := blk_frozen BK8.out 1; clear hi8 hb8 hk8 HI HBc BK BR BP)
            go_roundg q
            case measure => omega
            case rel => exact ⟨1, t2, t3, t1, y1, y2, by first | rfl | (simp; done), ⟨by omega⟩, HH, ⟨IsS117.far HI8.out NGK.out _⟩, ⟨below_set HB8.out GK.out⟩, ⟨blk_put (cs := #[.int .i64 (wrap64 v1), .string y0, .string y1, .string y2, .int .u64 0]) BK8.out 1 _ rfl⟩, ⟨blk_far BR8.out NK.out _⟩, ⟨blk_far BP8.out (Ne.symm NKP.out) _⟩⟩
          · rw [if_neg ht] at H
            have HH := Aside0.mk (show keys_Parse.l0 k q n 1 l b y0 y1 y2 = some (l3, b3, x1, x2, x3) from by simpa using H)
            clear H
            have ht' : (Go.bits .and .i64 n 1 == 1) = false := by simpa [keys_Parse.tst] using ht
            clear ht
            go_wp2_with fail
            go_roundg q
            case measure => omega
            case rel => exact ⟨1, l, b, y0, y1, y2, by first | rfl | (simp; done), ⟨by omega⟩, HH, HI, HBc, BK, BR, BP⟩
        · subst h0
          clear hi hir
          have hp : wr.cell? ⟨gp, 1, none⟩ = some (.pointer (some ⟨gb, 2, none⟩)) := (blk_cell BP.out 1).trans rfl
          by_cases ht : keys_Parse.tst n 1 = true
          · rw [if_pos ht] at H
            obtain ⟨⟨t1, t2, t3⟩, h1, H⟩ := Option.bind_eq_some_iff.mp H
            have A6 := Aside0.mk (show octs_In_Short.f k l b = some (t1, t2, t3) from h1)
            have HH := Aside0.mk (show keys_Parse.l0 k q n 2 t2 t3 y0 t1 y2 = some (l3, b3, x1, x2, x3) from by simpa using H)
            clear H h1
            have ht' : (Go.bits .and .i64 (n / 2) 1 == 1) = true := by simpa [keys_Parse.tst] using ht
            clear ht
            go_wp2_with ((with_reducible refine gate_callee (f := 54) rfl ?_); refine goesL_ (some 37) rfl rfl Try.func54 (by kernel_rfl) rfl #[.pointer (some ⟨g, 0, none⟩)] rfl (by (try simp only [List.map_toArray, List.map_cons, List.map_nil]); first | done | rfl) ?_; (with_reducible refine (octs_In_Short.calls k g l b t1 t2 t3 W2 _ HI.out HBc.out A6.out).mono ?_); rintro e W8 ⟨rfl, hi8, hb8, hk8⟩; refine ⟨_, rfl, ?_⟩; have BK8 := Aside0.mk (KeepBut.blk hk8 BK.out (Ne.symm NGK.out) (by simp)); have BR8 := Aside0.mk (KeepBut.blk hk8 BR.out (Ne.symm NR.out) (by simp)); have BP8 := Aside0.mk (KeepBut.blk hk8 BP.out (Ne.symm NGP.out) (by simp)); have HI8 := Aside0.mk hi8; have HB8 := Aside0.mk hb8; have ck : W8.cell? ⟨gb, 2, none⟩ = some (.string y1) := (blk_cell BK8.out 2).trans rfl; have fk := blk_frozen BK8.out 2; clear hi8 hb8 hk8 HI HBc BK BR BP)
            go_roundg q
            case measure => omega
            case rel => exact ⟨2, t2, t3, y0, t1, y2, by first | rfl | (simp; done), ⟨by omega⟩, HH, ⟨IsS117.far HI8.out NGK.out _⟩, ⟨below_set HB8.out GK.out⟩, ⟨blk_put (cs := #[.int .i64 (wrap64 v1), .string y0, .string y1, .string y2, .int .u64 0]) BK8.out 2 _ rfl⟩, ⟨blk_far BR8.out NK.out _⟩, ⟨blk_far BP8.out (Ne.symm NKP.out) _⟩⟩
          · rw [if_neg ht] at H
            have HH := Aside0.mk (show keys_Parse.l0 k q n 2 l b y0 y1 y2 = some (l3, b3, x1, x2, x3) from by simpa using H)
            clear H
            have ht' : (Go.bits .and .i64 (n / 2) 1 == 1) = false := by simpa [keys_Parse.tst] using ht
            clear ht
            go_wp2_with fail
            go_roundg q
            case measure => omega
            case rel => exact ⟨2, l, b, y0, y1, y2, by first | rfl | (simp; done), ⟨by omega⟩, HH, HI, HBc, BK, BR, BP⟩
        · subst h0
          clear hi hir
          have hp : wr.cell? ⟨gp, 2, none⟩ = some (.pointer (some ⟨gb, 3, none⟩)) := (blk_cell BP.out 2).trans rfl
          by_cases ht : keys_Parse.tst n 2 = true
          · rw [if_pos ht] at H
            obtain ⟨⟨t1, t2, t3⟩, h1, H⟩ := Option.bind_eq_some_iff.mp H
            have A6 := Aside0.mk (show octs_In_Short.f k l b = some (t1, t2, t3) from h1)
            have HH := Aside0.mk (show keys_Parse.l0 k q n 3 t2 t3 y0 y1 t1 = some (l3, b3, x1, x2, x3) from by simpa using H)
            clear H h1
            have ht' : (Go.bits .and .i64 (n / 4) 1 == 1) = true := by simpa [keys_Parse.tst] using ht
            clear ht
            go_wp2_with ((with_reducible refine gate_callee (f := 54) rfl ?_); refine goesL_ (some 37) rfl rfl Try.func54 (by kernel_rfl) rfl #[.pointer (some ⟨g, 0, none⟩)] rfl (by (try simp only [List.map_toArray, List.map_cons, List.map_nil]); first | done | rfl) ?_; (with_reducible refine (octs_In_Short.calls k g l b t1 t2 t3 W2 _ HI.out HBc.out A6.out).mono ?_); rintro e W8 ⟨rfl, hi8, hb8, hk8⟩; refine ⟨_, rfl, ?_⟩; have BK8 := Aside0.mk (KeepBut.blk hk8 BK.out (Ne.symm NGK.out) (by simp)); have BR8 := Aside0.mk (KeepBut.blk hk8 BR.out (Ne.symm NR.out) (by simp)); have BP8 := Aside0.mk (KeepBut.blk hk8 BP.out (Ne.symm NGP.out) (by simp)); have HI8 := Aside0.mk hi8; have HB8 := Aside0.mk hb8; have ck : W8.cell? ⟨gb, 3, none⟩ = some (.string y2) := (blk_cell BK8.out 3).trans rfl; have fk := blk_frozen BK8.out 3; clear hi8 hb8 hk8 HI HBc BK BR BP)
            go_roundg q
            case measure => omega
            case rel => exact ⟨3, t2, t3, y0, y1, t1, by first | rfl | (simp; done), ⟨by omega⟩, HH, ⟨IsS117.far HI8.out NGK.out _⟩, ⟨below_set HB8.out GK.out⟩, ⟨blk_put (cs := #[.int .i64 (wrap64 v1), .string y0, .string y1, .string y2, .int .u64 0]) BK8.out 3 _ rfl⟩, ⟨blk_far BR8.out NK.out _⟩, ⟨blk_far BP8.out (Ne.symm NKP.out) _⟩⟩
          · rw [if_neg ht] at H
            have HH := Aside0.mk (show keys_Parse.l0 k q n 3 l b y0 y1 y2 = some (l3, b3, x1, x2, x3) from by simpa using H)
            clear H
            have ht' : (Go.bits .and .i64 (n / 4) 1 == 1) = false := by simpa [keys_Parse.tst] using ht
            clear ht
            go_wp2_with fail
            go_roundg q
            case measure => omega
            case rel => exact ⟨3, l, b, y0, y1, y2, by first | rfl | (simp; done), ⟨by omega⟩, HH, HI, HBc, BK, BR, BP⟩
      · rw [if_neg hi] at H
        have hi3 : decide (i < 3) = false := decide_eq_false hi
        clear hi
        simp only [Option.some.injEq, Prod.mk.injEq] at H
        obtain ⟨rfl, rfl, rfl, rfl, rfl⟩ := H
        have h5 := A5.out
        clear A5
        by_cases hf : Go.bits .and .i64 n 8 = 0
        · rw [if_pos hf] at h5
          have hf' : (Go.bits .and .i64 n 8 != 0) = false := by simpa using hf
          clear hf
          have BK9 := BK
          have BR9 := BR
          have HI9 := HI
          have HB9 := HBc
          clear BK BR HI HBc BP
          unfold keys_Parse.end_ keys_Parse.no at h5
          obtain ⟨⟨o1, o2, o3⟩, h6, h5⟩ := Option.bind_eq_some_iff.mp h5
          have A6 := Aside0.mk (show octs_In_Ok.f l b = some (o1, o2, o3) from h6)
          clear h6
          cases o1 with
          | false =>
            rw [if_neg (by simp)] at h5
            simp only [Option.some.injEq, Prod.mk.injEq] at h5
            obtain ⟨rfl, rfl, rfl, rfl, rfl, rfl⟩ := h5
            go_wp2_with (first | ((with_reducible refine gate_callee (f := 55) rfl ?_); (try (refine gate_guard (by rfl) ?_; dsimp only)); refine goesL_ (some 47) rfl rfl Try.func55 (by kernel_rfl) rfl #[.pointer (some ⟨g, 0, none⟩)] rfl (by (try simp only [List.map_toArray, List.map_cons, List.map_nil]); first | done | rfl) ?_; (with_reducible refine (octs_In_Ok.calls g l b _ o2 o3 W2 _ HI9.out HB9.out A6.out).mono ?_); rintro e W10 ⟨rfl, hi8, hb8, hk8⟩; refine ⟨_, rfl, ?_⟩; have BK10 := Aside0.mk (KeepBut.blk hk8 BK9.out (Ne.symm NGK.out) (by simp)); have BR10 := Aside0.mk (KeepBut.blk hk8 BR9.out (Ne.symm NR.out) (by simp)); have HI10 := Aside0.mk hi8; have HB10 := Aside0.mk hb8; (try clear ck0 ck1 ck2 ck3 ck4 fk0 fk1 fk2 fk3 fk4); obtain ⟨⟨cr0, cr1, cr2, cr3, cr4⟩, fr0, fr1, fr2, fr3, fr4⟩ := keys_Parse_cells BR10.out; clear hi8 hb8 hk8 BK9 BR9 HI9 HB9))
            refine bodyPost_ret (results_ct rfl _ _ gr 74 #[.int .i64 0, .string (⟨#[]⟩ : ByteArray), .string (⟨#[]⟩ : ByteArray), .string (⟨#[]⟩ : ByteArray), .int .u64 0] (0, 0) _ rfl (by refine blk_put (cs := #[.int .i64 0, .string (⟨#[]⟩ : ByteArray), .string (⟨#[]⟩ : ByteArray), .string (⟨#[]⟩ : ByteArray), .int .u64 0]) ?_ 4 _ rfl; refine blk_put (cs := #[.int .i64 0, .string (⟨#[]⟩ : ByteArray), .string (⟨#[]⟩ : ByteArray), .string (⟨#[]⟩ : ByteArray), .int .u64 0]) ?_ 3 _ rfl; refine blk_put (cs := #[.int .i64 0, .string (⟨#[]⟩ : ByteArray), .string (⟨#[]⟩ : ByteArray), .string (⟨#[]⟩ : ByteArray), .int .u64 0]) ?_ 2 _ rfl; refine blk_put (cs := #[.int .i64 0, .string (⟨#[]⟩ : ByteArray), .string (⟨#[]⟩ : ByteArray), .string (⟨#[]⟩ : ByteArray), .int .u64 0]) ?_ 1 _ rfl; refine blk_put (cs := #[.int .i64 0, .string (⟨#[]⟩ : ByteArray), .string (⟨#[]⟩ : ByteArray), .string (⟨#[]⟩ : ByteArray), .int .u64 0]) ?_ 0 _ rfl; exact BR10.out) Try.underlying74 rfl (by kernel_rfl)) rfl ?_
            exact ⟨rfl, below_set (below_set (below_set (below_set (below_set (below_step HB2.out HB10.out) GR.out) GR.out) GR.out) GR.out) GR.out⟩
          | true =>
            rw [if_pos rfl] at h5
            obtain ⟨⟨m1, m2, m3⟩, h6, h5⟩ := Option.bind_eq_some_iff.mp h5
            have A7 := Aside0.mk (show octs_In_Left.f o2 o3 = some (m1, m2, m3) from h6)
            clear h6
            by_cases hm : m1 > 0
            · rw [if_pos hm] at h5
              simp only [Option.some.injEq, Prod.mk.injEq] at h5
              obtain ⟨rfl, rfl, rfl, rfl, rfl, rfl⟩ := h5
              have hm' : decide (0 < m1) = true := decide_eq_true hm
              clear hm
              go_wp2_with (first | ((with_reducible refine gate_callee (f := 55) rfl ?_); (try (refine gate_guard (by rfl) ?_; dsimp only)); refine goesL_ (some 47) rfl rfl Try.func55 (by kernel_rfl) rfl #[.pointer (some ⟨g, 0, none⟩)] rfl (by (try simp only [List.map_toArray, List.map_cons, List.map_nil]); first | done | rfl) ?_; (with_reducible refine (octs_In_Ok.calls g l b _ o2 o3 W2 _ HI9.out HB9.out A6.out).mono ?_); rintro e W10 ⟨rfl, hi8, hb8, hk8⟩; refine ⟨_, rfl, ?_⟩; have BK10 := Aside0.mk (KeepBut.blk hk8 BK9.out (Ne.symm NGK.out) (by simp)); have BR10 := Aside0.mk (KeepBut.blk hk8 BR9.out (Ne.symm NR.out) (by simp)); have HI10 := Aside0.mk hi8; have HB10 := Aside0.mk hb8; (try clear ck0 ck1 ck2 ck3 ck4 fk0 fk1 fk2 fk3 fk4); obtain ⟨⟨cr0, cr1, cr2, cr3, cr4⟩, fr0, fr1, fr2, fr3, fr4⟩ := keys_Parse_cells BR10.out; clear hi8 hb8 hk8 BK9 BR9 HI9 HB9) | ((with_reducible refine gate_callee (f := 56) rfl ?_); (try (refine gate_guard (by rfl) ?_; dsimp only)); refine goesL_ (some 51) rfl rfl Try.func56 (by kernel_rfl) rfl #[.pointer (some ⟨g, 0, none⟩)] rfl (by (try simp only [List.map_toArray, List.map_cons, List.map_nil]); first | done | rfl) ?_; (with_reducible refine (octs_In_Left.calls g o2 o3 m1 m2 m3 W2 _ HI10.out HB10.out A7.out).mono ?_); rintro e W11 ⟨rfl, hi8, hb8, hk8⟩; refine ⟨_, rfl, ?_⟩; have BK11 := Aside0.mk (KeepBut.blk hk8 BK10.out (Ne.symm NGK.out) (by simp)); have BR11 := Aside0.mk (KeepBut.blk hk8 BR10.out (Ne.symm NR.out) (by simp)); have HB11 := Aside0.mk hb8; (try clear cr0 cr1 cr2 cr3 cr4 fr0 fr1 fr2 fr3 fr4); obtain ⟨⟨ck0, ck1, ck2, ck3, ck4⟩, fk0, fk1, fk2, fk3, fk4⟩ := keys_Parse_cells BK11.out; obtain ⟨⟨cr0, cr1, cr2, cr3, cr4⟩, fr0, fr1, fr2, fr3, fr4⟩ := keys_Parse_cells BR11.out; clear hi8 hb8 hk8 BK10 BR10 HI10 HB10))
              refine bodyPost_ret (results_ct rfl _ _ gr 74 #[.int .i64 0, .string (⟨#[]⟩ : ByteArray), .string (⟨#[]⟩ : ByteArray), .string (⟨#[]⟩ : ByteArray), .int .u64 0] (0, 0) _ rfl (by refine blk_put (cs := #[.int .i64 0, .string (⟨#[]⟩ : ByteArray), .string (⟨#[]⟩ : ByteArray), .string (⟨#[]⟩ : ByteArray), .int .u64 0]) ?_ 4 _ rfl; refine blk_put (cs := #[.int .i64 0, .string (⟨#[]⟩ : ByteArray), .string (⟨#[]⟩ : ByteArray), .string (⟨#[]⟩ : ByteArray), .int .u64 0]) ?_ 3 _ rfl; refine blk_put (cs := #[.int .i64 0, .string (⟨#[]⟩ : ByteArray), .string (⟨#[]⟩ : ByteArray), .string (⟨#[]⟩ : ByteArray), .int .u64 0]) ?_ 2 _ rfl; refine blk_put (cs := #[.int .i64 0, .string (⟨#[]⟩ : ByteArray), .string (⟨#[]⟩ : ByteArray), .string (⟨#[]⟩ : ByteArray), .int .u64 0]) ?_ 1 _ rfl; refine blk_put (cs := #[.int .i64 0, .string (⟨#[]⟩ : ByteArray), .string (⟨#[]⟩ : ByteArray), .string (⟨#[]⟩ : ByteArray), .int .u64 0]) ?_ 0 _ rfl; exact BR11.out) Try.underlying74 rfl (by kernel_rfl)) rfl ?_
              exact ⟨rfl, below_set (below_set (below_set (below_set (below_set (below_step HB2.out HB11.out) GR.out) GR.out) GR.out) GR.out) GR.out⟩
            · rw [if_neg hm] at h5
              obtain ⟨gd, h6, h5⟩ := Option.bind_eq_some_iff.mp h5
              have A8 := Aside0.mk (show keys_good.f k (wrap64 v1) y0 y1 y2 0 = some gd from h6)
              clear h6
              have hm' : decide (0 < m1) = false := decide_eq_false hm
              clear hm
              cases gd with
              | false =>
                rw [if_neg (by simp)] at h5
                simp only [Option.some.injEq, Prod.mk.injEq] at h5
                obtain ⟨rfl, rfl, rfl, rfl, rfl, rfl⟩ := h5
                go_wp2_with (first | ((with_reducible refine gate_callee (f := 55) rfl ?_); (try (refine gate_guard (by rfl) ?_; dsimp only)); refine goesL_ (some 47) rfl rfl Try.func55 (by kernel_rfl) rfl #[.pointer (some ⟨g, 0, none⟩)] rfl (by (try simp only [List.map_toArray, List.map_cons, List.map_nil]); first | done | rfl) ?_; (with_reducible refine (octs_In_Ok.calls g l b _ o2 o3 W2 _ HI9.out HB9.out A6.out).mono ?_); rintro e W10 ⟨rfl, hi8, hb8, hk8⟩; refine ⟨_, rfl, ?_⟩; have BK10 := Aside0.mk (KeepBut.blk hk8 BK9.out (Ne.symm NGK.out) (by simp)); have BR10 := Aside0.mk (KeepBut.blk hk8 BR9.out (Ne.symm NR.out) (by simp)); have HI10 := Aside0.mk hi8; have HB10 := Aside0.mk hb8; (try clear ck0 ck1 ck2 ck3 ck4 fk0 fk1 fk2 fk3 fk4); obtain ⟨⟨cr0, cr1, cr2, cr3, cr4⟩, fr0, fr1, fr2, fr3, fr4⟩ := keys_Parse_cells BR10.out; clear hi8 hb8 hk8 BK9 BR9 HI9 HB9) | ((with_reducible refine gate_callee (f := 56) rfl ?_); (try (refine gate_guard (by rfl) ?_; dsimp only)); refine goesL_ (some 51) rfl rfl Try.func56 (by kernel_rfl) rfl #[.pointer (some ⟨g, 0, none⟩)] rfl (by (try simp only [List.map_toArray, List.map_cons, List.map_nil]); first | done | rfl) ?_; (with_reducible refine (octs_In_Left.calls g o2 o3 m1 m2 m3 W2 _ HI10.out HB10.out A7.out).mono ?_); rintro e W11 ⟨rfl, hi8, hb8, hk8⟩; refine ⟨_, rfl, ?_⟩; have BK11 := Aside0.mk (KeepBut.blk hk8 BK10.out (Ne.symm NGK.out) (by simp)); have BR11 := Aside0.mk (KeepBut.blk hk8 BR10.out (Ne.symm NR.out) (by simp)); have HB11 := Aside0.mk hb8; (try clear cr0 cr1 cr2 cr3 cr4 fr0 fr1 fr2 fr3 fr4); obtain ⟨⟨ck0, ck1, ck2, ck3, ck4⟩, fk0, fk1, fk2, fk3, fk4⟩ := keys_Parse_cells BK11.out; obtain ⟨⟨cr0, cr1, cr2, cr3, cr4⟩, fr0, fr1, fr2, fr3, fr4⟩ := keys_Parse_cells BR11.out; clear hi8 hb8 hk8 BK10 BR10 HI10 HB10) | ((with_reducible refine gate_callee (f := 65) rfl ?_); (try (refine gate_guard (by rfl) ?_; dsimp only)); refine goesL_ (some 56) rfl rfl Try.func65 (by kernel_rfl) rfl #[.agg #[.int .i64 (wrap64 v1), .string y0, .string y1, .string y2, .int .u64 0]] rfl (by (try simp only [List.map_toArray, List.map_cons, List.map_nil]); first | done | rfl) ?_; (with_reducible refine (keys_good.calls k (wrap64 v1) y0 y1 y2 0 false _ A8.out).mono ?_); rintro e W12 ⟨rfl, hb8⟩; refine ⟨_, rfl, ?_⟩; have BK12 := Aside0.mk (blk_below BK11.out hb8); have BR12 := Aside0.mk (blk_below BR11.out hb8); have HB12 := Aside0.mk (below_step HB11.out hb8); (try clear ck0 ck1 ck2 ck3 ck4 fk0 fk1 fk2 fk3 fk4); (try clear cr0 cr1 cr2 cr3 cr4 fr0 fr1 fr2 fr3 fr4); obtain ⟨⟨ck0, ck1, ck2, ck3, ck4⟩, fk0, fk1, fk2, fk3, fk4⟩ := keys_Parse_cells BK12.out; obtain ⟨⟨cr0, cr1, cr2, cr3, cr4⟩, fr0, fr1, fr2, fr3, fr4⟩ := keys_Parse_cells BR12.out; clear hb8 BK11 BR11 HB11))
                refine bodyPost_ret (results_ct rfl _ _ gr 74 #[.int .i64 0, .string (⟨#[]⟩ : ByteArray), .string (⟨#[]⟩ : ByteArray), .string (⟨#[]⟩ : ByteArray), .int .u64 0] (0, 0) _ rfl (by refine blk_put (cs := #[.int .i64 0, .string (⟨#[]⟩ : ByteArray), .string (⟨#[]⟩ : ByteArray), .string (⟨#[]⟩ : ByteArray), .int .u64 0]) ?_ 4 _ rfl; refine blk_put (cs := #[.int .i64 0, .string (⟨#[]⟩ : ByteArray), .string (⟨#[]⟩ : ByteArray), .string (⟨#[]⟩ : ByteArray), .int .u64 0]) ?_ 3 _ rfl; refine blk_put (cs := #[.int .i64 0, .string (⟨#[]⟩ : ByteArray), .string (⟨#[]⟩ : ByteArray), .string (⟨#[]⟩ : ByteArray), .int .u64 0]) ?_ 2 _ rfl; refine blk_put (cs := #[.int .i64 0, .string (⟨#[]⟩ : ByteArray), .string (⟨#[]⟩ : ByteArray), .string (⟨#[]⟩ : ByteArray), .int .u64 0]) ?_ 1 _ rfl; refine blk_put (cs := #[.int .i64 0, .string (⟨#[]⟩ : ByteArray), .string (⟨#[]⟩ : ByteArray), .string (⟨#[]⟩ : ByteArray), .int .u64 0]) ?_ 0 _ rfl; exact BR12.out) Try.underlying74 rfl (by kernel_rfl)) rfl ?_
                exact ⟨rfl, below_set (below_set (below_set (below_set (below_set (below_step HB2.out HB12.out) GR.out) GR.out) GR.out) GR.out) GR.out⟩
              | true =>
                rw [if_pos rfl] at h5
                simp only [Option.some.injEq, Prod.mk.injEq] at h5
                obtain ⟨rfl, rfl, rfl, rfl, rfl, rfl⟩ := h5
                go_wp2_with (first | ((with_reducible refine gate_callee (f := 55) rfl ?_); (try (refine gate_guard (by rfl) ?_; dsimp only)); refine goesL_ (some 47) rfl rfl Try.func55 (by kernel_rfl) rfl #[.pointer (some ⟨g, 0, none⟩)] rfl (by (try simp only [List.map_toArray, List.map_cons, List.map_nil]); first | done | rfl) ?_; (with_reducible refine (octs_In_Ok.calls g l b _ o2 o3 W2 _ HI9.out HB9.out A6.out).mono ?_); rintro e W10 ⟨rfl, hi8, hb8, hk8⟩; refine ⟨_, rfl, ?_⟩; have BK10 := Aside0.mk (KeepBut.blk hk8 BK9.out (Ne.symm NGK.out) (by simp)); have BR10 := Aside0.mk (KeepBut.blk hk8 BR9.out (Ne.symm NR.out) (by simp)); have HI10 := Aside0.mk hi8; have HB10 := Aside0.mk hb8; (try clear ck0 ck1 ck2 ck3 ck4 fk0 fk1 fk2 fk3 fk4); obtain ⟨⟨cr0, cr1, cr2, cr3, cr4⟩, fr0, fr1, fr2, fr3, fr4⟩ := keys_Parse_cells BR10.out; clear hi8 hb8 hk8 BK9 BR9 HI9 HB9) | ((with_reducible refine gate_callee (f := 56) rfl ?_); (try (refine gate_guard (by rfl) ?_; dsimp only)); refine goesL_ (some 51) rfl rfl Try.func56 (by kernel_rfl) rfl #[.pointer (some ⟨g, 0, none⟩)] rfl (by (try simp only [List.map_toArray, List.map_cons, List.map_nil]); first | done | rfl) ?_; (with_reducible refine (octs_In_Left.calls g o2 o3 m1 m2 m3 W2 _ HI10.out HB10.out A7.out).mono ?_); rintro e W11 ⟨rfl, hi8, hb8, hk8⟩; refine ⟨_, rfl, ?_⟩; have BK11 := Aside0.mk (KeepBut.blk hk8 BK10.out (Ne.symm NGK.out) (by simp)); have BR11 := Aside0.mk (KeepBut.blk hk8 BR10.out (Ne.symm NR.out) (by simp)); have HB11 := Aside0.mk hb8; (try clear cr0 cr1 cr2 cr3 cr4 fr0 fr1 fr2 fr3 fr4); obtain ⟨⟨ck0, ck1, ck2, ck3, ck4⟩, fk0, fk1, fk2, fk3, fk4⟩ := keys_Parse_cells BK11.out; obtain ⟨⟨cr0, cr1, cr2, cr3, cr4⟩, fr0, fr1, fr2, fr3, fr4⟩ := keys_Parse_cells BR11.out; clear hi8 hb8 hk8 BK10 BR10 HI10 HB10) | ((with_reducible refine gate_callee (f := 65) rfl ?_); (try (refine gate_guard (by rfl) ?_; dsimp only)); refine goesL_ (some 56) rfl rfl Try.func65 (by kernel_rfl) rfl #[.agg #[.int .i64 (wrap64 v1), .string y0, .string y1, .string y2, .int .u64 0]] rfl (by (try simp only [List.map_toArray, List.map_cons, List.map_nil]); first | done | rfl) ?_; (with_reducible refine (keys_good.calls k (wrap64 v1) y0 y1 y2 0 true _ A8.out).mono ?_); rintro e W12 ⟨rfl, hb8⟩; refine ⟨_, rfl, ?_⟩; have BK12 := Aside0.mk (blk_below BK11.out hb8); have BR12 := Aside0.mk (blk_below BR11.out hb8); have HB12 := Aside0.mk (below_step HB11.out hb8); (try clear ck0 ck1 ck2 ck3 ck4 fk0 fk1 fk2 fk3 fk4); (try clear cr0 cr1 cr2 cr3 cr4 fr0 fr1 fr2 fr3 fr4); obtain ⟨⟨ck0, ck1, ck2, ck3, ck4⟩, fk0, fk1, fk2, fk3, fk4⟩ := keys_Parse_cells BK12.out; obtain ⟨⟨cr0, cr1, cr2, cr3, cr4⟩, fr0, fr1, fr2, fr3, fr4⟩ := keys_Parse_cells BR12.out; clear hb8 BK11 BR11 HB11))
                refine bodyPost_ret (results_ct rfl _ _ gr 74 #[.int .i64 (wrap64 v1), .string y0, .string y1, .string y2, .int .u64 0] (0, 0) _ rfl (by refine blk_put (cs := #[.int .i64 (wrap64 v1), .string y0, .string y1, .string y2, .int .u64 0]) ?_ 4 _ rfl; refine blk_put (cs := #[.int .i64 (wrap64 v1), .string y0, .string y1, .string (⟨#[]⟩ : ByteArray), .int .u64 0]) ?_ 3 _ rfl; refine blk_put (cs := #[.int .i64 (wrap64 v1), .string y0, .string (⟨#[]⟩ : ByteArray), .string (⟨#[]⟩ : ByteArray), .int .u64 0]) ?_ 2 _ rfl; refine blk_put (cs := #[.int .i64 (wrap64 v1), .string (⟨#[]⟩ : ByteArray), .string (⟨#[]⟩ : ByteArray), .string (⟨#[]⟩ : ByteArray), .int .u64 0]) ?_ 1 _ rfl; refine blk_put (cs := #[.int .i64 0, .string (⟨#[]⟩ : ByteArray), .string (⟨#[]⟩ : ByteArray), .string (⟨#[]⟩ : ByteArray), .int .u64 0]) ?_ 0 _ rfl; exact BR12.out) Try.underlying74 rfl (by kernel_rfl)) rfl ?_
                exact ⟨rfl, below_set (below_set (below_set (below_set (below_set (below_step HB2.out HB12.out) GR.out) GR.out) GR.out) GR.out) GR.out⟩
        · rw [if_neg hf] at h5
          have hf' : (Go.bits .and .i64 n 8 != 0) = true := by simpa using hf
          clear hf
          obtain ⟨⟨d1, d2, d3⟩, h6, h5⟩ := Option.bind_eq_some_iff.mp h5
          have A9 := Aside0.mk (show octs_In_Int.f k l b 8 = some (d1, d2, d3) from h6)
          clear h6
          have h5 := (show keys_Parse.end_ k (wrap64 v1) y0 y1 y2 d1 d2 d3 = some (r1, r2, r3, r4, r5, r6) from h5)
          unfold keys_Parse.end_ keys_Parse.no at h5
          obtain ⟨⟨o1, o2, o3⟩, h6, h5⟩ := Option.bind_eq_some_iff.mp h5
          have A6 := Aside0.mk (show octs_In_Ok.f d2 d3 = some (o1, o2, o3) from h6)
          clear h6
          cases o1 with
          | false =>
            rw [if_neg (by simp)] at h5
            simp only [Option.some.injEq, Prod.mk.injEq] at h5
            obtain ⟨rfl, rfl, rfl, rfl, rfl, rfl⟩ := h5
            go_wp2_with (first | ((with_reducible refine gate_callee (f := 53) rfl ?_); (try (refine gate_guard (by rfl) ?_; dsimp only)); refine goesL_ (some 44) rfl rfl Try.func53 (by kernel_rfl) rfl #[.pointer (some ⟨g, 0, none⟩), .int .i64 8] rfl (by (try simp only [List.map_toArray, List.map_cons, List.map_nil]); first | done | rfl) ?_; (with_reducible refine (octs_In_Int.calls k g l b 8 d1 d2 d3 W2 _ HI.out HBc.out A9.out).mono ?_); rintro e W8 ⟨rfl, hi8, hb8, hk8⟩; refine ⟨_, rfl, ?_⟩; have BK8 := Aside0.mk (KeepBut.blk hk8 BK.out (Ne.symm NGK.out) (by simp)); have BR8 := Aside0.mk (KeepBut.blk hk8 BR.out (Ne.symm NR.out) (by simp)); have HI9 := Aside0.mk (IsS117.far (p := ⟨gb, 4, none⟩) hi8 NGK.out (.int .u64 d1)); have HB9 := Aside0.mk (below_set (j := 4) (v := .int .u64 d1) hb8 GK.out); have BK9 := Aside0.mk (blk_put (cs := #[.int .i64 (wrap64 v1), .string y0, .string y1, .string y2, .int .u64 0]) (cs' := #[.int .i64 (wrap64 v1), .string y0, .string y1, .string y2, .int .u64 d1]) BK8.out 4 (.int .u64 d1) rfl); have BR9 := Aside0.mk (blk_far (p := ⟨gb, 4, none⟩) BR8.out NK.out (.int .u64 d1)); have ck4 : W8.cell? ⟨gb, 4, none⟩ = some (.int .u64 0) := (blk_cell BK8.out 4).trans rfl; have fk4 := blk_frozen BK8.out 4; clear hi8 hb8 hk8 HI HBc BK BR BP BK8 BR8) | ((with_reducible refine gate_callee (f := 55) rfl ?_); (try (refine gate_guard (by rfl) ?_; dsimp only)); refine goesL_ (some 47) rfl rfl Try.func55 (by kernel_rfl) rfl #[.pointer (some ⟨g, 0, none⟩)] rfl (by (try simp only [List.map_toArray, List.map_cons, List.map_nil]); first | done | rfl) ?_; (with_reducible refine (octs_In_Ok.calls g d2 d3 _ o2 o3 W2 _ HI9.out HB9.out A6.out).mono ?_); rintro e W10 ⟨rfl, hi8, hb8, hk8⟩; refine ⟨_, rfl, ?_⟩; have BK10 := Aside0.mk (KeepBut.blk hk8 BK9.out (Ne.symm NGK.out) (by simp)); have BR10 := Aside0.mk (KeepBut.blk hk8 BR9.out (Ne.symm NR.out) (by simp)); have HI10 := Aside0.mk hi8; have HB10 := Aside0.mk hb8; (try clear ck0 ck1 ck2 ck3 ck4 fk0 fk1 fk2 fk3 fk4); obtain ⟨⟨cr0, cr1, cr2, cr3, cr4⟩, fr0, fr1, fr2, fr3, fr4⟩ := keys_Parse_cells BR10.out; clear hi8 hb8 hk8 BK9 BR9 HI9 HB9))
            refine bodyPost_ret (results_ct rfl _ _ gr 74 #[.int .i64 0, .string (⟨#[]⟩ : ByteArray), .string (⟨#[]⟩ : ByteArray), .string (⟨#[]⟩ : ByteArray), .int .u64 0] (0, 0) _ rfl (by refine blk_put (cs := #[.int .i64 0, .string (⟨#[]⟩ : ByteArray), .string (⟨#[]⟩ : ByteArray), .string (⟨#[]⟩ : ByteArray), .int .u64 0]) ?_ 4 _ rfl; refine blk_put (cs := #[.int .i64 0, .string (⟨#[]⟩ : ByteArray), .string (⟨#[]⟩ : ByteArray), .string (⟨#[]⟩ : ByteArray), .int .u64 0]) ?_ 3 _ rfl; refine blk_put (cs := #[.int .i64 0, .string (⟨#[]⟩ : ByteArray), .string (⟨#[]⟩ : ByteArray), .string (⟨#[]⟩ : ByteArray), .int .u64 0]) ?_ 2 _ rfl; refine blk_put (cs := #[.int .i64 0, .string (⟨#[]⟩ : ByteArray), .string (⟨#[]⟩ : ByteArray), .string (⟨#[]⟩ : ByteArray), .int .u64 0]) ?_ 1 _ rfl; refine blk_put (cs := #[.int .i64 0, .string (⟨#[]⟩ : ByteArray), .string (⟨#[]⟩ : ByteArray), .string (⟨#[]⟩ : ByteArray), .int .u64 0]) ?_ 0 _ rfl; exact BR10.out) Try.underlying74 rfl (by kernel_rfl)) rfl ?_
            exact ⟨rfl, below_set (below_set (below_set (below_set (below_set (below_step HB2.out HB10.out) GR.out) GR.out) GR.out) GR.out) GR.out⟩
          | true =>
            rw [if_pos rfl] at h5
            obtain ⟨⟨m1, m2, m3⟩, h6, h5⟩ := Option.bind_eq_some_iff.mp h5
            have A7 := Aside0.mk (show octs_In_Left.f o2 o3 = some (m1, m2, m3) from h6)
            clear h6
            by_cases hm : m1 > 0
            · rw [if_pos hm] at h5
              simp only [Option.some.injEq, Prod.mk.injEq] at h5
              obtain ⟨rfl, rfl, rfl, rfl, rfl, rfl⟩ := h5
              have hm' : decide (0 < m1) = true := decide_eq_true hm
              clear hm
              go_wp2_with (first | ((with_reducible refine gate_callee (f := 53) rfl ?_); (try (refine gate_guard (by rfl) ?_; dsimp only)); refine goesL_ (some 44) rfl rfl Try.func53 (by kernel_rfl) rfl #[.pointer (some ⟨g, 0, none⟩), .int .i64 8] rfl (by (try simp only [List.map_toArray, List.map_cons, List.map_nil]); first | done | rfl) ?_; (with_reducible refine (octs_In_Int.calls k g l b 8 d1 d2 d3 W2 _ HI.out HBc.out A9.out).mono ?_); rintro e W8 ⟨rfl, hi8, hb8, hk8⟩; refine ⟨_, rfl, ?_⟩; have BK8 := Aside0.mk (KeepBut.blk hk8 BK.out (Ne.symm NGK.out) (by simp)); have BR8 := Aside0.mk (KeepBut.blk hk8 BR.out (Ne.symm NR.out) (by simp)); have HI9 := Aside0.mk (IsS117.far (p := ⟨gb, 4, none⟩) hi8 NGK.out (.int .u64 d1)); have HB9 := Aside0.mk (below_set (j := 4) (v := .int .u64 d1) hb8 GK.out); have BK9 := Aside0.mk (blk_put (cs := #[.int .i64 (wrap64 v1), .string y0, .string y1, .string y2, .int .u64 0]) (cs' := #[.int .i64 (wrap64 v1), .string y0, .string y1, .string y2, .int .u64 d1]) BK8.out 4 (.int .u64 d1) rfl); have BR9 := Aside0.mk (blk_far (p := ⟨gb, 4, none⟩) BR8.out NK.out (.int .u64 d1)); have ck4 : W8.cell? ⟨gb, 4, none⟩ = some (.int .u64 0) := (blk_cell BK8.out 4).trans rfl; have fk4 := blk_frozen BK8.out 4; clear hi8 hb8 hk8 HI HBc BK BR BP BK8 BR8) | ((with_reducible refine gate_callee (f := 55) rfl ?_); (try (refine gate_guard (by rfl) ?_; dsimp only)); refine goesL_ (some 47) rfl rfl Try.func55 (by kernel_rfl) rfl #[.pointer (some ⟨g, 0, none⟩)] rfl (by (try simp only [List.map_toArray, List.map_cons, List.map_nil]); first | done | rfl) ?_; (with_reducible refine (octs_In_Ok.calls g d2 d3 _ o2 o3 W2 _ HI9.out HB9.out A6.out).mono ?_); rintro e W10 ⟨rfl, hi8, hb8, hk8⟩; refine ⟨_, rfl, ?_⟩; have BK10 := Aside0.mk (KeepBut.blk hk8 BK9.out (Ne.symm NGK.out) (by simp)); have BR10 := Aside0.mk (KeepBut.blk hk8 BR9.out (Ne.symm NR.out) (by simp)); have HI10 := Aside0.mk hi8; have HB10 := Aside0.mk hb8; (try clear ck0 ck1 ck2 ck3 ck4 fk0 fk1 fk2 fk3 fk4); obtain ⟨⟨cr0, cr1, cr2, cr3, cr4⟩, fr0, fr1, fr2, fr3, fr4⟩ := keys_Parse_cells BR10.out; clear hi8 hb8 hk8 BK9 BR9 HI9 HB9) | ((with_reducible refine gate_callee (f := 56) rfl ?_); (try (refine gate_guard (by rfl) ?_; dsimp only)); refine goesL_ (some 51) rfl rfl Try.func56 (by kernel_rfl) rfl #[.pointer (some ⟨g, 0, none⟩)] rfl (by (try simp only [List.map_toArray, List.map_cons, List.map_nil]); first | done | rfl) ?_; (with_reducible refine (octs_In_Left.calls g o2 o3 m1 m2 m3 W2 _ HI10.out HB10.out A7.out).mono ?_); rintro e W11 ⟨rfl, hi8, hb8, hk8⟩; refine ⟨_, rfl, ?_⟩; have BK11 := Aside0.mk (KeepBut.blk hk8 BK10.out (Ne.symm NGK.out) (by simp)); have BR11 := Aside0.mk (KeepBut.blk hk8 BR10.out (Ne.symm NR.out) (by simp)); have HB11 := Aside0.mk hb8; (try clear cr0 cr1 cr2 cr3 cr4 fr0 fr1 fr2 fr3 fr4); obtain ⟨⟨ck0, ck1, ck2, ck3, ck4⟩, fk0, fk1, fk2, fk3, fk4⟩ := keys_Parse_cells BK11.out; obtain ⟨⟨cr0, cr1, cr2, cr3, cr4⟩, fr0, fr1, fr2, fr3, fr4⟩ := keys_Parse_cells BR11.out; clear hi8 hb8 hk8 BK10 BR10 HI10 HB10))
              refine bodyPost_ret (results_ct rfl _ _ gr 74 #[.int .i64 0, .string (⟨#[]⟩ : ByteArray), .string (⟨#[]⟩ : ByteArray), .string (⟨#[]⟩ : ByteArray), .int .u64 0] (0, 0) _ rfl (by refine blk_put (cs := #[.int .i64 0, .string (⟨#[]⟩ : ByteArray), .string (⟨#[]⟩ : ByteArray), .string (⟨#[]⟩ : ByteArray), .int .u64 0]) ?_ 4 _ rfl; refine blk_put (cs := #[.int .i64 0, .string (⟨#[]⟩ : ByteArray), .string (⟨#[]⟩ : ByteArray), .string (⟨#[]⟩ : ByteArray), .int .u64 0]) ?_ 3 _ rfl; refine blk_put (cs := #[.int .i64 0, .string (⟨#[]⟩ : ByteArray), .string (⟨#[]⟩ : ByteArray), .string (⟨#[]⟩ : ByteArray), .int .u64 0]) ?_ 2 _ rfl; refine blk_put (cs := #[.int .i64 0, .string (⟨#[]⟩ : ByteArray), .string (⟨#[]⟩ : ByteArray), .string (⟨#[]⟩ : ByteArray), .int .u64 0]) ?_ 1 _ rfl; refine blk_put (cs := #[.int .i64 0, .string (⟨#[]⟩ : ByteArray), .string (⟨#[]⟩ : ByteArray), .string (⟨#[]⟩ : ByteArray), .int .u64 0]) ?_ 0 _ rfl; exact BR11.out) Try.underlying74 rfl (by kernel_rfl)) rfl ?_
              exact ⟨rfl, below_set (below_set (below_set (below_set (below_set (below_step HB2.out HB11.out) GR.out) GR.out) GR.out) GR.out) GR.out⟩
            · rw [if_neg hm] at h5
              obtain ⟨gd, h6, h5⟩ := Option.bind_eq_some_iff.mp h5
              have A8 := Aside0.mk (show keys_good.f k (wrap64 v1) y0 y1 y2 d1 = some gd from h6)
              clear h6
              have hm' : decide (0 < m1) = false := decide_eq_false hm
              clear hm
              cases gd with
              | false =>
                rw [if_neg (by simp)] at h5
                simp only [Option.some.injEq, Prod.mk.injEq] at h5
                obtain ⟨rfl, rfl, rfl, rfl, rfl, rfl⟩ := h5
                go_wp2_with (first | ((with_reducible refine gate_callee (f := 53) rfl ?_); (try (refine gate_guard (by rfl) ?_; dsimp only)); refine goesL_ (some 44) rfl rfl Try.func53 (by kernel_rfl) rfl #[.pointer (some ⟨g, 0, none⟩), .int .i64 8] rfl (by (try simp only [List.map_toArray, List.map_cons, List.map_nil]); first | done | rfl) ?_; (with_reducible refine (octs_In_Int.calls k g l b 8 d1 d2 d3 W2 _ HI.out HBc.out A9.out).mono ?_); rintro e W8 ⟨rfl, hi8, hb8, hk8⟩; refine ⟨_, rfl, ?_⟩; have BK8 := Aside0.mk (KeepBut.blk hk8 BK.out (Ne.symm NGK.out) (by simp)); have BR8 := Aside0.mk (KeepBut.blk hk8 BR.out (Ne.symm NR.out) (by simp)); have HI9 := Aside0.mk (IsS117.far (p := ⟨gb, 4, none⟩) hi8 NGK.out (.int .u64 d1)); have HB9 := Aside0.mk (below_set (j := 4) (v := .int .u64 d1) hb8 GK.out); have BK9 := Aside0.mk (blk_put (cs := #[.int .i64 (wrap64 v1), .string y0, .string y1, .string y2, .int .u64 0]) (cs' := #[.int .i64 (wrap64 v1), .string y0, .string y1, .string y2, .int .u64 d1]) BK8.out 4 (.int .u64 d1) rfl); have BR9 := Aside0.mk (blk_far (p := ⟨gb, 4, none⟩) BR8.out NK.out (.int .u64 d1)); have ck4 : W8.cell? ⟨gb, 4, none⟩ = some (.int .u64 0) := (blk_cell BK8.out 4).trans rfl; have fk4 := blk_frozen BK8.out 4; clear hi8 hb8 hk8 HI HBc BK BR BP BK8 BR8) | ((with_reducible refine gate_callee (f := 55) rfl ?_); (try (refine gate_guard (by rfl) ?_; dsimp only)); refine goesL_ (some 47) rfl rfl Try.func55 (by kernel_rfl) rfl #[.pointer (some ⟨g, 0, none⟩)] rfl (by (try simp only [List.map_toArray, List.map_cons, List.map_nil]); first | done | rfl) ?_; (with_reducible refine (octs_In_Ok.calls g d2 d3 _ o2 o3 W2 _ HI9.out HB9.out A6.out).mono ?_); rintro e W10 ⟨rfl, hi8, hb8, hk8⟩; refine ⟨_, rfl, ?_⟩; have BK10 := Aside0.mk (KeepBut.blk hk8 BK9.out (Ne.symm NGK.out) (by simp)); have BR10 := Aside0.mk (KeepBut.blk hk8 BR9.out (Ne.symm NR.out) (by simp)); have HI10 := Aside0.mk hi8; have HB10 := Aside0.mk hb8; (try clear ck0 ck1 ck2 ck3 ck4 fk0 fk1 fk2 fk3 fk4); obtain ⟨⟨cr0, cr1, cr2, cr3, cr4⟩, fr0, fr1, fr2, fr3, fr4⟩ := keys_Parse_cells BR10.out; clear hi8 hb8 hk8 BK9 BR9 HI9 HB9) | ((with_reducible refine gate_callee (f := 56) rfl ?_); (try (refine gate_guard (by rfl) ?_; dsimp only)); refine goesL_ (some 51) rfl rfl Try.func56 (by kernel_rfl) rfl #[.pointer (some ⟨g, 0, none⟩)] rfl (by (try simp only [List.map_toArray, List.map_cons, List.map_nil]); first | done | rfl) ?_; (with_reducible refine (octs_In_Left.calls g o2 o3 m1 m2 m3 W2 _ HI10.out HB10.out A7.out).mono ?_); rintro e W11 ⟨rfl, hi8, hb8, hk8⟩; refine ⟨_, rfl, ?_⟩; have BK11 := Aside0.mk (KeepBut.blk hk8 BK10.out (Ne.symm NGK.out) (by simp)); have BR11 := Aside0.mk (KeepBut.blk hk8 BR10.out (Ne.symm NR.out) (by simp)); have HB11 := Aside0.mk hb8; (try clear cr0 cr1 cr2 cr3 cr4 fr0 fr1 fr2 fr3 fr4); obtain ⟨⟨ck0, ck1, ck2, ck3, ck4⟩, fk0, fk1, fk2, fk3, fk4⟩ := keys_Parse_cells BK11.out; obtain ⟨⟨cr0, cr1, cr2, cr3, cr4⟩, fr0, fr1, fr2, fr3, fr4⟩ := keys_Parse_cells BR11.out; clear hi8 hb8 hk8 BK10 BR10 HI10 HB10) | ((with_reducible refine gate_callee (f := 65) rfl ?_); (try (refine gate_guard (by rfl) ?_; dsimp only)); refine goesL_ (some 56) rfl rfl Try.func65 (by kernel_rfl) rfl #[.agg #[.int .i64 (wrap64 v1), .string y0, .string y1, .string y2, .int .u64 d1]] rfl (by (try simp only [List.map_toArray, List.map_cons, List.map_nil]); first | done | rfl) ?_; (with_reducible refine (keys_good.calls k (wrap64 v1) y0 y1 y2 d1 false _ A8.out).mono ?_); rintro e W12 ⟨rfl, hb8⟩; refine ⟨_, rfl, ?_⟩; have BK12 := Aside0.mk (blk_below BK11.out hb8); have BR12 := Aside0.mk (blk_below BR11.out hb8); have HB12 := Aside0.mk (below_step HB11.out hb8); (try clear ck0 ck1 ck2 ck3 ck4 fk0 fk1 fk2 fk3 fk4); (try clear cr0 cr1 cr2 cr3 cr4 fr0 fr1 fr2 fr3 fr4); obtain ⟨⟨ck0, ck1, ck2, ck3, ck4⟩, fk0, fk1, fk2, fk3, fk4⟩ := keys_Parse_cells BK12.out; obtain ⟨⟨cr0, cr1, cr2, cr3, cr4⟩, fr0, fr1, fr2, fr3, fr4⟩ := keys_Parse_cells BR12.out; clear hb8 BK11 BR11 HB11))
                refine bodyPost_ret (results_ct rfl _ _ gr 74 #[.int .i64 0, .string (⟨#[]⟩ : ByteArray), .string (⟨#[]⟩ : ByteArray), .string (⟨#[]⟩ : ByteArray), .int .u64 0] (0, 0) _ rfl (by refine blk_put (cs := #[.int .i64 0, .string (⟨#[]⟩ : ByteArray), .string (⟨#[]⟩ : ByteArray), .string (⟨#[]⟩ : ByteArray), .int .u64 0]) ?_ 4 _ rfl; refine blk_put (cs := #[.int .i64 0, .string (⟨#[]⟩ : ByteArray), .string (⟨#[]⟩ : ByteArray), .string (⟨#[]⟩ : ByteArray), .int .u64 0]) ?_ 3 _ rfl; refine blk_put (cs := #[.int .i64 0, .string (⟨#[]⟩ : ByteArray), .string (⟨#[]⟩ : ByteArray), .string (⟨#[]⟩ : ByteArray), .int .u64 0]) ?_ 2 _ rfl; refine blk_put (cs := #[.int .i64 0, .string (⟨#[]⟩ : ByteArray), .string (⟨#[]⟩ : ByteArray), .string (⟨#[]⟩ : ByteArray), .int .u64 0]) ?_ 1 _ rfl; refine blk_put (cs := #[.int .i64 0, .string (⟨#[]⟩ : ByteArray), .string (⟨#[]⟩ : ByteArray), .string (⟨#[]⟩ : ByteArray), .int .u64 0]) ?_ 0 _ rfl; exact BR12.out) Try.underlying74 rfl (by kernel_rfl)) rfl ?_
                exact ⟨rfl, below_set (below_set (below_set (below_set (below_set (below_step HB2.out HB12.out) GR.out) GR.out) GR.out) GR.out) GR.out⟩
              | true =>
                rw [if_pos rfl] at h5
                simp only [Option.some.injEq, Prod.mk.injEq] at h5
                obtain ⟨rfl, rfl, rfl, rfl, rfl, rfl⟩ := h5
                go_wp2_with (first | ((with_reducible refine gate_callee (f := 53) rfl ?_); (try (refine gate_guard (by rfl) ?_; dsimp only)); refine goesL_ (some 44) rfl rfl Try.func53 (by kernel_rfl) rfl #[.pointer (some ⟨g, 0, none⟩), .int .i64 8] rfl (by (try simp only [List.map_toArray, List.map_cons, List.map_nil]); first | done | rfl) ?_; (with_reducible refine (octs_In_Int.calls k g l b 8 d1 d2 d3 W2 _ HI.out HBc.out A9.out).mono ?_); rintro e W8 ⟨rfl, hi8, hb8, hk8⟩; refine ⟨_, rfl, ?_⟩; have BK8 := Aside0.mk (KeepBut.blk hk8 BK.out (Ne.symm NGK.out) (by simp)); have BR8 := Aside0.mk (KeepBut.blk hk8 BR.out (Ne.symm NR.out) (by simp)); have HI9 := Aside0.mk (IsS117.far (p := ⟨gb, 4, none⟩) hi8 NGK.out (.int .u64 d1)); have HB9 := Aside0.mk (below_set (j := 4) (v := .int .u64 d1) hb8 GK.out); have BK9 := Aside0.mk (blk_put (cs := #[.int .i64 (wrap64 v1), .string y0, .string y1, .string y2, .int .u64 0]) (cs' := #[.int .i64 (wrap64 v1), .string y0, .string y1, .string y2, .int .u64 d1]) BK8.out 4 (.int .u64 d1) rfl); have BR9 := Aside0.mk (blk_far (p := ⟨gb, 4, none⟩) BR8.out NK.out (.int .u64 d1)); have ck4 : W8.cell? ⟨gb, 4, none⟩ = some (.int .u64 0) := (blk_cell BK8.out 4).trans rfl; have fk4 := blk_frozen BK8.out 4; clear hi8 hb8 hk8 HI HBc BK BR BP BK8 BR8) | ((with_reducible refine gate_callee (f := 55) rfl ?_); (try (refine gate_guard (by rfl) ?_; dsimp only)); refine goesL_ (some 47) rfl rfl Try.func55 (by kernel_rfl) rfl #[.pointer (some ⟨g, 0, none⟩)] rfl (by (try simp only [List.map_toArray, List.map_cons, List.map_nil]); first | done | rfl) ?_; (with_reducible refine (octs_In_Ok.calls g d2 d3 _ o2 o3 W2 _ HI9.out HB9.out A6.out).mono ?_); rintro e W10 ⟨rfl, hi8, hb8, hk8⟩; refine ⟨_, rfl, ?_⟩; have BK10 := Aside0.mk (KeepBut.blk hk8 BK9.out (Ne.symm NGK.out) (by simp)); have BR10 := Aside0.mk (KeepBut.blk hk8 BR9.out (Ne.symm NR.out) (by simp)); have HI10 := Aside0.mk hi8; have HB10 := Aside0.mk hb8; (try clear ck0 ck1 ck2 ck3 ck4 fk0 fk1 fk2 fk3 fk4); obtain ⟨⟨cr0, cr1, cr2, cr3, cr4⟩, fr0, fr1, fr2, fr3, fr4⟩ := keys_Parse_cells BR10.out; clear hi8 hb8 hk8 BK9 BR9 HI9 HB9) | ((with_reducible refine gate_callee (f := 56) rfl ?_); (try (refine gate_guard (by rfl) ?_; dsimp only)); refine goesL_ (some 51) rfl rfl Try.func56 (by kernel_rfl) rfl #[.pointer (some ⟨g, 0, none⟩)] rfl (by (try simp only [List.map_toArray, List.map_cons, List.map_nil]); first | done | rfl) ?_; (with_reducible refine (octs_In_Left.calls g o2 o3 m1 m2 m3 W2 _ HI10.out HB10.out A7.out).mono ?_); rintro e W11 ⟨rfl, hi8, hb8, hk8⟩; refine ⟨_, rfl, ?_⟩; have BK11 := Aside0.mk (KeepBut.blk hk8 BK10.out (Ne.symm NGK.out) (by simp)); have BR11 := Aside0.mk (KeepBut.blk hk8 BR10.out (Ne.symm NR.out) (by simp)); have HB11 := Aside0.mk hb8; (try clear cr0 cr1 cr2 cr3 cr4 fr0 fr1 fr2 fr3 fr4); obtain ⟨⟨ck0, ck1, ck2, ck3, ck4⟩, fk0, fk1, fk2, fk3, fk4⟩ := keys_Parse_cells BK11.out; obtain ⟨⟨cr0, cr1, cr2, cr3, cr4⟩, fr0, fr1, fr2, fr3, fr4⟩ := keys_Parse_cells BR11.out; clear hi8 hb8 hk8 BK10 BR10 HI10 HB10) | ((with_reducible refine gate_callee (f := 65) rfl ?_); (try (refine gate_guard (by rfl) ?_; dsimp only)); refine goesL_ (some 56) rfl rfl Try.func65 (by kernel_rfl) rfl #[.agg #[.int .i64 (wrap64 v1), .string y0, .string y1, .string y2, .int .u64 d1]] rfl (by (try simp only [List.map_toArray, List.map_cons, List.map_nil]); first | done | rfl) ?_; (with_reducible refine (keys_good.calls k (wrap64 v1) y0 y1 y2 d1 true _ A8.out).mono ?_); rintro e W12 ⟨rfl, hb8⟩; refine ⟨_, rfl, ?_⟩; have BK12 := Aside0.mk (blk_below BK11.out hb8); have BR12 := Aside0.mk (blk_below BR11.out hb8); have HB12 := Aside0.mk (below_step HB11.out hb8); (try clear ck0 ck1 ck2 ck3 ck4 fk0 fk1 fk2 fk3 fk4); (try clear cr0 cr1 cr2 cr3 cr4 fr0 fr1 fr2 fr3 fr4); obtain ⟨⟨ck0, ck1, ck2, ck3, ck4⟩, fk0, fk1, fk2, fk3, fk4⟩ := keys_Parse_cells BK12.out; obtain ⟨⟨cr0, cr1, cr2, cr3, cr4⟩, fr0, fr1, fr2, fr3, fr4⟩ := keys_Parse_cells BR12.out; clear hb8 BK11 BR11 HB11))
                refine bodyPost_ret (results_ct rfl _ _ gr 74 #[.int .i64 (wrap64 v1), .string y0, .string y1, .string y2, .int .u64 d1] (0, 0) _ rfl (by refine blk_put (cs := #[.int .i64 (wrap64 v1), .string y0, .string y1, .string y2, .int .u64 0]) ?_ 4 _ rfl; refine blk_put (cs := #[.int .i64 (wrap64 v1), .string y0, .string y1, .string (⟨#[]⟩ : ByteArray), .int .u64 0]) ?_ 3 _ rfl; refine blk_put (cs := #[.int .i64 (wrap64 v1), .string y0, .string (⟨#[]⟩ : ByteArray), .string (⟨#[]⟩ : ByteArray), .int .u64 0]) ?_ 2 _ rfl; refine blk_put (cs := #[.int .i64 (wrap64 v1), .string (⟨#[]⟩ : ByteArray), .string (⟨#[]⟩ : ByteArray), .string (⟨#[]⟩ : ByteArray), .int .u64 0]) ?_ 1 _ rfl; refine blk_put (cs := #[.int .i64 0, .string (⟨#[]⟩ : ByteArray), .string (⟨#[]⟩ : ByteArray), .string (⟨#[]⟩ : ByteArray), .int .u64 0]) ?_ 0 _ rfl; exact BR12.out) Try.underlying74 rfl (by kernel_rfl)) rfl ?_
                exact ⟨rfl, below_set (below_set (below_set (below_set (below_set (below_step HB2.out HB12.out) GR.out) GR.out) GR.out) GR.out) GR.out⟩
theorem keys_Parse.mono_l (k : Nat) : ∀ (q : Nat) (n i : Int) (l : List Int) (b : Bool) (a0 a1 a2 : ByteArray), LeO (keys_Parse.l0 k q n i l b a0 a1 a2) (keys_Parse.l0 (k + 1) q n i l b a0 a1 a2)
  | 0, _, _, _, _, _, _, _ => fun r h => by simp [keys_Parse.l0] at h
  | q + 1, n, i, l, b, a0, a1, a2 => by
    simp only [keys_Parse.l0]
    exact LeO.ite (LeO.ite (LeO.bind (octs_In_Short.mono _ _ _) (fun _ => keys_Parse.mono_l k q _ _ _ _ _ _ _)) (keys_Parse.mono_l k q _ _ _ _ _ _ _)) (LeO.refl _)
theorem keys_Parse.mono_e (k : Nat) (kd : Int) (a0 a1 a2 : ByteArray) (id : Int) (l : List Int) (b : Bool) : LeO (keys_Parse.end_ k kd a0 a1 a2 id l b) (keys_Parse.end_ (k + 1) kd a0 a1 a2 id l b) :=
  LeO.bind (LeO.refl _) (fun _ => LeO.ite (LeO.bind (LeO.refl _) (fun _ => LeO.ite (LeO.refl _) (LeO.bind (keys_good.mono _ _ _ _ _ _) (fun _ => LeO.refl _)))) (LeO.refl _))
theorem keys_Parse.mono : ∀ a0 k, LeO (keys_Parse.f k a0) (keys_Parse.f (k + 1) a0) := by
  intro a0 k
  exact LeO.ite (LeO.bind (LeO.refl _) (fun _ => LeO.bind (octs_In_Int.mono _ _ _ _) (fun _ => LeO.bind (keys_has.mono _ _) (fun _ => LeO.bind (keys_Parse.mono_l k 4 _ _ _ _ _ _ _) (fun _ => LeO.ite (keys_Parse.mono_e k _ _ _ _ _ _ _) (LeO.bind (octs_In_Int.mono _ _ _ _) (fun _ => keys_Parse.mono_e k _ _ _ _ _ _ _))))))) (LeO.refl _)

/-! ### octs_In_Rest: function 70 -/
def octs_In_Rest.f (s0_0 : List Int) (s0_1 : Bool) : Option (List Int × List Int × Bool) := (octs_In_take.f s0_0 s0_1 (IntKind.u64.wrap ((s0_0.length : Int)))).bind fun bt169 => (some (bt169.1, bt169.2.1, bt169.2.2))
set_option maxHeartbeats 8000000 in
set_option maxRecDepth 100000 in
theorem octs_In_Rest.calls (g : Nat) (s0_0 : List Int) (s0_1 : Bool) (r1 : List Int) (r2 : List Int) (r3 : Bool) (w0 w : World) (hI : IsS117 w0 w g s0_0 s0_1) (hB : Below w0.heap.size w0 w) (h : octs_In_Rest.f s0_0 s0_1 = some (r1, r2, r3)) :
    Calls Try.prog 70 #[.pointer (some ⟨g, 0, none⟩)] w fun e w' => ∃ v0_ : Value, e = .returned (v0_) ∧ Kd.R (Kd.int .u8) 5 w' w.heap.size (fun _ => True) v0_ r1 ∧ IsS117 w0 w' g r2 r3 ∧ Below w0.heap.size w0 w' ∧ KeepBut w w' g none := by
  have HI0 := Aside0.mk hI
  have HK := Aside0.mk (KeepBut.refl w g none)
  have HL := Aside0.mk hB.size
  clear hI
  have HW0 := Aside0.mk hB.size
  have HB := Aside0.mk hB
  clear hB
  have H : ((octs_In_take.f s0_0 s0_1 (IntKind.u64.wrap ((s0_0.length : Int)))).bind fun bt169 => (some (bt169.1, bt169.2.1, bt169.2.2))) = some (r1, r2, r3) := h
  clear h
  replace H := Option.bind_eq_some_iff.mp H
  obtain ⟨⟨t169, t172, t173⟩, A20, H⟩ := H
  replace H : (some (t169, t172, t173)) = some (r1, r2, r3) := H
  have A2 := Aside0.mk A20
  clear A20
  simp only [Option.some.injEq, Prod.mk.injEq] at H
  obtain ⟨rfl, rfl, rfl⟩ := H
  obtain ⟨ASz3_0, cSz3_0, HGz3, hgz3, HSz3_0⟩ := HI0.out
  have hcz3_0 := cellS117_0 HGz3
  have hcz3_1 := cellS117_1 HGz3
  have hfz3_0 := blk_frozen HGz3 0
  have hfz3_1 := blk_frozen HGz3 1
  clear HGz3 hgz3
  go_enter Try.func70, Try.ntmps70
  go_wp2_with (first | ((with_reducible refine gate_callee (f := 74) rfl ?_); refine goesL_ (some 10) rfl rfl Try.func74 (by kernel_rfl) rfl #[.pointer (some ⟨g, 0, none⟩), .int .u64 (IntKind.u64.wrap ((s0_0.length : Int)))] rfl (by (try simp only [List.map_toArray, List.map_cons, List.map_nil]); first | done | rfl | (simp only [List.length_drop, List.length_take]; rfl)) ?_; (with_reducible refine (octs_In_take.calls g s0_0 s0_1 (IntKind.u64.wrap ((s0_0.length : Int))) t169 t172 t173 w0 _ ?side1 ?side2 A2.out).mono ?_); (case side1 => repeat (first | (with_reducible first | exact HI0.out | apply IsS117.alloc | apply IsS117.drewN | apply IsS117.drew | apply IsS117.set_1) | exact HI0.out)); (case side2 => repeat (first | (with_reducible first | exact HB.out | apply below_alloc | apply pw_below_drewN | apply below_drew1 | refine below_set ?_ (IsS117.ge HI0.out)) | exact HB.out)); rintro e w4 ⟨v170, rfl, ho0, hi, hb, hk⟩; refine ⟨_, rfl, ?_⟩; have n0_ := Aside0.mk (Kd.R_lower ho0 (keep_size (w := w) (g := g) (row := none) (by repeat (first | (with_reducible first | exact HK.out | apply KeepBut.set_ | apply keep_drewN | apply keep_drew | apply keep_alloc) | exact HK.out)))); have n1_ := Aside0.mk (KeepBut.trans (by repeat (first | (with_reducible first | exact HK.out | apply KeepBut.set_ | apply keep_drewN | apply keep_drew | apply keep_alloc) | exact HK.out)) hk (.inl rfl)); have n2_ := Aside0.mk (hb); have n3_ := Aside0.mk (hi); clear HK; clear HB; clear HI0; have HO171 := n0_; have HK := n1_; have HB := n2_; have HI0 := n3_; clear n0_ n1_ n2_ n3_; (try clear hb); (try clear hb2); (try clear hk); (try clear hi); (try clear hge); (try clear ho0)))
  all_goals first | (go_ret; exact ⟨_, by first | rfl | (simp [errW_none, errW_some]; done) | (simp [errW_none, errW_some]; rfl) | (simp [*, errW_none, errW_some]; done) | (simp [*, errW_none, errW_some]; rfl), by exact HO171.out, by repeat (first | (with_reducible first | exact HI0.out | apply IsS117.alloc | apply IsS117.drewN | apply IsS117.drew | apply IsS117.set_1) | exact HI0.out), by repeat (first | (with_reducible first | exact HB.out | apply below_alloc | apply pw_below_drewN | apply below_drew1 | refine below_set ?_ (IsS117.ge HI0.out)) | exact HB.out), by repeat (first | (with_reducible first | exact HK.out | apply KeepBut.set_ | apply keep_drewN | apply keep_drew | apply keep_alloc) | exact HK.out)⟩) | (exfalso; simp_all; done)
theorem octs_In_Rest.callsB (g : Nat) (s0_0 : List Int) (s0_1 : Bool) (r1 : List Int) (r2 : List Int) (r3 : Bool) (w0 w : World) (hI : IsB117 w0 w g s0_0 s0_1) (hB : Below w0.heap.size w0 w) (h : octs_In_Rest.f s0_0 s0_1 = some (r1, r2, r3)) :
    Calls Try.prog 70 #[.pointer (some ⟨g, 0, none⟩)] w fun e w' => ∃ v0_ : Value, e = .returned (v0_) ∧ Kd.R (Kd.int .u8) 5 w' w.heap.size (fun _ => True) v0_ r1 ∧ IsB117 w0 w' g r2 r3 ∧ Below w0.heap.size w0 w' ∧ KeepBut w w' g none := by
  obtain ⟨wb_, hs_, hv_, hi_⟩ := hI
  refine (octs_In_Rest.calls g s0_0 s0_1 r1 r2 r3 wb_ w hi_ hv_ h).mono ?_
  rintro e_ w_ ⟨v0_, rfl, ho0_, hi2_, hb_, hk_⟩
  obtain ⟨h1_, h2_⟩ := IsB117.step hB ⟨wb_, hs_, hv_, hi_.ge, hb_, hi2_⟩ hk_
  exact ⟨v0_, rfl, ho0_, h1_, h2_, hk_⟩

end Go.Proofs.Ytpjkaodbcclecaa.PK
