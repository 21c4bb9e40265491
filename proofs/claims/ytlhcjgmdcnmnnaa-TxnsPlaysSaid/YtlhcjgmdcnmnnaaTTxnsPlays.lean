/-
TxnsPlays' walk.
-/
import Derived.Test.YtlhcjgmdcnmnnaaTTxnsOne
namespace Go.Proofs.Ytlhcjgmdcnmnnaa.PT
open Go.RowKit Go.Proofs.YtlhcjgmdcnmnnaaW.PrintWords Go.Proofs.YtlhcjgmdcnmnnaaW.PrintLast Go.Proofs.YtlhcjgmdcnmnnaaW.PrintMore
set_option linter.unusedVariables false
set_option linter.unusedSimpArgs false
set_option maxHeartbeats 8000000
set_option maxRecDepth 100000
theorem waybilllaw22_TxnsPlays.calls (A0 : Option Addr) (c0 : Nat) (l : List S41) (w : World) (hl : l.length ≤ c0) (hC : Kd.C k41 w A0 l.length l) : Calls Try.prog 4 #[.slice A0 l.length c0] w fun e w' => e = .returned (.bool true) ∧ Below w.heap.size w w' := by
  have hu37 := Try.underlying37
  have hu30 := Try.underlying30
  have hu28 := Try.underlying28
  have hu41 := Try.underlying41
  have HF := Aside0.mk (Kd.C_F k41_heap hC)
  have HLM := Aside0.mk (Kd.C_max hC)
  clear hC
  have HB := Aside0.mk (Below.refl w.heap.size w)
  go_enter Try.func4, Try.ntmps4
  go_upto_region 4 with (first | (go_at_call 15; refine (Tx.new _).mono ?_; rintro e w1 ⟨g, rfl, hg, hi, hb⟩; have HI := Aside0.mk hi; have HG := Aside0.mk (show w.heap.size ≤ g from Nat.le_trans (below_size (by repeat (first | (with_reducible first | exact HB.out | apply below_alloc | apply pw_below_drewN | apply below_drew1) | exact HB.out))) hg); have n1_ := Aside0.mk (below_step (by repeat (first | (with_reducible first | exact HB.out | apply below_alloc | apply pw_below_drewN | apply below_drew1) | exact HB.out)) hb); clear HB; have HB := n1_; clear n1_; clear hi hg hb) | (go_at_call 16; refine (Tx.awake _).mono ?_; rintro e w6 ⟨rfl, hb⟩; have n0_ := Aside0.mk (Tx.below (by ((with_reducible repeat (first | apply Tx.is_alloc | apply Tx.is_drewN | apply Tx.is_drew)); exact HI.out)) hb); clear HI; have HI := n0_; clear n0_; have n1_ := Aside0.mk (below_step (by repeat (first | (with_reducible first | exact HB.out | apply below_alloc | apply pw_below_drewN | apply below_drew1) | exact HB.out)) hb); clear HB; have HB := n1_; clear n1_; clear hb))
  obtain ⟨v0, HINV⟩ : ∃ v0, Aside0 (Tx.Inv w w6 g false v0 (.slice none 0 0) [] []) := by
    obtain ⟨A, c, hbk, hn⟩ := HI.out
    exact ⟨_, ⟨HG.out, ⟨hbk, Kd.N_mono hn (fun k hk => ⟨hk, by simp [Value.ownBlock]⟩)⟩, Kd.N_nil _ _ _ _ _, HB.out⟩⟩
  clear HI HB
  go_wp2
  go_loopg [4, 5, 6] 62 (fun kq v4 v5 v6 w' => ∃ (j : Int) (on : Bool) (v : Value) (xs : List S37), v4 = .bool on ∧ v6 = .int .i64 j ∧ Aside0 (0 ≤ j) ∧ Aside0 (j ≤ 60) ∧ Aside0 (j ≤ (l.length : Int)) ∧ Aside0 (kq + j.toNat = 62) ∧ Aside0 (Tx.Inv w w' g on v v5 xs xs) ∧ Aside0 (xs.length ≤ j.toNat ∧ ∀ x ∈ xs, Tx.small x))
  case atStart => exact ⟨0, false, v0, [], rfl, rfl, ⟨by omega⟩, ⟨by omega⟩, ⟨by omega⟩, ⟨rfl⟩, HINV, ⟨Nat.zero_le _, fun x hx => by cases hx⟩⟩
  case round =>
    clear HINV
    obtain ⟨j, on, v, xs, rfl, rfl, HP, HJ, HJ2, HI0, HINV, HXS⟩ := hrel
    have hp := HP.out
    have hj := HJ.out
    have hj2 := HJ2.out
    by_cases c1 : j < (l.length : Int)
    · have c1b : decide (j < (l.length : Int)) = true := decide_eq_true c1
      by_cases c2 : j < 60
      · have c2b : decide (j < 60) = true := decide_eq_true c2
        obtain ⟨k1, rfl⟩ : ∃ k1, gk = k1 + 1 := ⟨gk - 1, by have := HI0.out; omega⟩
        obtain ⟨ad, A6, c6, A8, c8, ead, hx0, hx1, hx2, hx3, hx4, hx5, hx6, hx7, hx8, hx9, hl6, hF6, hl8, hF8⟩ := at_F41 (Kd.F_below HF.out HINV.out.bel) j hp c1
        subst ead
        obtain ⟨o, ho⟩ : ∃ o, o = rd_T41 l j := ⟨_, rfl⟩
        rw [← ho] at hx0 hx1 hx2 hx3 hx4 hx5 hx6 hx7 hx8 hx9 hl6 hF6 hl8 hF8
        clear ho
        have HC6 := Aside0.mk hl6
        have HC8 := Aside0.mk hl8
        have H6 := Aside0.mk hF6
        have H8 := Aside0.mk hF8
        clear hl6 hl8 hF6 hF8
        have HD := Aside0.mk (Below.refl wr.heap.size wr)
        have p0 : (0 ≤ j) = True := eq_true hp
        have q0 : (j < (l.length : Int)) = True := eq_true c1
        go_upto_region 10 with (first | ((with_reducible refine gate_dst (N := 7) rfl ?_); refine box_event ?hg (N := 7) ?hd (cs := #[.int .i64 0, .string (⟨#[]⟩ : ByteArray), .string (⟨#[]⟩ : ByteArray), .string (⟨#[]⟩ : ByteArray), .string (⟨#[]⟩ : ByteArray), .int .i64 0, .slice none 0 0, .bool false, .slice none 0 0, .bool false]) (t := 41) ?hr ?_; (case hd => rfl); (case hg => rfl); (case hr => first | (go_simp; done) | (go_simp; rfl)); intro gb he w1 hbox hb; have GE := Aside0.mk (show wr.heap.size ≤ gb from by rw [he]; exact below_size (by repeat (first | (with_reducible first | exact HD.out | apply below_alloc | apply pw_below_drewN | apply below_drew1) | exact HD.out))); have BK := Aside0.mk hbox; have n0_ := Aside0.mk (below_step (by repeat (first | (with_reducible first | exact HD.out | apply below_alloc | apply pw_below_drewN | apply below_drew1) | exact HD.out)) hb); clear HD; have HD := n0_; clear n0_; clear hbox hb he; have hcz0 : w1.cell? ⟨gb, 0, none⟩ = some (.int .i64 0) := (blk_cell BK.out 0).trans rfl; have hcz1 : w1.cell? ⟨gb, 1, none⟩ = some (.string (⟨#[]⟩ : ByteArray)) := (blk_cell BK.out 1).trans rfl; have hcz2 : w1.cell? ⟨gb, 2, none⟩ = some (.string (⟨#[]⟩ : ByteArray)) := (blk_cell BK.out 2).trans rfl; have hcz3 : w1.cell? ⟨gb, 3, none⟩ = some (.string (⟨#[]⟩ : ByteArray)) := (blk_cell BK.out 3).trans rfl; have hcz4 : w1.cell? ⟨gb, 4, none⟩ = some (.string (⟨#[]⟩ : ByteArray)) := (blk_cell BK.out 4).trans rfl; have hcz5 : w1.cell? ⟨gb, 5, none⟩ = some (.int .i64 0) := (blk_cell BK.out 5).trans rfl; have hcz6 : w1.cell? ⟨gb, 6, none⟩ = some (.slice none 0 0) := (blk_cell BK.out 6).trans rfl; have hcz7 : w1.cell? ⟨gb, 7, none⟩ = some (.bool false) := (blk_cell BK.out 7).trans rfl; have hcz8 : w1.cell? ⟨gb, 8, none⟩ = some (.slice none 0 0) := (blk_cell BK.out 8).trans rfl; have hcz9 : w1.cell? ⟨gb, 9, none⟩ = some (.bool false) := (blk_cell BK.out 9).trans rfl; have hfz0 := blk_frozen BK.out 0; have hfz1 := blk_frozen BK.out 1; have hfz2 := blk_frozen BK.out 2; have hfz3 := blk_frozen BK.out 3; have hfz4 := blk_frozen BK.out 4; have hfz5 := blk_frozen BK.out 5; have hfz6 := blk_frozen BK.out 6; have hfz7 := blk_frozen BK.out 7; have hfz8 := blk_frozen BK.out 8; have hfz9 := blk_frozen BK.out 9) | ((with_reducible refine gate_store (t := 41) (p := 7) rfl ?_); refine store_event (t := 41) (p := 7) (v := ?vo_w2) (w1 := ((((((((((w1.setCell ⟨gb, 0, none⟩ (.int .i64 o.f0)).setCell ⟨gb, 1, none⟩ (.string o.f1.f0)).setCell ⟨gb, 2, none⟩ (.string o.f1.f1.f0)).setCell ⟨gb, 3, none⟩ (.string o.f1.f1.f1)).setCell ⟨gb, 4, none⟩ (.string o.f1.f1.f2)).setCell ⟨gb, 5, none⟩ (.int .i64 o.f1.f1.f3)).setCell ⟨gb, 6, none⟩ (.slice A6 o.f1.f1.f4.length c6)).setCell ⟨gb, 7, none⟩ (.bool o.f1.f2)).setCell ⟨gb, 8, none⟩ (.slice A8 o.f2.length c8)).setCell ⟨gb, 9, none⟩ (.bool o.f3))) ?hg ?ho ?hn ?hr ?_; (case ho => rfl); (case hg => rfl); (case hn => rfl); (case hr => first | (go_simp; done) | (go_simp; rfl)); intro w2 hw; have BK2 : Aside0 (w2.heap[gb]? = some (.cells #[.int .i64 o.f0, .string o.f1.f0, .string o.f1.f1.f0, .string o.f1.f1.f1, .string o.f1.f1.f2, .int .i64 o.f1.f1.f3, .slice A6 o.f1.f1.f4.length c6, .bool o.f1.f2, .slice A8 o.f2.length c8, .bool o.f3] 41 (0, 0))) := ⟨by rw [hw]; refine blk_put (cs := #[.int .i64 o.f0, .string o.f1.f0, .string o.f1.f1.f0, .string o.f1.f1.f1, .string o.f1.f1.f2, .int .i64 o.f1.f1.f3, .slice A6 o.f1.f1.f4.length c6, .bool o.f1.f2, .slice A8 o.f2.length c8, .bool false]) ?_ 9 _ rfl; refine blk_put (cs := #[.int .i64 o.f0, .string o.f1.f0, .string o.f1.f1.f0, .string o.f1.f1.f1, .string o.f1.f1.f2, .int .i64 o.f1.f1.f3, .slice A6 o.f1.f1.f4.length c6, .bool o.f1.f2, .slice none 0 0, .bool false]) ?_ 8 _ rfl; refine blk_put (cs := #[.int .i64 o.f0, .string o.f1.f0, .string o.f1.f1.f0, .string o.f1.f1.f1, .string o.f1.f1.f2, .int .i64 o.f1.f1.f3, .slice A6 o.f1.f1.f4.length c6, .bool false, .slice none 0 0, .bool false]) ?_ 7 _ rfl; refine blk_put (cs := #[.int .i64 o.f0, .string o.f1.f0, .string o.f1.f1.f0, .string o.f1.f1.f1, .string o.f1.f1.f2, .int .i64 o.f1.f1.f3, .slice none 0 0, .bool false, .slice none 0 0, .bool false]) ?_ 6 _ rfl; refine blk_put (cs := #[.int .i64 o.f0, .string o.f1.f0, .string o.f1.f1.f0, .string o.f1.f1.f1, .string o.f1.f1.f2, .int .i64 0, .slice none 0 0, .bool false, .slice none 0 0, .bool false]) ?_ 5 _ rfl; refine blk_put (cs := #[.int .i64 o.f0, .string o.f1.f0, .string o.f1.f1.f0, .string o.f1.f1.f1, .string (⟨#[]⟩ : ByteArray), .int .i64 0, .slice none 0 0, .bool false, .slice none 0 0, .bool false]) ?_ 4 _ rfl; refine blk_put (cs := #[.int .i64 o.f0, .string o.f1.f0, .string o.f1.f1.f0, .string (⟨#[]⟩ : ByteArray), .string (⟨#[]⟩ : ByteArray), .int .i64 0, .slice none 0 0, .bool false, .slice none 0 0, .bool false]) ?_ 3 _ rfl; refine blk_put (cs := #[.int .i64 o.f0, .string o.f1.f0, .string (⟨#[]⟩ : ByteArray), .string (⟨#[]⟩ : ByteArray), .string (⟨#[]⟩ : ByteArray), .int .i64 0, .slice none 0 0, .bool false, .slice none 0 0, .bool false]) ?_ 2 _ rfl; refine blk_put (cs := #[.int .i64 o.f0, .string (⟨#[]⟩ : ByteArray), .string (⟨#[]⟩ : ByteArray), .string (⟨#[]⟩ : ByteArray), .string (⟨#[]⟩ : ByteArray), .int .i64 0, .slice none 0 0, .bool false, .slice none 0 0, .bool false]) ?_ 1 _ rfl; refine blk_put (cs := #[.int .i64 0, .string (⟨#[]⟩ : ByteArray), .string (⟨#[]⟩ : ByteArray), .string (⟨#[]⟩ : ByteArray), .string (⟨#[]⟩ : ByteArray), .int .i64 0, .slice none 0 0, .bool false, .slice none 0 0, .bool false]) ?_ 0 _ rfl; exact BK.out⟩; have HD2 := Aside0.mk (show Below wr.heap.size wr w2 from by rw [hw]; repeat (first | (with_reducible exact HD.out) | (with_reducible refine below_set ?_ GE.out))); clear hw HD; have HD := HD2; clear HD2; clear hcz0 hfz0 hcz1 hfz1 hcz2 hfz2 hcz3 hfz3 hcz4 hfz4 hcz5 hfz5 hcz6 hfz6 hcz7 hfz7 hcz8 hfz8 hcz9 hfz9; have hcy0 : w2.cell? ⟨gb, 0, none⟩ = some (.int .i64 o.f0) := (blk_cell BK2.out 0).trans rfl; have hcy1 : w2.cell? ⟨gb, 1, none⟩ = some (.string o.f1.f0) := (blk_cell BK2.out 1).trans rfl; have hcy2 : w2.cell? ⟨gb, 2, none⟩ = some (.string o.f1.f1.f0) := (blk_cell BK2.out 2).trans rfl; have hcy3 : w2.cell? ⟨gb, 3, none⟩ = some (.string o.f1.f1.f1) := (blk_cell BK2.out 3).trans rfl; have hcy4 : w2.cell? ⟨gb, 4, none⟩ = some (.string o.f1.f1.f2) := (blk_cell BK2.out 4).trans rfl; have hcy5 : w2.cell? ⟨gb, 5, none⟩ = some (.int .i64 o.f1.f1.f3) := (blk_cell BK2.out 5).trans rfl; have hcy6 : w2.cell? ⟨gb, 6, none⟩ = some (.slice A6 o.f1.f1.f4.length c6) := (blk_cell BK2.out 6).trans rfl; have hcy7 : w2.cell? ⟨gb, 7, none⟩ = some (.bool o.f1.f2) := (blk_cell BK2.out 7).trans rfl; have hcy8 : w2.cell? ⟨gb, 8, none⟩ = some (.slice A8 o.f2.length c8) := (blk_cell BK2.out 8).trans rfl; have hcy9 : w2.cell? ⟨gb, 9, none⟩ = some (.bool o.f3) := (blk_cell BK2.out 9).trans rfl))
        clear hx0 hx1 hx2 hx3 hx4 hx5 hx6 hx7 hx8 hx9 BK
        have n0_ := Aside0.mk (Tx.Inv.below HINV.out HD.out)
        have n1_ := Aside0.mk (Kd.F_below H6.out HD.out)
        have n2_ := Aside0.mk (Kd.F_below H8.out HD.out)
        clear HINV H6 H8 HD
        have HINV := n0_
        have H6 := n1_
        have H8 := n2_
        clear n0_ n1_ n2_ GE
        by_cases d1 : (o.f2.length : Int) > 60
        · have d1b : decide ((o.f2.length : Int) > 60) = true := decide_eq_true d1
          as_aux_lemma =>
            go_wp2
            go_ret
            exact ⟨rfl, HINV.out.bel⟩
        · have d1b : decide ((o.f2.length : Int) > 60) = false := decide_eq_false d1
          by_cases d2 : (o.f1.f1.f4.length : Int) > 11000
          · have d2b : decide ((o.f1.f1.f4.length : Int) > 11000) = true := decide_eq_true d2
            as_aux_lemma =>
              go_wp2
              go_ret
              exact ⟨rfl, HINV.out.bel⟩
          · have d2b : decide ((o.f1.f1.f4.length : Int) > 11000) = false := decide_eq_false d2
            by_cases d3 : (600 : Int) < wrap64 (wrap64 (wrap64 ((o.f1.f0.size : Int) + (o.f1.f1.f0.size : Int)) + (o.f1.f1.f1.size : Int)) + (o.f1.f1.f2.size : Int))
            · have d3b := decide_eq_true d3
              as_aux_lemma =>
                go_wp2
                go_ret
                exact ⟨rfl, HINV.out.bel⟩
            · have d3b := decide_eq_false d3
              go_upto_block 2 with (fail)
              clear d3 d3b d1b d2b
              generalize Value.agg #[.int .i64 o.f0, .string o.f1.f0, .string o.f1.f1.f0, .string o.f1.f1.f1, .string o.f1.f1.f2, .int .i64 o.f1.f1.f3, .slice A6 o.f1.f1.f4.length c6, .bool o.f1.f2, .slice A8 o.f2.length c8, .bool o.f3] = vagg
              refine Tx.play_one w w2 g gb on v u5 xs j.toNat o A6 c6 A8 c8 HG.out HINV.out HXS.out (by omega) BK2.out H6.out HC6.out H8.out HC8.out (by omega) (by omega) _ _ _ _ _ _ _ _ _ _ _ _ _ _ _ _ _ _ _ _ _ _ _ _ _ _ _ _ _ _ _ _ _ _ _ _ _ _ _ _ _ _ _ _ _ _ _ _ _ _ _ _ _ _ _ _ _ _ _ _ _ _ _ _ _ _ _ _ _ _ _ _ _ _ _ _ _ _ _ _ _ _ _ _ _ _ _ _ _ _ _ _ _ _ _ _ _ _ _ _ _ _ _ _ _ _ _ _ _ _ _ _ _ _ _ _ _ _ _ _ _ _ _ _ _ _ _ _ _ _ _ _ _ _ _ _ _ _ _ _ _ _ _ _ _ _ _ _ _ _ _ _ _ _ _ _ _ _ _ _ _ _ _ _ _ _ _ _ _ _ _ _ _ _ _ _ _ _ _ _ _ _ _ _ _ _ _ _ _ _ _ _ _ _ _ _ _ _ _ _ _ _ ?hJ (fun _ _ h => h)
              case hJ =>
                clear HINV HXS BK2 H6 H8 HC6 HC8
                intro on' v' u' xs' wc s8 s74 s75 s76 s77 s78 s79 s80 s81 s82 s83 s84 s85 s86 s87 s88 s89 s90 s91 s92 s93 s94 s95 s96 s97 s98 s99 s100 s101 s102 s103 s104 s105 s106 s107 s108 s109 s110 s111 s112 s113 s114 s115 s116 hinv hxs
                have HINV := Aside0.mk hinv
                have HXS := Aside0.mk hxs
                clear hinv hxs
                obtain ⟨Au, cu, eu⟩ := Kd.N_slice HINV.out.want
                subst eu
                go_upto_region 36 with (first | (go_at_call 20; refine (Tx.steps (g := g) (on := on') (xs := xs') (Tx.Own.at_ (Tx.Inv.own (by (with_reducible repeat (first | apply Tx.Inv.is_alloc | apply Tx.Inv.is_drewN | apply Tx.Inv.is_drew)); exact HINV.out)) (fun k_ hk_ => hk_.1)) (by have := HXS.out.1; omega) (fun x hx => ⟨by have := (HXS.out.2 x hx).1; omega, by have := (HXS.out.2 x hx).2; omega⟩)).mono ?_; rintro e w4 ⟨vs, rfl, hn, hi, hb⟩; have n0_ := Aside0.mk (Tx.Inv.below (by (with_reducible repeat (first | apply Tx.Inv.is_alloc | apply Tx.Inv.is_drewN | apply Tx.Inv.is_drew)); exact HINV.out) hb); clear HINV; have HINV := n0_; clear n0_; obtain ⟨As, cs, es⟩ := Kd.N_slice hn; subst es; have HN := Aside0.mk (Kd.N_mono (ok' := fun _ => True) (Kd.N_lower hn (Nat.zero_le _)) (fun _ _ => trivial)); clear hn hi hb) | (go_at_call 19; refine (Tx.isOn (g := g) (on := on') (xs := xs') (Tx.Own.at_ (Tx.Inv.own (by (with_reducible repeat (first | apply Tx.Inv.is_alloc | apply Tx.Inv.is_drewN | apply Tx.Inv.is_drew)); exact HINV.out)) (fun k_ hk_ => hk_.1))).mono ?_; rintro e w5 ⟨rfl, hi, hb⟩; have n0_ := Aside0.mk (Tx.Inv.below (by (with_reducible repeat (first | apply Tx.Inv.is_alloc | apply Tx.Inv.is_drewN | apply Tx.Inv.is_drew)); exact HINV.out) hb); clear HINV; have HINV := n0_; clear n0_; have n0_ := Aside0.mk (Kd.N_below (by (with_reducible repeat (first | apply Kd.N_alloc | apply Kd.N_drewN | apply Kd.N_drew)); exact HN.out) hb); clear HN; have HN := n0_; clear n0_; clear hi hb))
                go_wp2
                go_loopg [10] (xs'.length + 1) (fun kq v10 w' => ∃ q : Int, v10 = .int .i64 q ∧ Aside0 (0 ≤ q) ∧ Aside0 (q ≤ (xs'.length : Int)) ∧ Aside0 (kq + q.toNat = xs'.length + 1) ∧ Aside0 (Tx.Inv w w' g on' v' (.slice Au xs'.length cu) xs' xs') ∧ Aside0 (Kd.N k37 37 w' 0 (fun _ => True) (.slice As xs'.length cs) xs'))
                case atStart => exact ⟨0, rfl, ⟨by omega⟩, ⟨by omega⟩, ⟨rfl⟩, HINV, HN⟩
                case round =>
                  clear HINV HN
                  obtain ⟨q, rfl, QP, QJ, QI, HINV, HN⟩ := hrel
                  have qp := QP.out
                  have qj := QJ.out
                  by_cases e1 : q < (xs'.length : Int)
                  · have e1b : decide (q < (xs'.length : Int)) = true := decide_eq_true e1
                    obtain ⟨k2, rfl⟩ : ∃ k2, gk = k2 + 1 := ⟨gk - 1, by have := QI.out; omega⟩
                    obtain ⟨ad1, A6, c6, A8, c8, ea1, hx0, hx1, hx2, hx3, hx4, hx5, hx6, hx7, hx8, hl6, hC6, hl8, hC8⟩ := at_T37 (Kd.N_reads' (Kd.N_drew HN.out)).2.2 q qp e1
                    subst ea1
                    obtain ⟨ad2, B6, d6, B8, d8, ea2, hy0, hy1, hy2, hy3, hy4, hy5, hy6, hy7, hy8, hm6, hD6, hm8, hD8⟩ := at_T37 (Kd.N_reads' (Kd.N_drew HINV.out.want)).2.2 q qp e1
                    subst ea2
                    obtain ⟨x, hx⟩ : ∃ x, x = rd_T37 xs' q := ⟨_, rfl⟩
                    rw [← hx] at hx0 hx1 hx2 hx3 hx4 hx5 hx6 hx7 hx8 hl6 hC6 hl8 hC8 hy0 hy1 hy2 hy3 hy4 hy5 hy6 hy7 hy8 hm6 hD6 hm8 hD8
                    have HXL := Aside0.mk (show x.f2.length ≤ 60 from by rw [hx]; exact (HXS.out.2 _ (rd37_mem xs' q qp e1)).2)
                    clear hx
                    have HL6 := Aside0.mk hl6
                    have HL8 := Aside0.mk hl8
                    have HM6 := Aside0.mk hm6
                    have HM8 := Aside0.mk hm8
                    have HC6 := Aside0.mk hC6
                    have HC8 := Aside0.mk hC8
                    have HD6 := Aside0.mk hD6
                    have HD8 := Aside0.mk hD8
                    clear hl6 hl8 hm6 hm8 hC6 hC8 hD6 hD8
                    have qp0 : (0 ≤ q) = True := eq_true qp
                    have qq0 : (q < (xs'.length : Int)) = True := eq_true e1
                    go_upto_region 39 with (fail)
                    refine start_ (n := 12) (S := fun w' => w'.cell? ((ad1).add (q.toNat * 9)) = some (.int .i64 x.f0) ∧ w'.cell? ⟨(ad1.add (q.toNat * 9)).block, (ad1.add (q.toNat * 9)).off + 1, none⟩ = some (.string x.f1.f0) ∧ w'.cell? ⟨(ad1.add (q.toNat * 9)).block, (ad1.add (q.toNat * 9)).off + 2, none⟩ = some (.string x.f1.f1.f0) ∧ w'.cell? ⟨(ad1.add (q.toNat * 9)).block, (ad1.add (q.toNat * 9)).off + 3, none⟩ = some (.string x.f1.f1.f1) ∧ w'.cell? ⟨(ad1.add (q.toNat * 9)).block, (ad1.add (q.toNat * 9)).off + 4, none⟩ = some (.string x.f1.f1.f2) ∧ w'.cell? ⟨(ad1.add (q.toNat * 9)).block, (ad1.add (q.toNat * 9)).off + 5, none⟩ = some (.int .i64 x.f1.f1.f3) ∧ w'.cell? ⟨(ad1.add (q.toNat * 9)).block, (ad1.add (q.toNat * 9)).off + 6, none⟩ = some (.slice A6 x.f1.f1.f4.length c6) ∧ w'.cell? ⟨(ad1.add (q.toNat * 9)).block, (ad1.add (q.toNat * 9)).off + 7, none⟩ = some (.bool x.f1.f2) ∧ w'.cell? ⟨(ad1.add (q.toNat * 9)).block, (ad1.add (q.toNat * 9)).off + 8, none⟩ = some (.slice A8 x.f2.length c8) ∧ w'.cell? ((ad2).add (q.toNat * 9)) = some (.int .i64 x.f0) ∧ w'.cell? ⟨(ad2.add (q.toNat * 9)).block, (ad2.add (q.toNat * 9)).off + 1, none⟩ = some (.string x.f1.f0) ∧ w'.cell? ⟨(ad2.add (q.toNat * 9)).block, (ad2.add (q.toNat * 9)).off + 2, none⟩ = some (.string x.f1.f1.f0) ∧ w'.cell? ⟨(ad2.add (q.toNat * 9)).block, (ad2.add (q.toNat * 9)).off + 3, none⟩ = some (.string x.f1.f1.f1) ∧ w'.cell? ⟨(ad2.add (q.toNat * 9)).block, (ad2.add (q.toNat * 9)).off + 4, none⟩ = some (.string x.f1.f1.f2) ∧ w'.cell? ⟨(ad2.add (q.toNat * 9)).block, (ad2.add (q.toNat * 9)).off + 5, none⟩ = some (.int .i64 x.f1.f1.f3) ∧ w'.cell? ⟨(ad2.add (q.toNat * 9)).block, (ad2.add (q.toNat * 9)).off + 6, none⟩ = some (.slice B6 x.f1.f1.f4.length d6) ∧ w'.cell? ⟨(ad2.add (q.toNat * 9)).block, (ad2.add (q.toNat * 9)).off + 7, none⟩ = some (.bool x.f1.f2) ∧ w'.cell? ⟨(ad2.add (q.toNat * 9)).block, (ad2.add (q.toNat * 9)).off + 8, none⟩ = some (.slice B8 x.f2.length d8)) (ds := [11]) #[false, false, false, false, false, false, false, false, false, false, false, false] (by kernel_rfl) rfl rfl ⟨hx0, hx1, hx2, hx3, hx4, hx5, hx6, hx7, hx8, hy0, hy1, hy2, hy3, hy4, hy5, hy6, hy7, hy8⟩ (fun hHeld => ?_)
                    refine pure_ (i := 0) (N := some 136) (v := ?_) (a' := ?_) #[true, false, false, false, false, false, false, false, false, false, false, false] rfl rfl (by kernel_rfl) (fun _ _ _ h => h) (Or.inl ⟨by rfl, ?_⟩) ?_ ?_
                    rotate_left
                    · intro w'
                      go_simp
                      with_reducible rfl
                    rotate_left
                    · simp only [Act.put, List.setIfInBounds_toArray, List.set_cons_zero, List.set_cons_succ, i64_w, i32_w]
                      rfl
                    refine pure_ (i := 1) (N := some 137) (v := ?_) (a' := ?_) #[true, true, false, false, false, false, false, false, false, false, false, false] rfl rfl (by kernel_rfl) (fun _ _ _ h => h) (Or.inl ⟨by rfl, ?_⟩) ?_ ?_
                    rotate_left
                    · intro w'
                      go_simp
                      with_reducible rfl
                    rotate_left
                    · simp only [Act.put, List.setIfInBounds_toArray, List.set_cons_zero, List.set_cons_succ, i64_w, i32_w]
                      rfl
                    refine pure_ (i := 2) (N := some 138) (v := ?_) (a' := ?_) #[true, true, true, false, false, false, false, false, false, false, false, false] rfl rfl (by kernel_rfl) (fun _ _ _ h => h) (Or.inl ⟨by rfl, ?_⟩) ?_ ?_
                    rotate_left
                    · intro w'
                      go_simp
                      with_reducible rfl
                    rotate_left
                    · simp only [Act.put, List.setIfInBounds_toArray, List.set_cons_zero, List.set_cons_succ, i64_w, i32_w]
                      rfl
                    refine pure_ (i := 4) (N := some 140) (v := ?_) (a' := ?_) #[true, true, true, false, true, false, false, false, false, false, false, false] rfl rfl (by kernel_rfl) (fun _ _ _ h => h) (Or.inl ⟨by rfl, ?_⟩) ?_ ?_
                    rotate_left
                    · intro w'
                      go_simp
                      with_reducible rfl
                    rotate_left
                    · simp only [Act.put, List.setIfInBounds_toArray, List.set_cons_zero, List.set_cons_succ, i64_w, i32_w]
                      rfl
                    refine pure_ (i := 5) (N := some 141) (v := ?_) (a' := ?_) #[true, true, true, false, true, true, false, false, false, false, false, false] rfl rfl (by kernel_rfl) (fun _ _ _ h => h) (Or.inl ⟨by rfl, ?_⟩) ?_ ?_
                    rotate_left
                    · intro w'
                      go_simp
                      with_reducible rfl
                    rotate_left
                    · simp only [Act.put, List.setIfInBounds_toArray, List.set_cons_zero, List.set_cons_succ, i64_w, i32_w]
                      rfl
                    refine pure_ (i := 6) (N := some 142) (v := ?_) (a' := ?_) #[true, true, true, false, true, true, true, false, false, false, false, false] rfl rfl (by kernel_rfl) (fun _ _ _ h => h) (Or.inl ⟨by rfl, ?_⟩) ?_ ?_
                    rotate_left
                    · intro w'
                      go_simp
                      with_reducible rfl
                    rotate_left
                    · simp only [Act.put, List.setIfInBounds_toArray, List.set_cons_zero, List.set_cons_succ, i64_w, i32_w]
                      rfl
                    refine take_ (i := 3) (N := some 139) (v := ?_) (a' := ?_) #[true, true, true, true, true, true, true, false, false, false, false, false] rfl rfl (by kernel_rfl) (fun _ _ _ h => h) (Or.inl ⟨by rfl, ?_⟩) hHeld ?_ ?_
                    rotate_left
                    · rintro w' ⟨s0, s1, s2, s3, s4, s5, s6, s7, s8, s9, s10, s11, s12, s13, s14, s15, s16, s17⟩
                      go_simp
                      with_reducible rfl
                    rotate_left
                    · simp only [Act.put, List.setIfInBounds_toArray, List.set_cons_zero, List.set_cons_succ, i64_w, i32_w]
                      rfl
                    refine take_ (i := 7) (N := some 143) (v := ?_) (a' := ?_) #[true, true, true, true, true, true, true, true, false, false, false, false] rfl rfl (by kernel_rfl) (fun _ _ _ h => h) (Or.inl ⟨by rfl, ?_⟩) hHeld ?_ ?_
                    rotate_left
                    · rintro w' ⟨s0, s1, s2, s3, s4, s5, s6, s7, s8, s9, s10, s11, s12, s13, s14, s15, s16, s17⟩
                      go_simp
                      with_reducible rfl
                    rotate_left
                    · simp only [Act.put, List.setIfInBounds_toArray, List.set_cons_zero, List.set_cons_succ, i64_w, i32_w]
                      rfl
                    refine join_ (σ := Nat × Nat) 2 #[true, true, true, true, true, true, true, true, true, true, false, false] (fun s_ => [(11, .pointer (some ⟨s_.1, 0, none⟩)), (12, .pointer (some ⟨s_.2, 0, none⟩))]) (fun s_ w' => (w'.cell? ((ad1).add (q.toNat * 9)) = some (.int .i64 x.f0) ∧ w'.cell? ⟨(ad1.add (q.toNat * 9)).block, (ad1.add (q.toNat * 9)).off + 1, none⟩ = some (.string x.f1.f0) ∧ w'.cell? ⟨(ad1.add (q.toNat * 9)).block, (ad1.add (q.toNat * 9)).off + 2, none⟩ = some (.string x.f1.f1.f0) ∧ w'.cell? ⟨(ad1.add (q.toNat * 9)).block, (ad1.add (q.toNat * 9)).off + 3, none⟩ = some (.string x.f1.f1.f1) ∧ w'.cell? ⟨(ad1.add (q.toNat * 9)).block, (ad1.add (q.toNat * 9)).off + 4, none⟩ = some (.string x.f1.f1.f2) ∧ w'.cell? ⟨(ad1.add (q.toNat * 9)).block, (ad1.add (q.toNat * 9)).off + 5, none⟩ = some (.int .i64 x.f1.f1.f3) ∧ w'.cell? ⟨(ad1.add (q.toNat * 9)).block, (ad1.add (q.toNat * 9)).off + 6, none⟩ = some (.slice A6 x.f1.f1.f4.length c6) ∧ w'.cell? ⟨(ad1.add (q.toNat * 9)).block, (ad1.add (q.toNat * 9)).off + 7, none⟩ = some (.bool x.f1.f2) ∧ w'.cell? ⟨(ad1.add (q.toNat * 9)).block, (ad1.add (q.toNat * 9)).off + 8, none⟩ = some (.slice A8 x.f2.length c8) ∧ w'.cell? ((ad2).add (q.toNat * 9)) = some (.int .i64 x.f0) ∧ w'.cell? ⟨(ad2.add (q.toNat * 9)).block, (ad2.add (q.toNat * 9)).off + 1, none⟩ = some (.string x.f1.f0) ∧ w'.cell? ⟨(ad2.add (q.toNat * 9)).block, (ad2.add (q.toNat * 9)).off + 2, none⟩ = some (.string x.f1.f1.f0) ∧ w'.cell? ⟨(ad2.add (q.toNat * 9)).block, (ad2.add (q.toNat * 9)).off + 3, none⟩ = some (.string x.f1.f1.f1) ∧ w'.cell? ⟨(ad2.add (q.toNat * 9)).block, (ad2.add (q.toNat * 9)).off + 4, none⟩ = some (.string x.f1.f1.f2) ∧ w'.cell? ⟨(ad2.add (q.toNat * 9)).block, (ad2.add (q.toNat * 9)).off + 5, none⟩ = some (.int .i64 x.f1.f1.f3) ∧ w'.cell? ⟨(ad2.add (q.toNat * 9)).block, (ad2.add (q.toNat * 9)).off + 6, none⟩ = some (.slice B6 x.f1.f1.f4.length d6) ∧ w'.cell? ⟨(ad2.add (q.toNat * 9)).block, (ad2.add (q.toNat * 9)).off + 7, none⟩ = some (.bool x.f1.f2) ∧ w'.cell? ⟨(ad2.add (q.toNat * 9)).block, (ad2.add (q.toNat * 9)).off + 8, none⟩ = some (.slice B8 x.f2.length d8)) ∧ w'.heap[s_.1]? = some (.cells #[.int .i64 0, .string (⟨#[]⟩ : ByteArray), .string (⟨#[]⟩ : ByteArray), .string (⟨#[]⟩ : ByteArray), .string (⟨#[]⟩ : ByteArray), .int .i64 0, .slice none 0 0, .bool false, .slice none 0 0] 37 (0, 0)) ∧ w'.heap[s_.2]? = some (.cells #[.int .i64 0, .string (⟨#[]⟩ : ByteArray), .string (⟨#[]⟩ : ByteArray), .string (⟨#[]⟩ : ByteArray), .string (⟨#[]⟩ : ByteArray), .int .i64 0, .slice none 0 0, .bool false, .slice none 0 0] 37 (0, 0)) ∧ s_.1 ≠ s_.2 ∧ wr.drew.heap.size ≤ s_.1 ∧ wr.drew.heap.size ≤ s_.2 ∧ Below wr.drew.heap.size wr.drew w') ?_ ?_
                    rotate_left
                    · intro hCont
                      refine two_ (i := 8) (j := 9) (Ni := some 11) (Nj := some 12) #[true, true, true, true, true, true, true, true, true, false, false, false] #[true, true, true, true, true, true, true, true, false, true, false, false] rfl rfl rfl rfl (by kernel_rfl) (by decide) (by decide) (fun K hK => ?_) (fun K hK => ?_)
                      · skip
                        refine box_step (by rfl) (N := 11) rfl (cs := #[.int .i64 0, .string (⟨#[]⟩ : ByteArray), .string (⟨#[]⟩ : ByteArray), .string (⟨#[]⟩ : ByteArray), .string (⟨#[]⟩ : ByteArray), .int .i64 0, .slice none 0 0, .bool false, .slice none 0 0]) (t := 37) (by first | (go_simp; done) | (go_simp; rfl)) ?_
                        intro g1 he1 w5 hb1 hbb1
                        have HE1 := Aside0.mk he1
                        have HBK1 := Aside0.mk hb1
                        have HBB1 := Aside0.mk hbb1
                        have HDw5 := Aside0.mk hbb1
                        clear he1 hb1 hbb1
                        refine hK.out _ _ ⟨(pw_cell_below HDw5.out hx0), (pw_cell_below HDw5.out hx1), (pw_cell_below HDw5.out hx2), (pw_cell_below HDw5.out hx3), (pw_cell_below HDw5.out hx4), (pw_cell_below HDw5.out hx5), (pw_cell_below HDw5.out hx6), (pw_cell_below HDw5.out hx7), (pw_cell_below HDw5.out hx8), (pw_cell_below HDw5.out hy0), (pw_cell_below HDw5.out hy1), (pw_cell_below HDw5.out hy2), (pw_cell_below HDw5.out hy3), (pw_cell_below HDw5.out hy4), (pw_cell_below HDw5.out hy5), (pw_cell_below HDw5.out hy6), (pw_cell_below HDw5.out hy7), (pw_cell_below HDw5.out hy8)⟩ (fun hHeld => ?_)
                        clear hK K
                        refine norm_ (a' := ?_) ?_ ?_
                        rotate_left
                        · show Act.put _ (some 11) _ = _
                          simp only [Act.put, List.setIfInBounds_toArray, List.set_cons_zero, List.set_cons_succ, i64_w, i32_w]
                          rfl
                        refine one_ (i := 9) (N := some 12) #[true, true, true, true, true, true, true, true, true, true, false, false] rfl rfl (by kernel_rfl) (by decide) (fun K hK => ?_)
                        refine box_step (by rfl) (N := 12) rfl (cs := #[.int .i64 0, .string (⟨#[]⟩ : ByteArray), .string (⟨#[]⟩ : ByteArray), .string (⟨#[]⟩ : ByteArray), .string (⟨#[]⟩ : ByteArray), .int .i64 0, .slice none 0 0, .bool false, .slice none 0 0]) (t := 37) (by first | (go_simp; done) | (go_simp; rfl)) ?_
                        intro g2 he2 w6 hb2 hbb2
                        have HE2 := Aside0.mk he2
                        have HBK2 := Aside0.mk hb2
                        have HBB2 := Aside0.mk hbb2
                        have HDw6 := Aside0.mk (below_step HDw5.out hbb2)
                        clear he2 hb2 hbb2
                        refine hK.out _ _ ⟨(pw_cell_below HDw6.out hx0), (pw_cell_below HDw6.out hx1), (pw_cell_below HDw6.out hx2), (pw_cell_below HDw6.out hx3), (pw_cell_below HDw6.out hx4), (pw_cell_below HDw6.out hx5), (pw_cell_below HDw6.out hx6), (pw_cell_below HDw6.out hx7), (pw_cell_below HDw6.out hx8), (pw_cell_below HDw6.out hy0), (pw_cell_below HDw6.out hy1), (pw_cell_below HDw6.out hy2), (pw_cell_below HDw6.out hy3), (pw_cell_below HDw6.out hy4), (pw_cell_below HDw6.out hy5), (pw_cell_below HDw6.out hy6), (pw_cell_below HDw6.out hy7), (pw_cell_below HDw6.out hy8)⟩ (fun hHeld => ?_)
                        clear hK K
                        refine norm_ (a' := ?_) ?_ ?_
                        rotate_left
                        · show Act.put _ (some 12) _ = _
                          simp only [Act.put, List.setIfInBounds_toArray, List.set_cons_zero, List.set_cons_succ, i64_w, i32_w]
                          rfl
                        exact norm_ (by simp only [putAll, Act.put, List.setIfInBounds_toArray, List.set_cons_zero, List.set_cons_succ]) (hCont (g1, g2) _ ⟨⟨(pw_cell_below HDw6.out hx0), (pw_cell_below HDw6.out hx1), (pw_cell_below HDw6.out hx2), (pw_cell_below HDw6.out hx3), (pw_cell_below HDw6.out hx4), (pw_cell_below HDw6.out hx5), (pw_cell_below HDw6.out hx6), (pw_cell_below HDw6.out hx7), (pw_cell_below HDw6.out hx8), (pw_cell_below HDw6.out hy0), (pw_cell_below HDw6.out hy1), (pw_cell_below HDw6.out hy2), (pw_cell_below HDw6.out hy3), (pw_cell_below HDw6.out hy4), (pw_cell_below HDw6.out hy5), (pw_cell_below HDw6.out hy6), (pw_cell_below HDw6.out hy7), (pw_cell_below HDw6.out hy8)⟩, blk_below HBK1.out HBB2.out, HBK2.out, (by have h_ := blk_lt HBK1.out; have e_ := HE2.out; omega), Nat.le_of_eq HE1.out.symm, (by have h_ := HDw5.out.size; have e_ := HE2.out; omega), HDw6.out⟩)
                      · skip
                        refine box_step (by rfl) (N := 12) rfl (cs := #[.int .i64 0, .string (⟨#[]⟩ : ByteArray), .string (⟨#[]⟩ : ByteArray), .string (⟨#[]⟩ : ByteArray), .string (⟨#[]⟩ : ByteArray), .int .i64 0, .slice none 0 0, .bool false, .slice none 0 0]) (t := 37) (by first | (go_simp; done) | (go_simp; rfl)) ?_
                        intro g2 he2 w5 hb2 hbb2
                        have HE2 := Aside0.mk he2
                        have HBK2 := Aside0.mk hb2
                        have HBB2 := Aside0.mk hbb2
                        have HDw5 := Aside0.mk hbb2
                        clear he2 hb2 hbb2
                        refine hK.out _ _ ⟨(pw_cell_below HDw5.out hx0), (pw_cell_below HDw5.out hx1), (pw_cell_below HDw5.out hx2), (pw_cell_below HDw5.out hx3), (pw_cell_below HDw5.out hx4), (pw_cell_below HDw5.out hx5), (pw_cell_below HDw5.out hx6), (pw_cell_below HDw5.out hx7), (pw_cell_below HDw5.out hx8), (pw_cell_below HDw5.out hy0), (pw_cell_below HDw5.out hy1), (pw_cell_below HDw5.out hy2), (pw_cell_below HDw5.out hy3), (pw_cell_below HDw5.out hy4), (pw_cell_below HDw5.out hy5), (pw_cell_below HDw5.out hy6), (pw_cell_below HDw5.out hy7), (pw_cell_below HDw5.out hy8)⟩ (fun hHeld => ?_)
                        clear hK K
                        refine norm_ (a' := ?_) ?_ ?_
                        rotate_left
                        · show Act.put _ (some 12) _ = _
                          simp only [Act.put, List.setIfInBounds_toArray, List.set_cons_zero, List.set_cons_succ, i64_w, i32_w]
                          rfl
                        refine one_ (i := 8) (N := some 11) #[true, true, true, true, true, true, true, true, true, true, false, false] rfl rfl (by kernel_rfl) (by decide) (fun K hK => ?_)
                        refine box_step (by rfl) (N := 11) rfl (cs := #[.int .i64 0, .string (⟨#[]⟩ : ByteArray), .string (⟨#[]⟩ : ByteArray), .string (⟨#[]⟩ : ByteArray), .string (⟨#[]⟩ : ByteArray), .int .i64 0, .slice none 0 0, .bool false, .slice none 0 0]) (t := 37) (by first | (go_simp; done) | (go_simp; rfl)) ?_
                        intro g1 he1 w6 hb1 hbb1
                        have HE1 := Aside0.mk he1
                        have HBK1 := Aside0.mk hb1
                        have HBB1 := Aside0.mk hbb1
                        have HDw6 := Aside0.mk (below_step HDw5.out hbb1)
                        clear he1 hb1 hbb1
                        refine hK.out _ _ ⟨(pw_cell_below HDw6.out hx0), (pw_cell_below HDw6.out hx1), (pw_cell_below HDw6.out hx2), (pw_cell_below HDw6.out hx3), (pw_cell_below HDw6.out hx4), (pw_cell_below HDw6.out hx5), (pw_cell_below HDw6.out hx6), (pw_cell_below HDw6.out hx7), (pw_cell_below HDw6.out hx8), (pw_cell_below HDw6.out hy0), (pw_cell_below HDw6.out hy1), (pw_cell_below HDw6.out hy2), (pw_cell_below HDw6.out hy3), (pw_cell_below HDw6.out hy4), (pw_cell_below HDw6.out hy5), (pw_cell_below HDw6.out hy6), (pw_cell_below HDw6.out hy7), (pw_cell_below HDw6.out hy8)⟩ (fun hHeld => ?_)
                        clear hK K
                        refine norm_ (a' := ?_) ?_ ?_
                        rotate_left
                        · show Act.put _ (some 11) _ = _
                          simp only [Act.put, List.setIfInBounds_toArray, List.set_cons_zero, List.set_cons_succ, i64_w, i32_w]
                          rfl
                        exact norm_ (by simp only [putAll, Act.put, List.setIfInBounds_toArray, List.set_cons_zero, List.set_cons_succ]) (hCont (g1, g2) _ ⟨⟨(pw_cell_below HDw6.out hx0), (pw_cell_below HDw6.out hx1), (pw_cell_below HDw6.out hx2), (pw_cell_below HDw6.out hx3), (pw_cell_below HDw6.out hx4), (pw_cell_below HDw6.out hx5), (pw_cell_below HDw6.out hx6), (pw_cell_below HDw6.out hx7), (pw_cell_below HDw6.out hx8), (pw_cell_below HDw6.out hy0), (pw_cell_below HDw6.out hy1), (pw_cell_below HDw6.out hy2), (pw_cell_below HDw6.out hy3), (pw_cell_below HDw6.out hy4), (pw_cell_below HDw6.out hy5), (pw_cell_below HDw6.out hy6), (pw_cell_below HDw6.out hy7), (pw_cell_below HDw6.out hy8)⟩, HBK1.out, blk_below HBK2.out HBB1.out, (by have h_ := blk_lt HBK2.out; have e_ := HE1.out; omega), (by have h_ := HDw5.out.size; have e_ := HE1.out; omega), Nat.le_of_eq HE2.out.symm, HDw6.out⟩)
                    rintro ⟨g1, g2⟩ w5 ⟨hHeld, hz1, hz2, hne, hg1, hg2, hbel⟩
                    have HZ1 := Aside0.mk hz1
                    have HZ2 := Aside0.mk hz2
                    have HNE := Aside0.mk hne
                    have HG1 := Aside0.mk hg1
                    have HG2_ := Aside0.mk hg2
                    have HDw5 := Aside0.mk hbel
                    clear hz1 hz2 hne hg1 hg2 hbel
                    dsimp only at HZ1 HZ2 HNE HG1 HG2_
                    have hcz0 : w5.cell? ⟨g1, 0, none⟩ = some (.int .i64 0) := (blk_cell HZ1.out 0).trans rfl; have hcz1 : w5.cell? ⟨g1, 1, none⟩ = some (.string (⟨#[]⟩ : ByteArray)) := (blk_cell HZ1.out 1).trans rfl; have hcz2 : w5.cell? ⟨g1, 2, none⟩ = some (.string (⟨#[]⟩ : ByteArray)) := (blk_cell HZ1.out 2).trans rfl; have hcz3 : w5.cell? ⟨g1, 3, none⟩ = some (.string (⟨#[]⟩ : ByteArray)) := (blk_cell HZ1.out 3).trans rfl; have hcz4 : w5.cell? ⟨g1, 4, none⟩ = some (.string (⟨#[]⟩ : ByteArray)) := (blk_cell HZ1.out 4).trans rfl; have hcz5 : w5.cell? ⟨g1, 5, none⟩ = some (.int .i64 0) := (blk_cell HZ1.out 5).trans rfl; have hcz6 : w5.cell? ⟨g1, 6, none⟩ = some (.slice none 0 0) := (blk_cell HZ1.out 6).trans rfl; have hcz7 : w5.cell? ⟨g1, 7, none⟩ = some (.bool false) := (blk_cell HZ1.out 7).trans rfl; have hcz8 : w5.cell? ⟨g1, 8, none⟩ = some (.slice none 0 0) := (blk_cell HZ1.out 8).trans rfl; have hfz0 := blk_frozen HZ1.out 0; have hfz1 := blk_frozen HZ1.out 1; have hfz2 := blk_frozen HZ1.out 2; have hfz3 := blk_frozen HZ1.out 3; have hfz4 := blk_frozen HZ1.out 4; have hfz5 := blk_frozen HZ1.out 5; have hfz6 := blk_frozen HZ1.out 6; have hfz7 := blk_frozen HZ1.out 7; have hfz8 := blk_frozen HZ1.out 8
                    refine norm_ (a' := ?_) ?_ ?_
                    rotate_left
                    · simp only [putAll, Act.put, List.setIfInBounds_toArray, List.set_cons_zero, List.set_cons_succ]
                      rfl
                    refine one_ (i := 10) (N := none) #[true, true, true, true, true, true, true, true, true, true, true, false] rfl rfl (by kernel_rfl) (by decide) (fun K hK => ?_)
                    refine skip_ (w1 := (((((((((w5.setCell ⟨g1, 0, none⟩ (.int .i64 x.f0)).setCell ⟨g1, 1, none⟩ (.string x.f1.f0)).setCell ⟨g1, 2, none⟩ (.string x.f1.f1.f0)).setCell ⟨g1, 3, none⟩ (.string x.f1.f1.f1)).setCell ⟨g1, 4, none⟩ (.string x.f1.f1.f2)).setCell ⟨g1, 5, none⟩ (.int .i64 x.f1.f1.f3)).setCell ⟨g1, 6, none⟩ (.slice A6 x.f1.f1.f4.length c6)).setCell ⟨g1, 7, none⟩ (.bool x.f1.f2)).setCell ⟨g1, 8, none⟩ (.slice A8 x.f2.length c8))) (by rfl) rfl ?_ ?_
                    · go_simp
                      try rfl
                    obtain ⟨w6, hw⟩ : ∃ w_, w_ = (((((((((w5.setCell ⟨g1, 0, none⟩ (.int .i64 x.f0)).setCell ⟨g1, 1, none⟩ (.string x.f1.f0)).setCell ⟨g1, 2, none⟩ (.string x.f1.f1.f0)).setCell ⟨g1, 3, none⟩ (.string x.f1.f1.f1)).setCell ⟨g1, 4, none⟩ (.string x.f1.f1.f2)).setCell ⟨g1, 5, none⟩ (.int .i64 x.f1.f1.f3)).setCell ⟨g1, 6, none⟩ (.slice A6 x.f1.f1.f4.length c6)).setCell ⟨g1, 7, none⟩ (.bool x.f1.f2)).setCell ⟨g1, 8, none⟩ (.slice A8 x.f2.length c8)) := ⟨_, rfl⟩
                    rw [← hw]
                    have HOw6 : Aside0 (w6.heap[g1]? = some (.cells #[.int .i64 x.f0, .string x.f1.f0, .string x.f1.f1.f0, .string x.f1.f1.f1, .string x.f1.f1.f2, .int .i64 x.f1.f1.f3, .slice A6 x.f1.f1.f4.length c6, .bool x.f1.f2, .slice A8 x.f2.length c8] 37 (0, 0))) := ⟨by rw [hw]; refine blk_put (cs := #[.int .i64 x.f0, .string x.f1.f0, .string x.f1.f1.f0, .string x.f1.f1.f1, .string x.f1.f1.f2, .int .i64 x.f1.f1.f3, .slice A6 x.f1.f1.f4.length c6, .bool x.f1.f2, .slice none 0 0]) ?_ 8 _ rfl; refine blk_put (cs := #[.int .i64 x.f0, .string x.f1.f0, .string x.f1.f1.f0, .string x.f1.f1.f1, .string x.f1.f1.f2, .int .i64 x.f1.f1.f3, .slice A6 x.f1.f1.f4.length c6, .bool false, .slice none 0 0]) ?_ 7 _ rfl; refine blk_put (cs := #[.int .i64 x.f0, .string x.f1.f0, .string x.f1.f1.f0, .string x.f1.f1.f1, .string x.f1.f1.f2, .int .i64 x.f1.f1.f3, .slice none 0 0, .bool false, .slice none 0 0]) ?_ 6 _ rfl; refine blk_put (cs := #[.int .i64 x.f0, .string x.f1.f0, .string x.f1.f1.f0, .string x.f1.f1.f1, .string x.f1.f1.f2, .int .i64 0, .slice none 0 0, .bool false, .slice none 0 0]) ?_ 5 _ rfl; refine blk_put (cs := #[.int .i64 x.f0, .string x.f1.f0, .string x.f1.f1.f0, .string x.f1.f1.f1, .string (⟨#[]⟩ : ByteArray), .int .i64 0, .slice none 0 0, .bool false, .slice none 0 0]) ?_ 4 _ rfl; refine blk_put (cs := #[.int .i64 x.f0, .string x.f1.f0, .string x.f1.f1.f0, .string (⟨#[]⟩ : ByteArray), .string (⟨#[]⟩ : ByteArray), .int .i64 0, .slice none 0 0, .bool false, .slice none 0 0]) ?_ 3 _ rfl; refine blk_put (cs := #[.int .i64 x.f0, .string x.f1.f0, .string (⟨#[]⟩ : ByteArray), .string (⟨#[]⟩ : ByteArray), .string (⟨#[]⟩ : ByteArray), .int .i64 0, .slice none 0 0, .bool false, .slice none 0 0]) ?_ 2 _ rfl; refine blk_put (cs := #[.int .i64 x.f0, .string (⟨#[]⟩ : ByteArray), .string (⟨#[]⟩ : ByteArray), .string (⟨#[]⟩ : ByteArray), .string (⟨#[]⟩ : ByteArray), .int .i64 0, .slice none 0 0, .bool false, .slice none 0 0]) ?_ 1 _ rfl; refine blk_put (cs := #[.int .i64 0, .string (⟨#[]⟩ : ByteArray), .string (⟨#[]⟩ : ByteArray), .string (⟨#[]⟩ : ByteArray), .string (⟨#[]⟩ : ByteArray), .int .i64 0, .slice none 0 0, .bool false, .slice none 0 0]) ?_ 0 _ rfl; exact HZ1.out⟩
                    have HPw6 : Aside0 (w6.heap[g2]? = some (.cells #[.int .i64 0, .string (⟨#[]⟩ : ByteArray), .string (⟨#[]⟩ : ByteArray), .string (⟨#[]⟩ : ByteArray), .string (⟨#[]⟩ : ByteArray), .int .i64 0, .slice none 0 0, .bool false, .slice none 0 0] 37 (0, 0))) := ⟨by rw [hw]; repeat (first | (with_reducible exact HZ2.out) | refine blk_far ?_ (Ne.symm HNE.out) _)⟩
                    have HDw6 := Aside0.mk (show Below wr.drew.heap.size wr.drew w6 from by rw [hw]; repeat (first | (with_reducible exact HDw5.out) | (with_reducible refine below_set ?_ HG1.out)))
                    clear hw hcz0 hfz0 hcz1 hfz1 hcz2 hfz2 hcz3 hfz3 hcz4 hfz4 hcz5 hfz5 hcz6 hfz6 hcz7 hfz7 hcz8 hfz8
                    have hcz0 : w6.cell? ⟨g2, 0, none⟩ = some (.int .i64 0) := (blk_cell HPw6.out 0).trans rfl; have hcz1 : w6.cell? ⟨g2, 1, none⟩ = some (.string (⟨#[]⟩ : ByteArray)) := (blk_cell HPw6.out 1).trans rfl; have hcz2 : w6.cell? ⟨g2, 2, none⟩ = some (.string (⟨#[]⟩ : ByteArray)) := (blk_cell HPw6.out 2).trans rfl; have hcz3 : w6.cell? ⟨g2, 3, none⟩ = some (.string (⟨#[]⟩ : ByteArray)) := (blk_cell HPw6.out 3).trans rfl; have hcz4 : w6.cell? ⟨g2, 4, none⟩ = some (.string (⟨#[]⟩ : ByteArray)) := (blk_cell HPw6.out 4).trans rfl; have hcz5 : w6.cell? ⟨g2, 5, none⟩ = some (.int .i64 0) := (blk_cell HPw6.out 5).trans rfl; have hcz6 : w6.cell? ⟨g2, 6, none⟩ = some (.slice none 0 0) := (blk_cell HPw6.out 6).trans rfl; have hcz7 : w6.cell? ⟨g2, 7, none⟩ = some (.bool false) := (blk_cell HPw6.out 7).trans rfl; have hcz8 : w6.cell? ⟨g2, 8, none⟩ = some (.slice none 0 0) := (blk_cell HPw6.out 8).trans rfl; have hfz0 := blk_frozen HPw6.out 0; have hfz1 := blk_frozen HPw6.out 1; have hfz2 := blk_frozen HPw6.out 2; have hfz3 := blk_frozen HPw6.out 3; have hfz4 := blk_frozen HPw6.out 4; have hfz5 := blk_frozen HPw6.out 5; have hfz6 := blk_frozen HPw6.out 6; have hfz7 := blk_frozen HPw6.out 7; have hfz8 := blk_frozen HPw6.out 8
                    refine hK.out _ _ ⟨(pw_cell_below HDw6.out hx0), (pw_cell_below HDw6.out hx1), (pw_cell_below HDw6.out hx2), (pw_cell_below HDw6.out hx3), (pw_cell_below HDw6.out hx4), (pw_cell_below HDw6.out hx5), (pw_cell_below HDw6.out hx6), (pw_cell_below HDw6.out hx7), (pw_cell_below HDw6.out hx8), (pw_cell_below HDw6.out hy0), (pw_cell_below HDw6.out hy1), (pw_cell_below HDw6.out hy2), (pw_cell_below HDw6.out hy3), (pw_cell_below HDw6.out hy4), (pw_cell_below HDw6.out hy5), (pw_cell_below HDw6.out hy6), (pw_cell_below HDw6.out hy7), (pw_cell_below HDw6.out hy8)⟩ (fun hHeld => ?_)
                    clear hK K
                    refine last_ (i := 11) (N := none) #[true, true, true, true, true, true, true, true, true, true, true, true] rfl rfl (by kernel_rfl) (by decide) (fun K hK => ?_)
                    refine skip_ (w1 := (((((((((w6.setCell ⟨g2, 0, none⟩ (.int .i64 x.f0)).setCell ⟨g2, 1, none⟩ (.string x.f1.f0)).setCell ⟨g2, 2, none⟩ (.string x.f1.f1.f0)).setCell ⟨g2, 3, none⟩ (.string x.f1.f1.f1)).setCell ⟨g2, 4, none⟩ (.string x.f1.f1.f2)).setCell ⟨g2, 5, none⟩ (.int .i64 x.f1.f1.f3)).setCell ⟨g2, 6, none⟩ (.slice B6 x.f1.f1.f4.length d6)).setCell ⟨g2, 7, none⟩ (.bool x.f1.f2)).setCell ⟨g2, 8, none⟩ (.slice B8 x.f2.length d8))) (by rfl) rfl ?_ ?_
                    · go_simp
                      try rfl
                    obtain ⟨w7, hw⟩ : ∃ w_, w_ = (((((((((w6.setCell ⟨g2, 0, none⟩ (.int .i64 x.f0)).setCell ⟨g2, 1, none⟩ (.string x.f1.f0)).setCell ⟨g2, 2, none⟩ (.string x.f1.f1.f0)).setCell ⟨g2, 3, none⟩ (.string x.f1.f1.f1)).setCell ⟨g2, 4, none⟩ (.string x.f1.f1.f2)).setCell ⟨g2, 5, none⟩ (.int .i64 x.f1.f1.f3)).setCell ⟨g2, 6, none⟩ (.slice B6 x.f1.f1.f4.length d6)).setCell ⟨g2, 7, none⟩ (.bool x.f1.f2)).setCell ⟨g2, 8, none⟩ (.slice B8 x.f2.length d8)) := ⟨_, rfl⟩
                    rw [← hw]
                    have HOw7 : Aside0 (w7.heap[g2]? = some (.cells #[.int .i64 x.f0, .string x.f1.f0, .string x.f1.f1.f0, .string x.f1.f1.f1, .string x.f1.f1.f2, .int .i64 x.f1.f1.f3, .slice B6 x.f1.f1.f4.length d6, .bool x.f1.f2, .slice B8 x.f2.length d8] 37 (0, 0))) := ⟨by rw [hw]; refine blk_put (cs := #[.int .i64 x.f0, .string x.f1.f0, .string x.f1.f1.f0, .string x.f1.f1.f1, .string x.f1.f1.f2, .int .i64 x.f1.f1.f3, .slice B6 x.f1.f1.f4.length d6, .bool x.f1.f2, .slice none 0 0]) ?_ 8 _ rfl; refine blk_put (cs := #[.int .i64 x.f0, .string x.f1.f0, .string x.f1.f1.f0, .string x.f1.f1.f1, .string x.f1.f1.f2, .int .i64 x.f1.f1.f3, .slice B6 x.f1.f1.f4.length d6, .bool false, .slice none 0 0]) ?_ 7 _ rfl; refine blk_put (cs := #[.int .i64 x.f0, .string x.f1.f0, .string x.f1.f1.f0, .string x.f1.f1.f1, .string x.f1.f1.f2, .int .i64 x.f1.f1.f3, .slice none 0 0, .bool false, .slice none 0 0]) ?_ 6 _ rfl; refine blk_put (cs := #[.int .i64 x.f0, .string x.f1.f0, .string x.f1.f1.f0, .string x.f1.f1.f1, .string x.f1.f1.f2, .int .i64 0, .slice none 0 0, .bool false, .slice none 0 0]) ?_ 5 _ rfl; refine blk_put (cs := #[.int .i64 x.f0, .string x.f1.f0, .string x.f1.f1.f0, .string x.f1.f1.f1, .string (⟨#[]⟩ : ByteArray), .int .i64 0, .slice none 0 0, .bool false, .slice none 0 0]) ?_ 4 _ rfl; refine blk_put (cs := #[.int .i64 x.f0, .string x.f1.f0, .string x.f1.f1.f0, .string (⟨#[]⟩ : ByteArray), .string (⟨#[]⟩ : ByteArray), .int .i64 0, .slice none 0 0, .bool false, .slice none 0 0]) ?_ 3 _ rfl; refine blk_put (cs := #[.int .i64 x.f0, .string x.f1.f0, .string (⟨#[]⟩ : ByteArray), .string (⟨#[]⟩ : ByteArray), .string (⟨#[]⟩ : ByteArray), .int .i64 0, .slice none 0 0, .bool false, .slice none 0 0]) ?_ 2 _ rfl; refine blk_put (cs := #[.int .i64 x.f0, .string (⟨#[]⟩ : ByteArray), .string (⟨#[]⟩ : ByteArray), .string (⟨#[]⟩ : ByteArray), .string (⟨#[]⟩ : ByteArray), .int .i64 0, .slice none 0 0, .bool false, .slice none 0 0]) ?_ 1 _ rfl; refine blk_put (cs := #[.int .i64 0, .string (⟨#[]⟩ : ByteArray), .string (⟨#[]⟩ : ByteArray), .string (⟨#[]⟩ : ByteArray), .string (⟨#[]⟩ : ByteArray), .int .i64 0, .slice none 0 0, .bool false, .slice none 0 0]) ?_ 0 _ rfl; exact HPw6.out⟩
                    have HPw7 : Aside0 (w7.heap[g1]? = some (.cells #[.int .i64 x.f0, .string x.f1.f0, .string x.f1.f1.f0, .string x.f1.f1.f1, .string x.f1.f1.f2, .int .i64 x.f1.f1.f3, .slice A6 x.f1.f1.f4.length c6, .bool x.f1.f2, .slice A8 x.f2.length c8] 37 (0, 0))) := ⟨by rw [hw]; repeat (first | (with_reducible exact HOw6.out) | refine blk_far ?_ HNE.out _)⟩
                    have HDw7 := Aside0.mk (show Below wr.drew.heap.size wr.drew w7 from by rw [hw]; repeat (first | (with_reducible exact HDw6.out) | (with_reducible refine below_set ?_ HG2_.out)))
                    clear hw hcz0 hfz0 hcz1 hfz1 hcz2 hfz2 hcz3 hfz3 hcz4 hfz4 hcz5 hfz5 hcz6 hfz6 hcz7 hfz7 hcz8 hfz8
                    refine hK.out _ _ ?_
                    clear hK K
                    refine done_ (by kernel_rfl) ?_

                    have n0_ := Aside0.mk (Tx.Inv.below (Tx.Inv.is_drew HINV.out) HDw7.out)
                    have n1_ := Aside0.mk (Kd.N_below (Kd.N_drew HN.out) HDw7.out)
                    have n2_ := Aside0.mk (Kd.C_below HC6.out HDw7.out)
                    have n3_ := Aside0.mk (Kd.C_below HD6.out HDw7.out)
                    have n4_ := Aside0.mk (Kd.C_below HC8.out HDw7.out)
                    have n5_ := Aside0.mk (Kd.C_below HD8.out HDw7.out)
                    clear HINV HN HC6 HD6 HC8 HD8 HDw7 hHeld
                    have HINV := n0_
                    have HN := n1_
                    have HC6 := n2_
                    have HD6 := n3_
                    have HC8 := n4_
                    have HD8 := n5_
                    have BG1 := HPw7
                    have BG2 := HOw7
                    clear n0_ n1_ n2_ n3_ n4_ n5_ HPw7 HOw7 hx0 hx1 hx2 hx3 hx4 hx5 hx6 hx7 hx8 hy0 hy1 hy2 hy3 hy4 hy5 hy6 hy7 hy8
                    have hca0 : w7.cell? ⟨g1, 0, none⟩ = some (.int .i64 x.f0) := (blk_cell BG1.out 0).trans rfl; have hca1 : w7.cell? ⟨g1, 1, none⟩ = some (.string x.f1.f0) := (blk_cell BG1.out 1).trans rfl; have hca2 : w7.cell? ⟨g1, 2, none⟩ = some (.string x.f1.f1.f0) := (blk_cell BG1.out 2).trans rfl; have hca3 : w7.cell? ⟨g1, 3, none⟩ = some (.string x.f1.f1.f1) := (blk_cell BG1.out 3).trans rfl; have hca4 : w7.cell? ⟨g1, 4, none⟩ = some (.string x.f1.f1.f2) := (blk_cell BG1.out 4).trans rfl; have hca5 : w7.cell? ⟨g1, 5, none⟩ = some (.int .i64 x.f1.f1.f3) := (blk_cell BG1.out 5).trans rfl; have hca6 : w7.cell? ⟨g1, 6, none⟩ = some (.slice A6 x.f1.f1.f4.length c6) := (blk_cell BG1.out 6).trans rfl; have hca7 : w7.cell? ⟨g1, 7, none⟩ = some (.bool x.f1.f2) := (blk_cell BG1.out 7).trans rfl; have hca8 : w7.cell? ⟨g1, 8, none⟩ = some (.slice A8 x.f2.length c8) := (blk_cell BG1.out 8).trans rfl; have hfa0 := blk_frozen BG1.out 0; have hfa1 := blk_frozen BG1.out 1; have hfa2 := blk_frozen BG1.out 2; have hfa3 := blk_frozen BG1.out 3; have hfa4 := blk_frozen BG1.out 4; have hfa5 := blk_frozen BG1.out 5; have hfa6 := blk_frozen BG1.out 6; have hfa7 := blk_frozen BG1.out 7; have hfa8 := blk_frozen BG1.out 8
                    have hcb0 : w7.cell? ⟨g2, 0, none⟩ = some (.int .i64 x.f0) := (blk_cell BG2.out 0).trans rfl; have hcb1 : w7.cell? ⟨g2, 1, none⟩ = some (.string x.f1.f0) := (blk_cell BG2.out 1).trans rfl; have hcb2 : w7.cell? ⟨g2, 2, none⟩ = some (.string x.f1.f1.f0) := (blk_cell BG2.out 2).trans rfl; have hcb3 : w7.cell? ⟨g2, 3, none⟩ = some (.string x.f1.f1.f1) := (blk_cell BG2.out 3).trans rfl; have hcb4 : w7.cell? ⟨g2, 4, none⟩ = some (.string x.f1.f1.f2) := (blk_cell BG2.out 4).trans rfl; have hcb5 : w7.cell? ⟨g2, 5, none⟩ = some (.int .i64 x.f1.f1.f3) := (blk_cell BG2.out 5).trans rfl; have hcb6 : w7.cell? ⟨g2, 6, none⟩ = some (.slice B6 x.f1.f1.f4.length d6) := (blk_cell BG2.out 6).trans rfl; have hcb7 : w7.cell? ⟨g2, 7, none⟩ = some (.bool x.f1.f2) := (blk_cell BG2.out 7).trans rfl; have hcb8 : w7.cell? ⟨g2, 8, none⟩ = some (.slice B8 x.f2.length d8) := (blk_cell BG2.out 8).trans rfl; have hfb0 := blk_frozen BG2.out 0; have hfb1 := blk_frozen BG2.out 1; have hfb2 := blk_frozen BG2.out 2; have hfb3 := blk_frozen BG2.out 3; have hfb4 := blk_frozen BG2.out 4; have hfb5 := blk_frozen BG2.out 5; have hfb6 := blk_frozen BG2.out 6; have hfb7 := blk_frozen BG2.out 7; have hfb8 := blk_frozen BG2.out 8
                    go_upto_region 42 with (first | (go_at_call 23; refine (waybillref7_SameMsg.calls x.f1.f1.f0 x.f1.f1.f1 x.f1.f1.f2 x.f1.f1.f3 A6 c6 x.f1.f1.f4 x.f1.f1.f0 x.f1.f1.f1 x.f1.f1.f2 x.f1.f1.f3 B6 d6 x.f1.f1.f4 true _ (by (with_reducible repeat (first | apply Kd.C_alloc | apply Kd.C_drewN | apply Kd.C_drew)); exact HC6.out) HL6.out (by (with_reducible repeat (first | apply Kd.C_alloc | apply Kd.C_drewN | apply Kd.C_drew)); exact HD6.out) HM6.out (same_msg _ _ _ _ _)).mono ?_; rintro e w8 ⟨rfl, hb⟩; have n0_ := Aside0.mk (Tx.Inv.below (by (with_reducible repeat (first | apply Tx.Inv.is_alloc | apply Tx.Inv.is_drewN | apply Tx.Inv.is_drew)); exact HINV.out) hb); have n1_ := Aside0.mk (Kd.N_below (by (with_reducible repeat (first | apply Kd.N_alloc | apply Kd.N_drewN | apply Kd.N_drew)); exact HN.out) hb); have n2_ := Aside0.mk (blk_below (by (with_reducible repeat (first | refine blk_drewN ?_ _ | refine blk_drew ?_ | refine blk_alloc ?_ _)); exact BG1.out) hb); have n3_ := Aside0.mk (blk_below (by (with_reducible repeat (first | refine blk_drewN ?_ _ | refine blk_drew ?_ | refine blk_alloc ?_ _)); exact BG2.out) hb); have n4_ := Aside0.mk (Kd.C_below (by (with_reducible repeat (first | apply Kd.C_alloc | apply Kd.C_drewN | apply Kd.C_drew)); exact HC8.out) hb); have n5_ := Aside0.mk (Kd.C_below (by (with_reducible repeat (first | apply Kd.C_alloc | apply Kd.C_drewN | apply Kd.C_drew)); exact HD8.out) hb); clear HINV HN BG1 BG2 HC8 HD8; have HINV := n0_; have HN := n1_; have BG1 := n2_; have BG2 := n3_; have HC8 := n4_; have HD8 := n5_; clear n0_ n1_ n2_ n3_ n4_ n5_; clear hb))
                    clear hca0 hfa0 hcb0 hfb0 hca1 hfa1 hcb1 hfb1 hca2 hfa2 hcb2 hfb2 hca3 hfa3 hcb3 hfb3 hca4 hfa4 hcb4 hfb4 hca5 hfa5 hcb5 hfb5 hca6 hfa6 hcb6 hfb6 hca7 hfa7 hcb7 hfb7 hca8 hfa8 hcb8 hfb8
                    clear HC6 HD6 HL6 HM6
                    go_wp2
                    go_loopg [13] (x.f2.length + 1) (fun kq v13 w' => ∃ r : Int, v13 = .int .i64 r ∧ Aside0 (0 ≤ r) ∧ Aside0 (r ≤ (x.f2.length : Int)) ∧ Aside0 (kq + r.toNat = x.f2.length + 1) ∧ Aside0 (Tx.Inv w w' g on' v' (.slice (some ad2) xs'.length cu) xs' xs') ∧ Aside0 (Kd.N k37 37 w' 0 (fun _ => True) (.slice (some ad1) xs'.length cs) xs') ∧ Aside0 (w'.heap[g1]? = some (.cells #[.int .i64 x.f0, .string x.f1.f0, .string x.f1.f1.f0, .string x.f1.f1.f1, .string x.f1.f1.f2, .int .i64 x.f1.f1.f3, .slice A6 x.f1.f1.f4.length c6, .bool x.f1.f2, .slice A8 x.f2.length c8] 37 (0, 0))) ∧ Aside0 (w'.heap[g2]? = some (.cells #[.int .i64 x.f0, .string x.f1.f0, .string x.f1.f1.f0, .string x.f1.f1.f1, .string x.f1.f1.f2, .int .i64 x.f1.f1.f3, .slice B6 x.f1.f1.f4.length d6, .bool x.f1.f2, .slice B8 x.f2.length d8] 37 (0, 0))) ∧ Aside0 ((Kd.int .u64).C w' A8 x.f2.length x.f2) ∧ Aside0 ((Kd.int .u64).C w' B8 x.f2.length x.f2))
                    case atStart => exact ⟨0, rfl, ⟨by omega⟩, ⟨by omega⟩, ⟨rfl⟩, HINV, HN, BG1, BG2, HC8, HD8⟩
                    case round =>
                      clear HINV HN BG1 BG2 HC8 HD8
                      obtain ⟨r, rfl, RP, RJ, RI, HINV, HN, BG1, BG2, HC8, HD8⟩ := hrel
                      have rp := RP.out
                      have rj := RJ.out
                      by_cases f1 : r < (x.f2.length : Int)
                      · have f1b : decide (r < (x.f2.length : Int)) = true := decide_eq_true f1
                        obtain ⟨k3, rfl⟩ : ∃ k3, gk = k3 + 1 := ⟨gk - 1, by have := RI.out; omega⟩
                        obtain ⟨ta, eta, hs2⟩ := tag_cell (Kd.C_drew HC8.out) r rp f1
                        subst eta
                        obtain ⟨tb, etb, hs3⟩ := tag_cell (Kd.C_drew HD8.out) r rp f1
                        subst etb
                        have HWr := Aside0.mk (show wrap64 (r + 1) = r + 1 from by have := HXL.out; unfold wrap64; omega)
                        have hca8 : wr.cell? ⟨g1, 8, none⟩ = some (.slice (some ta) x.f2.length c8) := (blk_cell BG1.out 8).trans rfl
                        have hs0 : wr.drew.cell? ⟨g1, 8, none⟩ = some (.slice (some ta) x.f2.length c8) := (blk_cell (blk_drew BG1.out) 8).trans rfl
                        have hs1 : wr.drew.cell? ⟨g2, 8, none⟩ = some (.slice (some tb) x.f2.length d8) := (blk_cell (blk_drew BG2.out) 8).trans rfl
                        have rp0 : (0 ≤ r) = True := eq_true rp
                        have rq0 : (r < (x.f2.length : Int)) = True := eq_true f1
                        go_upto_region 45 with (fail)
                        refine start_ (n := 11) (S := fun w' => w'.cell? ⟨g1, 8, none⟩ = some (.slice (some ta) x.f2.length c8) ∧ w'.cell? ⟨g2, 8, none⟩ = some (.slice (some tb) x.f2.length d8) ∧ w'.cell? (ta.add r.toNat) = some (.int .u64 (x.f2.getD r.toNat 0)) ∧ w'.cell? (tb.add r.toNat) = some (.int .u64 (x.f2.getD r.toNat 0))) (ds := []) #[false, false, false, false, false, false, false, false, false, false, false] (by kernel_rfl) rfl rfl ⟨hs0, hs1, hs2, hs3⟩ (fun hHeld => ?_)
                        refine pure_ (i := 0) (N := some 193) (v := ?_) (a' := ?_) #[true, false, false, false, false, false, false, false, false, false, false] rfl rfl (by kernel_rfl) (fun _ _ _ h => h) (Or.inl ⟨by rfl, ?_⟩) ?_ ?_
                        rotate_left
                        · intro w'
                          go_simp
                          with_reducible rfl
                        rotate_left
                        · simp only [Act.put, List.setIfInBounds_toArray, List.set_cons_zero, List.set_cons_succ, i64_w, i32_w]
                          rfl
                        refine pure_ (i := 2) (N := some 195) (v := ?_) (a' := ?_) #[true, false, true, false, false, false, false, false, false, false, false] rfl rfl (by kernel_rfl) (fun _ _ _ h => h) (Or.inl ⟨by rfl, ?_⟩) ?_ ?_
                        rotate_left
                        · intro w'
                          go_simp
                          with_reducible rfl
                        rotate_left
                        · simp only [Act.put, List.setIfInBounds_toArray, List.set_cons_zero, List.set_cons_succ, i64_w, i32_w]
                          rfl
                        refine pure_ (i := 5) (N := some 198) (v := ?_) (a' := ?_) #[true, false, true, false, false, true, false, false, false, false, false] rfl rfl (by kernel_rfl) (fun _ _ _ h => h) (Or.inl ⟨by rfl, ?_⟩) ?_ ?_
                        rotate_left
                        · intro w'
                          go_simp
                          with_reducible rfl
                        rotate_left
                        · simp only [Act.put, List.setIfInBounds_toArray, List.set_cons_zero, List.set_cons_succ, i64_w, i32_w]
                          rfl
                        refine pure_ (i := 7) (N := some 200) (v := ?_) (a' := ?_) #[true, false, true, false, false, true, false, true, false, false, false] rfl rfl (by kernel_rfl) (fun _ _ _ h => h) (Or.inl ⟨by rfl, ?_⟩) ?_ ?_
                        rotate_left
                        · intro w'
                          go_simp
                          with_reducible rfl
                        rotate_left
                        · simp only [Act.put, List.setIfInBounds_toArray, List.set_cons_zero, List.set_cons_succ, i64_w, i32_w]
                          rfl
                        refine take_ (i := 1) (N := some 194) (v := ?_) (a' := ?_) #[true, true, true, false, false, true, false, true, false, false, false] rfl rfl (by kernel_rfl) (fun _ _ _ h => h) (Or.inl ⟨by rfl, ?_⟩) hHeld ?_ ?_
                        rotate_left
                        · rintro w' ⟨s0, s1, s2, s3⟩
                          go_simp
                          with_reducible rfl
                        rotate_left
                        · simp only [Act.put, List.setIfInBounds_toArray, List.set_cons_zero, List.set_cons_succ, i64_w, i32_w]
                          rfl
                        refine pure_ (i := 3) (N := some 196) (v := ?_) (a' := ?_) #[true, true, true, true, false, true, false, true, false, false, false] rfl rfl (by kernel_rfl) (fun _ _ _ h => h) (Or.inl ⟨by rfl, ?_⟩) ?_ ?_
                        rotate_left
                        · intro w'
                          go_simp
                          with_reducible rfl
                        rotate_left
                        · simp only [Act.put, List.setIfInBounds_toArray, List.set_cons_zero, List.set_cons_succ, i64_w, i32_w]
                          rfl
                        refine take_ (i := 4) (N := some 197) (v := ?_) (a' := ?_) #[true, true, true, true, true, true, false, true, false, false, false] rfl rfl (by kernel_rfl) (fun _ _ _ h => h) (Or.inl ⟨by rfl, ?_⟩) hHeld ?_ ?_
                        rotate_left
                        · rintro w' ⟨s0, s1, s2, s3⟩
                          go_simp
                          with_reducible rfl
                        rotate_left
                        · simp only [Act.put, List.setIfInBounds_toArray, List.set_cons_zero, List.set_cons_succ, i64_w, i32_w]
                          rfl
                        refine take_ (i := 6) (N := some 199) (v := ?_) (a' := ?_) #[true, true, true, true, true, true, true, true, false, false, false] rfl rfl (by kernel_rfl) (fun _ _ _ h => h) (Or.inl ⟨by rfl, ?_⟩) hHeld ?_ ?_
                        rotate_left
                        · rintro w' ⟨s0, s1, s2, s3⟩
                          go_simp
                          with_reducible rfl
                        rotate_left
                        · simp only [Act.put, List.setIfInBounds_toArray, List.set_cons_zero, List.set_cons_succ, i64_w, i32_w]
                          rfl
                        refine pure_ (i := 8) (N := some 201) (v := ?_) (a' := ?_) #[true, true, true, true, true, true, true, true, true, false, false] rfl rfl (by kernel_rfl) (fun _ _ _ h => h) (Or.inl ⟨by rfl, ?_⟩) ?_ ?_
                        rotate_left
                        · intro w'
                          go_simp
                          with_reducible rfl
                        rotate_left
                        · simp only [Act.put, List.setIfInBounds_toArray, List.set_cons_zero, List.set_cons_succ, i64_w, i32_w]
                          rfl
                        refine take_ (i := 9) (N := some 202) (v := ?_) (a' := ?_) #[true, true, true, true, true, true, true, true, true, true, false] rfl rfl (by kernel_rfl) (fun _ _ _ h => h) (Or.inl ⟨by rfl, ?_⟩) hHeld ?_ ?_
                        rotate_left
                        · rintro w' ⟨s0, s1, s2, s3⟩
                          go_simp
                          with_reducible rfl
                        rotate_left
                        · simp only [Act.put, List.setIfInBounds_toArray, List.set_cons_zero, List.set_cons_succ, i64_w, i32_w]
                          rfl
                        refine pure_ (i := 10) (N := some 203) (v := ?_) (a' := ?_) #[true, true, true, true, true, true, true, true, true, true, true] rfl rfl (by kernel_rfl) (fun _ _ _ h => h) (Or.inl ⟨by rfl, ?_⟩) ?_ ?_
                        rotate_left
                        · intro w'
                          go_simp
                          with_reducible rfl
                        rotate_left
                        · simp only [Act.put, List.setIfInBounds_toArray, List.set_cons_zero, List.set_cons_succ, i64_w, i32_w]
                          rfl
                        refine done_ (by kernel_rfl) ?_

                        go_wp2
                        go_roundg k3
                        case measure => omega
                        case rel => exact ⟨r + 1, by first | rfl | rw [HWr.out], ⟨by omega⟩, ⟨by omega⟩, ⟨by have := RI.out; omega⟩, ⟨Tx.Inv.is_drew HINV.out⟩, ⟨Kd.N_drew HN.out⟩, ⟨blk_drew BG1.out⟩, ⟨blk_drew BG2.out⟩, ⟨Kd.C_drew HC8.out⟩, ⟨Kd.C_drew HD8.out⟩⟩
                      · have f1b : decide (r < (x.f2.length : Int)) = false := decide_eq_false f1
                        have hca8 : wr.cell? ⟨g1, 8, none⟩ = some (.slice A8 x.f2.length c8) := (blk_cell BG1.out 8).trans rfl
                        have HWq := Aside0.mk (show wrap64 (q + 1) = q + 1 from by have := HXS.out.1; unfold wrap64; omega)
                        go_wp2
                        go_roundg k2
                        case measure => omega
                        case rel => exact ⟨q + 1, by first | rfl | rw [HWq.out], ⟨by omega⟩, ⟨by omega⟩, ⟨by have := QI.out; omega⟩, HINV, HN⟩
                  · have e1b : decide (q < (xs'.length : Int)) = false := decide_eq_false e1
                    have HWj := Aside0.mk (show wrap64 (j + 1) = j + 1 from by unfold wrap64; omega)
                    go_wp2
                    go_roundg k1
                    case measure => omega
                    case rel => exact ⟨j + 1, on', v', xs', rfl, by first | rfl | rw [HWj.out], ⟨by omega⟩, ⟨by omega⟩, ⟨by omega⟩, ⟨by have := HI0.out; omega⟩, HINV, ⟨by have := HXS.out.1; omega, HXS.out.2⟩⟩
      · have c2b : decide (j < 60) = false := decide_eq_false c2
        as_aux_lemma =>
          go_wp2
          go_ret
          exact ⟨rfl, HINV.out.bel⟩
    · have c1b : decide (j < (l.length : Int)) = false := decide_eq_false c1
      as_aux_lemma =>
        go_wp2
        go_ret
        exact ⟨rfl, HINV.out.bel⟩
end Go.Proofs.Ytlhcjgmdcnmnnaa.PT
