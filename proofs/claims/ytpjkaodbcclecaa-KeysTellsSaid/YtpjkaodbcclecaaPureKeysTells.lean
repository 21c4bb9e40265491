/-
Any key has the text that the document says, or none; any text is a key, or none; messages likewise: for any key, any text, any place, any byte, any cut, any message, any octets.
Conditions: none but those of the statement.
-/
import Derived.Test.YtpjkaodbcclecaaPKStKeysTells
import Derived.Test.YtpjkaodbcclecaaBaseKeysTells
namespace Go.Proofs.Ytpjkaodbcclecaa.Pure
open Go.RowKit Go.Proofs.Ytpjkaodbcclecaa.PK Go.Proofs.YtpjkaodbcclecaaW.PrintWords Go.Proofs.YtpjkaodbcclecaaW.PrintLast Go.Proofs.YtpjkaodbcclecaaW.PrintMore
set_option linter.unusedVariables false
set_option linter.unusedSimpArgs false
theorem key_len {kd : Int} {a b c : ByteArray} {id : Int} (hg : goodK kd a b c id = true) : (strOfNums (keyOct kd a b c id)).size ≤ 400 := by
  obtain ⟨_, ha, hb, hc, _⟩ := good_sizes hg
  have la : (part (wA kd) a).length ≤ 31 := by rw [part_len]; split <;> omega
  have lb : (part (wB kd) b).length ≤ 31 := by rw [part_len]; split <;> omega
  have lc : (part (wB kd) c).length ≤ 61 := by rw [part_len]; split <;> omega
  have li : (idO (wI kd) id).length ≤ 8 := by rw [idO_len]; split <;> omega
  rw [size_str]
  unfold keyOct
  rw [List.length_append, List.length_append, List.length_append, List.length_append, List.length_singleton]
  omega
theorem cut_in (cut : Int) (n : Nat) (hn : 1 ≤ n) : ∃ c : Int, Int.tmod (Go.bits .and .i64 cut 65535) (n : Int) = c ∧ 0 ≤ c ∧ c < (n : Int) := by
  have hm := and16 cut
  have ht := tmod_in (Go.bits .and .i64 cut 65535) (n : Int) hm.1 (by omega)
  exact ⟨_, rfl, ht.1, ht.2⟩
theorem w_next (q : Nat) (h : q < 1000000000) : wrap64 ((q : Int) + 1) = ((q + 1 : Nat) : Int) := by rw [w64_id _ (by omega) (by omega)]; omega
theorem pick_size (a b c d : ByteArray) (ha : a.size ≤ 1000) (hb : b.size ≤ 1000) (hc : c.size ≤ 1000) (hd : d.size ≤ 1000) (q : Nat) : (rdOf ByteArray.empty [a, b, c, d] (q : Int)).size ≤ 1000 := by
  unfold rdOf
  rw [Int.toNat_natCast]
  match q with
  | 0 => exact ha
  | 1 => exact hb
  | 2 => exact hc
  | 3 => exact hd
  | n + 4 => show 0 ≤ 1000; omega
theorem K_step (x1 t : ByteArray) (x20 x6 : List Int) (x2 x3 x4 i : Int) (h1 : x1.size ≤ 400) (ht : t.size ≤ 400) (h20 : x20.length ≤ 400) (q : Nat) (hq : q < 4) (k : Nat) (hk : 60 ≤ k) (e0 : Int) (e1 e2 e3 : ByteArray) (e4 : Int) (m0 m1 m2 : ByteArray) (m3 : Int) (m4 : List Int) :
    waybilllaw12_KeysTells.l1 (k + 1) x1 x2 x3 x4 x6 i t x20 (q : Int) e0 e1 e2 e3 e4 m0 m1 m2 m3 m4 = waybilllaw12_KeysTells.l1 k x1 x2 x3 x4 x6 i t x20 ((q + 1 : Nat) : Int) e0 e1 e2 e3 e4 m0 m1 m2 m3 m4 := by
  obtain ⟨z, hz, hz0, hz1⟩ := cut_in x4 (t.size + 1) (by omega)
  have hzA := Aside0.mk hz
  clear hz
  have hwl : wrap64 ((t.size : Int) + 1) = ((t.size + 1 : Nat) : Int) := w_next _ (by omega)
  have hwlA := Aside0.mk hwl
  clear hwl
  have hext : (t.extract 0 (z : Int).toNat).size ≤ 1000 := by rw [ByteArray.size_extract]; omega
  have happ : (t ++ x1).size ≤ 1000 := by rw [ByteArray.size_append]; omega
  have hstr : (strOfNums x20).size ≤ 1000 := by rw [size_str]; omega
  obtain ⟨y, hy⟩ : ∃ y, rdOf ByteArray.empty [x1, strOfNums x20, t.extract 0 (z : Int).toNat, t ++ x1] (q : Int) = y := ⟨_, rfl⟩
  have hys : y.size ≤ 1000 := by rw [← hy]; exact pick_size _ _ _ _ (by omega) hstr hext happ q
  obtain ⟨r, r1, r2⟩ := readers y hys k hk
  have q0 : (q : Int) < 4 := by omega
  have q1 : ¬ ((t.size + 1 : Nat) : Int) = 0 := by omega
  have q3 : z ≤ (t.size : Int) := by omega
  have q4 : (0 : Int) ≤ (q : Int) := by omega
  have q5 : t.size + x1.size ≤ 9223372036854775807 := by omega
  have q6 : (q : Int) < ((([x1, strOfNums x20, t.extract 0 (z : Int).toNat, t ++ x1] : List ByteArray).length : Nat) : Int) := by show (q : Int) < ((4 : Nat) : Int); omega
  have en := w_next q (by omega)
  rw [waybilllaw12_KeysTells.l1, if_pos q0, hwlA.out, if_neg q1, hzA.out, if_pos hz0, if_pos q3, if_pos q5, Option.bind_some, if_pos q4, if_pos q6, hy, r1, Option.bind_some, r2, Option.bind_some, if_neg (by simp), if_neg (by simp), en]
theorem K_all (x1 t : ByteArray) (x20 x6 : List Int) (x2 x3 x4 i : Int) (h1 : x1.size ≤ 400) (ht : t.size ≤ 400) (h20 : x20.length ≤ 400) (k : Nat) (hk : 60 ≤ k) (e0 : Int) (e1 e2 e3 : ByteArray) (e4 : Int) (m0 m1 m2 : ByteArray) (m3 : Int) (m4 : List Int) :
    waybilllaw12_KeysTells.l1 (k + 1 + 1 + 1 + 1) x1 x2 x3 x4 x6 i t x20 0 e0 e1 e2 e3 e4 m0 m1 m2 m3 m4 = waybilllaw12_KeysTells.l1 k x1 x2 x3 x4 x6 i t x20 4 e0 e1 e2 e3 e4 m0 m1 m2 m3 m4 := by
  have s0 := K_step x1 t x20 x6 x2 x3 x4 i h1 ht h20 0 (by omega) (k + 1 + 1 + 1) (by omega) e0 e1 e2 e3 e4 m0 m1 m2 m3 m4
  have s1 := K_step x1 t x20 x6 x2 x3 x4 i h1 ht h20 1 (by omega) (k + 1 + 1) (by omega) e0 e1 e2 e3 e4 m0 m1 m2 m3 m4
  have s2 := K_step x1 t x20 x6 x2 x3 x4 i h1 ht h20 2 (by omega) (k + 1) (by omega) e0 e1 e2 e3 e4 m0 m1 m2 m3 m4
  have s3 := K_step x1 t x20 x6 x2 x3 x4 i h1 ht h20 3 (by omega) k hk e0 e1 e2 e3 e4 m0 m1 m2 m3 m4
  exact s0.trans (s1.trans (s2.trans s3))
theorem K_j2 (x1 t : ByteArray) (x6 : List Int) (x2 x3 x4 i : Int) (ht : t.size ≤ 400) (k : Nat) (e0 : Int) (e1 e2 e3 : ByteArray) (e4 : Int) (m0 m1 m2 : ByteArray) (m3 : Int) (m4 : List Int) :
    ∃ x20 : List Int, x20.length ≤ 400 ∧ waybilllaw12_KeysTells.j2 (k + 1 + 1) x1 x2 x3 x4 x6 i t false e0 e1 e2 e3 e4 m0 m1 m2 m3 m4 = waybilllaw12_KeysTells.l1 k x1 x2 x3 x4 x6 i t x20 0 e0 e1 e2 e3 e4 m0 m1 m2 m3 m4 := by
  have hb := bytesOf_len t
  rw [waybilllaw12_KeysTells.j2, if_neg (by decide), if_pos (by omega), Option.bind_some]
  generalize bytesOf t = y at *
  by_cases hp : (y.length : Int) > 0
  · obtain ⟨z, hz, hz0, hz1⟩ := cut_in x2 y.length (by omega)
    refine ⟨y.set (z : Int).toNat (Go.bits .xor .u8 (rd y z) x3), by rw [List.length_set]; omega, ?_⟩
    rw [if_pos hp, if_neg (by omega), hz, if_pos hz0, if_pos hz1, waybilllaw12_KeysTells.j3]
  · refine ⟨y, by omega, ?_⟩
    rw [if_neg hp, waybilllaw12_KeysTells.j3]
theorem K_round (x1 : ByteArray) (x6 : List Int) (x2 x3 x4 : Int) (i : Nat) (hi : i < 2) (h1 : x1.size ≤ 400) (k : Nat) (hk : 60 ≤ k) (e0 : Int) (e1 e2 e3 : ByteArray) (e4 : Int) (hid : 0 ≤ e4 ∧ e4 < 18446744073709551616) (m0 m1 m2 : ByteArray) (m3 : Int) (m4 : List Int) :
    ∃ kd a b c id, (0 ≤ id ∧ id < 18446744073709551616) ∧ waybilllaw12_KeysTells.l0 (k + 8) x1 x2 x3 x4 x6 (i : Int) e0 e1 e2 e3 e4 m0 m1 m2 m3 m4 = waybilllaw12_KeysTells.l0 k x1 x2 x3 x4 x6 ((i + 1 : Nat) : Int) kd a b c id m0 m1 m2 m3 m4 := by
  obtain ⟨kd, a, b, c, id, htm, _, hid0, hid1⟩ := tame_f k (by omega) e0 e1 e2 e3 e4 hid.2
  obtain ⟨t, bb, hT⟩ : ∃ (t : ByteArray) (bb : Bool), (if goodK e0 e1 e2 e3 e4 = true then (strOfNums (keyOct e0 e1 e2 e3 e4), true) else ((⟨#[]⟩ : ByteArray), false)) = (t, bb) := ⟨_, _, rfl⟩
  have ht : t.size ≤ 400 := by
    by_cases hg : goodK e0 e1 e2 e3 e4 = true
    · rw [if_pos hg] at hT
      injection hT with q1 _
      rw [← q1]; exact key_len hg
    · rw [if_neg hg] at hT
      injection hT with q1 _
      rw [← q1]; show 0 ≤ 400; omega
  obtain ⟨x20, h20, ej⟩ := K_j2 x1 t x6 x2 x3 x4 (i : Int) ht (k + 5) e0 e1 e2 e3 e4 m0 m1 m2 m3 m4
  have ea := K_all x1 t x20 x6 x2 x3 x4 (i : Int) h1 ht h20 (k + 1) (by omega) e0 e1 e2 e3 e4 m0 m1 m2 m3 m4
  have h2 : (i : Int) < 2 := by omega
  have en := w_next i (by omega)
  refine ⟨kd, a, b, c, id, ⟨hid0, hid1⟩, ?_⟩
  rw [show k + 8 = (k + 5 + 1 + 1) + 1 by omega, waybilllaw12_KeysTells.l0, if_pos h2, Text_f _ (by omega), Option.bind_some, rKey_f _ (by omega) _ _ _ _ _ hid.1, Option.bind_some, hT]
  dsimp only
  rw [if_pos rfl, show (bb != bb) = false by cases bb <;> rfl, ej]
  refine ea.trans ?_
  rw [waybilllaw12_KeysTells.l1, if_neg (by decide), htm, Option.bind_some, en]
theorem pick_oct (a b : List Int) (ha : Oct a ∧ a.length ≤ 20000) (hb : Oct b ∧ b.length ≤ 20000) (i : Nat) : Oct (([a, b] : List (List Int)).getD i []) ∧ (([a, b] : List (List Int)).getD i []).length ≤ 20000 := by
  match i with
  | 0 => exact ha
  | 1 => exact hb
  | n + 2 => exact ⟨oct_nil, by show 0 ≤ 20000; omega⟩
theorem M_step (x4 : Int) (x6 w : List Int) (h6 : Oct x6 ∧ x6.length ≤ 20000) (hw : Oct w ∧ w.length ≤ 20000) (q : Nat) (hq : q < 2) (k : Nat) (hk : 60 ≤ k) :
    waybilllaw12_KeysTells.l2 (k + 1) x4 x6 w (q : Int) = waybilllaw12_KeysTells.l2 k x4 x6 w ((q + 1 : Nat) : Int) := by
  obtain ⟨z, hz, hz0, hz1⟩ := cut_in x4 (w.length + 1) (by omega)
  have hzA := Aside0.mk hz
  clear hz
  have hwl : wrap64 ((w.length : Int) + 1) = ((w.length + 1 : Nat) : Int) := w_next _ (by omega)
  have hwlA := Aside0.mk hwl
  clear hwl
  obtain ⟨y, hy⟩ : ∃ y, ([x6, w.take (z : Int).toNat] : List (List Int)).getD (q : Int).toNat [] = y := ⟨_, rfl⟩
  have hoy : Oct y ∧ y.length ≤ 20000 := by
    rw [← hy]
    exact pick_oct _ _ h6 ⟨oct_take hw.1 _, by rw [List.length_take]; omega⟩ _
  have q0 : (q : Int) < 2 := by omega
  have q1 : ¬ ((w.length + 1 : Nat) : Int) = 0 := by omega
  have q3 : z ≤ (w.length : Int) := by omega
  have q4 : (0 : Int) ≤ (q : Int) := by omega
  have en := w_next q (by omega)
  rw [waybilllaw12_KeysTells.l2, if_pos q0, hwlA.out, if_neg q1, hzA.out, if_pos hz0, if_pos q3, if_pos q4, Option.bind_some, hy, ParseMsg_f k (by omega) y hoy.1 hoy.2, Option.bind_some, MsgOf_f k (by omega) y hoy.1 hoy.2, Option.bind_some, if_neg (by simp), same_self, Option.bind_some, if_pos rfl, en]
theorem M_all (x4 : Int) (x6 w : List Int) (h6 : Oct x6 ∧ x6.length ≤ 20000) (hw : Oct w ∧ w.length ≤ 20000) (k : Nat) (hk : 60 ≤ k) : waybilllaw12_KeysTells.l2 (k + 1 + 1 + 1) x4 x6 w 0 = some true := by
  have s0 := M_step x4 x6 w h6 hw 0 (by omega) (k + 1 + 1) (by omega)
  have s1 := M_step x4 x6 w h6 hw 1 (by omega) (k + 1) (by omega)
  refine s0.trans (s1.trans ?_)
  rw [waybilllaw12_KeysTells.l2, if_neg (by decide), awake12_ok k (by omega), Option.bind_some]
theorem msg_ok (a b c : ByteArray) (m : Int) (l : List Int) (ho : Oct l) : Oct (if goodM a b c m l = true then (msgOct a b c m l, true) else (([] : List Int), false)).1 ∧ (if goodM a b c m l = true then (msgOct a b c m l, true) else (([] : List Int), false)).1.length ≤ 20000 := by
  by_cases hg : goodM a b c m l = true
  · rw [if_pos hg]
    obtain ⟨h1, h2, h3, h4, h5, h6⟩ := of_decide_eq_true hg
    have pa : (part true a).length = 1 + a.size := by rw [part_len, if_pos rfl]
    have pb : (part true b).length = 1 + b.size := by rw [part_len, if_pos rfl]
    have pc : (part true c).length = 1 + c.size := by rw [part_len, if_pos rfl]
    refine ⟨oct_app (part_oct _ _) (oct_app (part_oct _ _) (oct_app (part_oct _ _) (oct_app (be_oct _ _) ho))), ?_⟩
    show (msgOct a b c m l).length ≤ 20000
    unfold msgOct
    rw [List.length_append, List.length_append, List.length_append, List.length_append, be_len]
    omega
  · rw [if_neg hg]; exact ⟨oct_nil, by show 0 ≤ 20000; omega⟩
theorem K_end (x1 : ByteArray) (x6 : List Int) (x2 x3 x4 : Int) (h6 : Oct x6 ∧ x6.length ≤ 20000) (e0 : Int) (e1 e2 e3 : ByteArray) (e4 : Int) (m0 m1 m2 : ByteArray) (m3 : Int) (m4 : List Int) (hm : Oct m4) (k : Nat) (hk : 100 ≤ k) :
    waybilllaw12_KeysTells.l0 (k + 5) x1 x2 x3 x4 x6 2 e0 e1 e2 e3 e4 m0 m1 m2 m3 m4 = some true := by
  have hok := msg_ok m0 m1 m2 m3 m4 hm
  rw [show k + 5 = (k + 1 + 1 + 1) + 1 + 1 by omega, waybilllaw12_KeysTells.l0, if_neg (by decide), Msg_f _ (by omega), Option.bind_some, rMsg_f _ (by omega), Option.bind_some]
  generalize (if goodM m0 m1 m2 m3 m4 = true then (msgOct m0 m1 m2 m3 m4, true) else (([] : List Int), false)) = W at *
  rw [show (W.2 != W.2) = false by cases W.2 <;> rfl, if_neg (by decide), show ((strOfNums W.1).toList != (strOfNums W.1).toList) = false by simp, waybilllaw12_KeysTells.j5, if_neg (by decide)]
  exact M_all x4 x6 W.1 h6 hok k (by omega)
theorem KeysTells : waybilllaw12_KeysTells.Pure := by
  intro x0 a1 a2 a3 a4 x5 l6 h0 _ _ _ _ h5 hl
  have hid := u64_wf h0.2.2.2.2
  have ho6 := oct_wf hl.2
  have hom := oct_wf h5.2.2.2.2.2
  refine ⟨1001, ?_⟩
  have haw : waybilllaw12_KeysTells.j0 1001 a1 a2 a3 a4 l6 true x0.f0 x0.f1 x0.f2 x0.f3 x0.f4 x5.f0 x5.f1 x5.f2 x5.f3 x5.f4 = some true := by
    rw [show (1001 : Nat) = 1000 + 1 from rfl, waybilllaw12_KeysTells.j0, if_pos rfl, awake12_ok 1000 (by omega), Option.bind_some]
  unfold waybilllaw12_KeysTells.f
  by_cases g1 : (a1.size : Int) > 400
  · rw [if_pos g1]; exact haw
  rw [if_neg g1]
  split
  · exact haw
  split
  · exact haw
  split
  · exact haw
  by_cases g2 : (l6.length : Int) > 400
  · rw [decide_eq_true g2]; exact haw
  rw [decide_eq_false g2]
  obtain ⟨kd, a, b, c, id, hid1, r1⟩ := K_round a1 l6 a2 a3 a4 0 (by omega) (by omega) 992 (by omega) x0.f0 x0.f1 x0.f2 x0.f3 x0.f4 hid x5.f0 x5.f1 x5.f2 x5.f3 x5.f4
  obtain ⟨kd', a', b', c', id', hid2, r2⟩ := K_round a1 l6 a2 a3 a4 1 (by omega) (by omega) 984 (by omega) kd a b c id hid1 x5.f0 x5.f1 x5.f2 x5.f3 x5.f4
  rw [show (1001 : Nat) = 992 + 8 + 1 from rfl, waybilllaw12_KeysTells.j0, if_neg (by decide)]
  refine r1.trans ?_
  rw [show (992 : Nat) = 984 + 8 from rfl]
  refine r2.trans ?_
  rw [show (984 : Nat) = 979 + 5 from rfl]
  exact K_end a1 l6 a2 a3 a4 ⟨ho6, by omega⟩ kd' a' b' c' id' _ _ _ _ _ hom 979 (by omega)
end Go.Proofs.Ytpjkaodbcclecaa.Pure
