/-
A body comes back whole out of its frames: a head that tells its length, and as few bodies as may be, none of them empty.
-/
import Derived.Test.YtpjkaodbcclecaaPBx9
import Derived.Test.YtpjkaodbcclecaaBContLib
import Derived.Test.YtpjkaodbcclecaaBFramTxt
import Derived.Test.YtpjkaodbcclecaaBOctsMask
import Derived.Test.YtpjkaodbcclecaaBOctsAwake5
namespace Go.Proofs.Ytpjkaodbcclecaa.Pure
open Go.RowKit Go.Proofs.Ytpjkaodbcclecaa.PB Go.Proofs.YtpjkaodbcclecaaW.PrintWords Go.Proofs.YtpjkaodbcclecaaW.PrintLast Go.Proofs.YtpjkaodbcclecaaW.PrintMore
set_option linter.unusedVariables false
set_option linter.unusedSimpArgs false
theorem mode_in (a : Int) (h : (Lit.int .i64 a).wf = true) : 0 ≤ Int.tmod (wrap64 ((Int.tmod a 3) + 3)) 3 ∧ Int.tmod (wrap64 ((Int.tmod a 3) + 3)) 3 ≤ 2 := by
  have h1 := Int.tmod_lt_of_pos a (show (0 : Int) < 3 by omega)
  have h2 : -3 < Int.tmod a 3 := by
    rcases Int.le_total 0 a with h | h
    · have := Int.tmod_nonneg 3 h
      omega
    · have e : Int.tmod a 3 = -Int.tmod (-a) 3 := by rw [Int.neg_tmod]; omega
      have := Int.tmod_lt_of_pos (-a) (show (0 : Int) < 3 by omega)
      omega
  rw [w64_id _ (by omega) (by omega)]
  have h3 := Int.tmod_nonneg 3 (show 0 ≤ Int.tmod a 3 + 3 by omega)
  have h4 := Int.tmod_lt_of_pos (Int.tmod a 3 + 3) (show (0 : Int) < 3 by omega)
  omega
def np (n : Nat) : Nat := (n + 4087) / 4088
def chunks (ch : Int) : Nat → List Int → List Int
  | 0, _ => []
  | n + 1, l => frame 3 ch (l.take 4088) ++ chunks ch n (l.drop 4088)
theorem chunks_oct (ch : Int) : ∀ (n : Nat) (l : List Int), Oct l → Oct (chunks ch n l)
  | 0, _, _ => oct_nil
  | n + 1, l, h => oct_app (frame_oct _ _ (oct_take h _)) (chunks_oct ch n _ (oct_drop h _))
theorem chunks_len (ch : Int) : ∀ (n : Nat) (l : List Int), (chunks ch n l).length ≤ n * 4096
  | 0, _ => by simp [chunks]
  | n + 1, l => by
    have h := chunks_len ch n (l.drop 4088)
    have h2 := frame_len 3 ch (l.take 4088)
    have h3 : (l.take 4088).length ≤ 4088 := by rw [List.length_take]; omega
    simp only [chunks, List.length_append]
    omega
theorem ok3 (k ch : Int) (hk : k = 2 ∨ k = 3) (B : List Int) (h : 0 ≤ ch ∧ ch ≤ 65535) (hB : B.length ≤ 4088) : frameOk k ch B = true := by
  unfold frameOk kindB
  rw [decide_eq_true (by omega), decide_eq_true h.1, decide_eq_true h.2, decide_eq_true hB]
  rfl
theorem Frames_l0 (x0 : List Int) (ch : Int) (hc : 0 ≤ ch ∧ ch ≤ 65535) : ∀ (n K : Nat) (l acc : List Int), np l.length = n → n + 25 < K → acc.length + n * 4096 + 20000 < 140737488355328 →
    cont_Frames.l0 K x0 ch l true acc = some (acc ++ chunks ch n l, true) := by
  intro n
  induction n with
  | zero =>
    intro K l acc hn hK hacc
    obtain ⟨K, rfl⟩ : ∃ j, K = j + 1 := ⟨K - 1, by omega⟩
    unfold np at hn
    rw [cont_Frames.l0, if_neg (by omega), if_pos rfl, chunks, List.append_nil]
  | succ n ih =>
    intro K l acc hn hK hacc
    obtain ⟨K, rfl⟩ : ∃ j, K = j + 1 := ⟨K - 1, by omega⟩
    unfold np at hn
    obtain ⟨t, ht⟩ : ∃ t : Nat, mn (l.length : Int) 4088 = (t : Int) ∧ t = min l.length 4088 := ⟨min l.length 4088, by unfold mn; split <;> omega, rfl⟩
    have e1 : l.take t = l.take 4088 := by
      by_cases h : l.length ≤ 4088
      · rw [List.take_of_length_le (by omega), List.take_of_length_le h]
      · rw [show t = 4088 by omega]
    have e2 : l.drop t = l.drop 4088 := by
      by_cases h : l.length ≤ 4088
      · rw [List.drop_of_length_le (by omega), List.drop_of_length_le h]
      · rw [show t = 4088 by omega]
    have hB : (l.take 4088).length ≤ 4088 := by rw [List.length_take]; omega
    have hd : np (l.drop 4088).length = n := by unfold np; rw [List.length_drop]; omega
    have hfl := frame_len 3 ch (l.take 4088)
    have ha := Append_f K (by omega) acc 3 ch (l.take 4088) (by omega)
    rw [if_pos (ok3 3 ch (by omega) _ hc hB)] at ha
    have hrec := ih K (l.drop 4088) (acc ++ frame 3 ch (l.take 4088)) hd (by omega) (by rw [List.length_append]; omega)
    rw [cont_Frames.l0, if_pos (by omega), if_pos rfl, ht.1, if_pos (by omega), if_pos (by omega), Int.toNat_natCast, e1, e2, ha, Option.bind_some, chunks, ← List.append_assoc]
    exact hrec
theorem Back_step (K : Nat) (hK : 20 ≤ K) (body : List Int) (ch : Int) (F R acc B : List Int) (i m : Nat) (hi : i < 10) (hp : fram_Parse.f K F = some (3, ch, B, (m : Int), 0)) (hB : B.length ≠ 0) (hm : 0 < m) (hF : m ≤ F.length) (hR : F.drop m = R) (hacc : acc.length + B.length < 140737488355328) :
    waybilllaw5_ContBack.l0 (K + 2) body ch F acc (i : Int) = waybilllaw5_ContBack.l0 K body ch R (acc ++ B) ((i + 1 : Nat) : Int) := by
  have e1 : wrap64 ((i : Int) + 1) = ((i + 1 : Nat) : Int) := by rw [w64_id _ (by omega) (by omega)]; omega
  generalize ht : ((3 : Int), ch, B, (m : Int), (0 : Int)) = t at hp
  have t4 : t.2.2.2.2 = 0 := by rw [← ht]
  have t3 : t.2.2.2.1 = (m : Int) := by rw [← ht]
  have t2 : t.2.2.1 = B := by rw [← ht]
  have t1 : t.2.1 = ch := by rw [← ht]
  have t0 : t.1 = 3 := by rw [← ht]
  clear ht
  rw [waybilllaw5_ContBack.l0, if_pos (by omega), decide_eq_true (by omega), waybilllaw5_ContBack.j4, if_pos rfl, hp, Option.bind_some, if_pos t4, if_pos t0, if_pos t1, t2, t3, if_neg (by omega), if_neg (by omega), if_neg (by omega), if_pos hacc, if_pos (by omega), if_pos (by omega), Int.toNat_natCast, hR, e1]
theorem Back_l0 (body : List Int) (ch : Int) (hc : 0 ≤ ch ∧ ch ≤ 65535) (hb : body.length ≤ 20000) (hbo : Oct body) : ∀ (n K i : Nat) (l acc : List Int), np l.length = n → acc ++ l = body → i + n = np body.length → Oct l → 2 * n + 60 < K →
    waybilllaw5_ContBack.l0 K body ch (chunks ch n l) acc (i : Int) = some true := by
  intro n
  induction n with
  | zero =>
    intro K i l acc hn hal hi ho hK
    obtain ⟨K, rfl⟩ : ∃ j, K = j + 2 := ⟨K - 2, by omega⟩
    have hl0 : l = [] := List.eq_nil_of_length_eq_zero (by unfold np at hn; omega)
    subst hl0
    rw [List.append_nil] at hal
    subst hal
    have e : wrap64 (Int.tdiv (wrap64 ((acc.length : Int) + 4087)) 4088) = (np acc.length : Int) := by
      unfold np
      rw [w64_id ((acc.length : Int) + 4087) (by omega) (by omega), show (acc.length : Int) + 4087 = ((acc.length + 4087 : Nat) : Int) by omega, show (4088 : Int) = ((4088 : Nat) : Int) from rfl, ← Int.ofNat_tdiv, w64_id _ (by omega) (by omega)]
    have hin : (i : Int) = (np acc.length : Int) := by omega
    rw [chunks, waybilllaw5_ContBack.l0, if_neg (by simp), waybilllaw5_ContBack.j4, if_neg (by simp), if_pos rfl, e, if_pos hin, awake5_ok K (by omega)]
    rfl
  | succ n ih =>
    intro K i l acc hn hal hi ho hK
    obtain ⟨K, rfl⟩ : ∃ j, K = j + 2 := ⟨K - 2, by omega⟩
    have hn' := hn
    unfold np at hn'
    have hblen : acc.length + l.length = body.length := by rw [← hal, List.length_append]
    have hi' := hi
    unfold np at hi'
    have hB : (l.take 4088).length ≤ 4088 := by rw [List.length_take]; omega
    have hB0 : (l.take 4088).length ≠ 0 := by rw [List.length_take]; omega
    have hBl : acc.length + (l.take 4088).length < 140737488355328 := by omega
    have hd : np (l.drop 4088).length = n := by unfold np; rw [List.length_drop]; omega
    have hok := ok3 3 ch (by omega) (l.take 4088) hc hB
    have hch := chunks_len ch n (l.drop 4088)
    have hco := chunks_oct ch (n + 1) l ho
    have hfl := frame_len 3 ch (l.take 4088)
    have hFl : (chunks ch (n + 1) l).length = 8 + (l.take 4088).length + (chunks ch n (l.drop 4088)).length := by rw [chunks, List.length_append, hfl]
    have hp : fram_Parse.f K (chunks ch (n + 1) l) = some (3, ch, l.take 4088, ((8 + (l.take 4088).length : Nat) : Int), 0) := by
      rw [Parse_f K (by omega) _ hco (by omega), chunks, parse_frame _ _ _ _ hok]
      rfl
    have hdrop : (chunks ch (n + 1) l).drop (8 + (l.take 4088).length) = chunks ch n (l.drop 4088) := by rw [chunks, ← hfl, List.drop_left]
    rw [Back_step K (by omega) body ch (chunks ch (n + 1) l) (chunks ch n (l.drop 4088)) acc (l.take 4088) i (8 + (l.take 4088).length) (by omega) hp hB0 (by omega) (by omega) hdrop hBl]
    exact ih K (i + 1) (l.drop 4088) (acc ++ l.take 4088) hd (by rw [List.append_assoc, List.take_append_drop]; exact hal) (by omega) (oct_drop ho _) (by omega)
theorem Back_j1 (K : Nat) (hK : 20 ≤ K) (s : ByteArray) (body : List Int) (ch : Int) (F : List Int) (m : Nat) (md : Int) (k2 c2 : Int) (hB : List Int) (L : Int) (hL : IntKind.u64.wrap (body.length : Int) = L) (hp : cont_Parse.f (K + 1) hB = some (L, md, s, 0)) (hm : m ≤ F.length) :
    waybilllaw5_ContBack.j1 (K + 2) s body ch F (m : Int) false 0 md s k2 c2 hB = waybilllaw5_ContBack.l0 K body ch (F.drop m) [] 0 := by
  generalize ht : (L, md, s, (0 : Int)) = t at hp
  have t3 : t.2.2.2 = 0 := by rw [← ht]
  have t2 : t.2.2.1 = s := by rw [← ht]
  have t1 : t.2.1 = md := by rw [← ht]
  have t0 : t.1 = L := by rw [← ht]
  clear ht
  have hne : (s.toList != s.toList) = false := by simp
  rw [waybilllaw5_ContBack.j1, if_neg (by simp), hp, Option.bind_some, if_pos t3, hL, if_pos t0, if_pos t1, t2, hne, waybilllaw5_ContBack.j2, if_neg (by simp), if_pos (by omega), if_pos (by omega), Int.toNat_natCast]
theorem Back_j0 (K : Nat) (hK : 30 ≤ K) (a : Int) (s : ByteArray) (body : List Int) (c ch md : Int) (F : List Int) (m : Nat) (hB : List Int) (L : Int) (hch : Go.bits .and .i64 c 65535 = ch) (hmd : Int.tmod (wrap64 ((Int.tmod a 3) + 3)) 3 = md)
    (hf : cont_Frames.f (K + 3) [] ch 0 md s body = some (F, true)) (hpf : fram_Parse.f (K + 3) F = some (2, ch, hB, (m : Int), 0)) (hL : IntKind.u64.wrap (body.length : Int) = L) (hp : cont_Parse.f (K + 2) hB = some (L, md, s, 0)) (hm : m ≤ F.length) :
    waybilllaw5_ContBack.j0 (K + 4) a s body c false = waybilllaw5_ContBack.l0 (K + 1) body ch (F.drop m) [] 0 := by
  generalize ht : ((2 : Int), ch, hB, (m : Int), (0 : Int)) = t at hpf
  have t4 : t.2.2.2.2 = 0 := by rw [← ht]
  have t3 : t.2.2.2.1 = (m : Int) := by rw [← ht]
  have t2 : t.2.2.1 = hB := by rw [← ht]
  have t1 : t.2.1 = ch := by rw [← ht]
  have t0 : t.1 = 2 := by rw [← ht]
  clear ht
  generalize hq : (F, true) = q at hf
  have q1 : q.1 = F := by rw [← hq]
  have q2 : q.2 = true := by rw [← hq]
  clear hq
  rw [waybilllaw5_ContBack.j0, if_neg (by simp), hch, hmd, hf, Option.bind_some, if_pos q2, q1, hpf, Option.bind_some, if_pos t4, if_pos t0, if_pos t1, t3, if_neg (by omega), decide_eq_false (by omega), t2]
  exact Back_j1 (K + 1) (by omega) s body ch F m md _ _ hB L hL hp hm
theorem ContBack : waybilllaw5_ContBack.Pure := by
  intro a s body c ha hs hb1 hb2 hb3 hc
  have hbo := oct_wf hb3
  have haw : ∀ x, waybilllaw5_ContBack.j0 404 a s x c true = some true := by
    intro x
    rw [waybilllaw5_ContBack.j0, if_pos rfl, awake5_ok 403 (by omega)]
    rfl
  refine ⟨404, ?_⟩
  unfold waybilllaw5_ContBack.f
  by_cases h1 : (s.size : Int) > 255
  · rw [if_pos h1, haw]
  rw [if_neg h1]
  by_cases h2 : (body.length : Int) > 20000
  · rw [decide_eq_true h2, haw]
  rw [decide_eq_false h2]
  have hmd := mode_in a ha
  have hch := and16 c
  obtain ⟨md, hmd0⟩ : ∃ md, Int.tmod (wrap64 ((Int.tmod a 3) + 3)) 3 = md := ⟨_, rfl⟩
  obtain ⟨ch, hch0⟩ : ∃ ch, Go.bits .and .i64 c 65535 = ch := ⟨_, rfl⟩
  rw [hmd0] at hmd
  rw [hch0] at hch
  have hmdA := Aside0.mk hmd0
  have hchA := Aside0.mk hch0
  clear hmd0 hch0 hb1 hb2
  have hL : IntKind.u64.wrap (body.length : Int) = (body.length : Int) := u64_id _ (by omega) (by omega)
  obtain ⟨hB, hBd⟩ : ∃ hB, hB = head (body.length : Int) md s := ⟨_, rfl⟩
  have hBl : hB.length ≤ 300 := by rw [hBd, head_len]; (repeat' split) <;> omega
  have hBo : Oct hB := by rw [hBd]; exact head_oct _ _ _
  have happ : cont_Append.f 403 [] (body.length : Int) md s = some (hB, true) := by rw [Append_head 403 (by omega) [] _ md s hmd.1 hmd.2 (by omega) (by simp), hBd, List.nil_append]
  have hpar : cont_Parse.f 402 hB = some ((body.length : Int), md, s, 0) := by rw [hBd]; exact Parse_head 402 (by omega) _ md s (by omega) (by omega) hmd.1 hmd.2 (by omega)
  clear hBd
  have hcc : 0 ≤ ch ∧ ch ≤ 65535 := by omega
  have hok := ok3 2 ch (by omega) hB hcc (by omega)
  have hfa := Append_f 403 (by omega) [] 2 ch hB (by simp)
  rw [if_pos hok, List.nil_append] at hfa
  have hfl := frame_len 2 ch hB
  have hfo := frame_oct 2 ch hBo
  obtain ⟨n, hn⟩ : ∃ n, np body.length = n := ⟨_, rfl⟩
  have hn5 : n ≤ 5 := by rw [← hn]; unfold np; omega
  have hl0 := Frames_l0 [] ch hcc n 403 body (frame 2 ch hB) hn (by omega) (by omega)
  have hco := chunks_oct ch n body hbo
  have hcl := chunks_len ch n body
  have hpF : fram_Parse.f 403 (frame 2 ch hB ++ chunks ch n body) = some (2, ch, hB, ((8 + hB.length : Nat) : Int), 0) := by
    rw [Parse_f 403 (by omega) _ (oct_app hfo hco) (by rw [List.length_append]; omega), parse_frame _ _ _ _ hok]
    rfl
  have hdrop : (frame 2 ch hB ++ chunks ch n body).drop (8 + hB.length) = chunks ch n body := by rw [← hfl, List.drop_left]
  have hFl : 8 + hB.length ≤ (frame 2 ch hB ++ chunks ch n body).length := by rw [List.length_append]; omega
  have hfr : cont_Frames.f 403 [] ch 0 md s body = some (frame 2 ch hB ++ chunks ch n body, true) := by
    unfold cont_Frames.f
    rw [hL, happ, Option.bind_some, if_pos (show (hB, true).2 = true from rfl)]
    show ((fram_Append.f 403 [] 2 ch hB).bind _) = _
    rw [hfa, Option.bind_some]
    exact hl0
  rw [Back_j0 400 (by omega) a s body c ch md (frame 2 ch hB ++ chunks ch n body) (8 + hB.length) hB (body.length : Int) hchA.out hmdA.out hfr hpF hL hpar hFl, hdrop]
  exact Back_l0 body ch hcc (by omega) hbo n 401 0 body [] hn (List.nil_append _) (by rw [hn]; omega) hbo (by omega)
end Go.Proofs.Ytpjkaodbcclecaa.Pure
