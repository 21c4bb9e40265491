/-
What is written behind other octets leaves these, and is read as it was: for any octets ahead, any number of any size, any two texts.
-/
import Derived.Test.YtlhcjgmdcnmnnaaB1OctsTxt
import Derived.Test.YtlhcjgmdcnmnnaaB1OctsAwake
import Derived.Test.YtlhcjgmdcnmnnaaPB1x5
namespace Go.Proofs.Ytlhcjgmdcnmnnaa.Pure
open Go.RowKit Go.Proofs.Ytlhcjgmdcnmnnaa.PB1 Go.Proofs.YtlhcjgmdcnmnnaaW.PrintWords Go.Proofs.YtlhcjgmdcnmnnaaW.PrintLast Go.Proofs.YtlhcjgmdcnmnnaaW.PrintMore
set_option linter.unusedVariables false
set_option linter.unusedSimpArgs false
theorem back_low (n : Nat) (hn : n < 8) (a : Int) (h : 0 ≤ a ∧ a < 18446744073709551616) :
    Go.bits .and .u64 a (IntKind.u64.wrap ((shl .u64 1 (IntKind.u64.wrap (wrap64 (8 * (n : Int))))) - 1)) = a % 256 ^ n := by
  have e1 : wrap64 (8 * (n : Int)) = 8 * n := w64_id _ (by omega) (by omega)
  have e2 : IntKind.u64.wrap (8 * (n : Int)) = 8 * n := u64_id _ (by omega) (by omega)
  have hp := p256_lt n hn
  have hq := p256_pos n
  have e3 : shl .u64 1 (8 * (n : Int)) = 256 ^ n := by
    unfold shl
    rw [show min (8 * (n : Int)).toNat IntKind.u64.bits = 8 * n by simp only [IntKind.bits]; omega, Int.one_mul, Int.pow_mul]
    exact u64_id _ (by show (0 : Int) ≤ 256 ^ n; omega) (by show (256 : Int) ^ n < _; omega)
  rw [e1, e2, e3, u64_id _ (by omega) (by omega)]
  exact mask n hn a h.1 h.2
/-- The end: all was read, and nothing is left. -/
theorem back_end (k : Nat) (hk : 40 ≤ k) : waybilllaw1_OctsBack.j3 k false [] false = some true := by
  obtain ⟨k, rfl⟩ : ∃ m, k = m + 1 := ⟨k - 1, by omega⟩
  simp only [waybilllaw1_OctsBack.j3]
  unfold octs_In_Ok.f octs_In_Left.f octs_In_Rest.f
  have h1 : wd 1 = 1 := by decide
  rw [if_neg (by decide)]
  simp only [Option.bind_some]
  rw [if_pos (by decide)]
  simp only [List.length_nil]
  rw [if_pos (by decide), u64_id _ (by omega) (by omega), take_f [] _ (by omega) (by simp), if_neg (by simp)]
  simp only [Option.bind_some]
  rw [if_pos (by decide)]
  have := In_Int k [] 1 (by omega) oct_nil (by simp)
  rw [h1, if_pos (by simp)] at this
  show (octs_In_Int.f k [] false 1).bind _ = _
  rw [this]
  simp only [Option.bind_some]
  rw [if_pos trivial, if_neg (by decide), awake1_ok _ (by omega)]
  rfl
theorem back_read (k : Nat) (hk : 50 ≤ k) (n : Int) (s : ByteArray) (t : List Int) (ht : t.length ≤ 300) (hot : Oct t) (v : Int) :
    waybilllaw1_OctsBack.j2 k n s t (decide (s.size ≤ 255)) (v % 256 ^ wd n) (be (wd n) v ++ ((if s.size ≤ 255 then be 1 (s.size : Int) ++ bytesOf s else []) ++ (be 4 (t.length : Int) ++ t))) false = some true := by
  obtain ⟨k, rfl⟩ : ∃ m, k = m + 1 := ⟨k - 1, by omega⟩
  have h4 := be_len 4 (t.length : Int)
  have ho4 : Oct (be 4 (t.length : Int) ++ t) := oct_app (be_oct _ _) hot
  have hsz : ((if s.size ≤ 255 then be 1 (s.size : Int) ++ bytesOf s else []) ++ (be 4 (t.length : Int) ++ t)).length ≤ 600 := by
    have h1 := be_len 1 (s.size : Int)
    have h2 := bytesOf_len s
    split <;> simp [h1, h2, h4] <;> omega
  have ho : Oct ((if s.size ≤ 255 then be 1 (s.size : Int) ++ bytesOf s else []) ++ (be 4 (t.length : Int) ++ t)) := by
    refine oct_app ?_ ho4
    split
    · exact oct_app (be_oct _ _) (oct_bytesOf s)
    · exact oct_nil
  simp only [waybilllaw1_OctsBack.j2]
  rw [read_be k (wd n) n rfl v _ (by omega) ho (by omega)]
  simp only [Option.bind_some]
  rw [if_pos trivial]
  have hl : octs_In_Long.f k (be 4 (t.length : Int) ++ t) false = some (t, [], false) := by
    have := read_long k t [] (by omega) (by omega) hot oct_nil (by simp; omega)
    simpa using this
  by_cases hs : s.size ≤ 255
  · rw [if_pos (by simp [hs]), if_pos hs, List.append_assoc, read_short k s _ hs (by omega) ho4 (by simp [h4]; omega)]
    simp only [Option.bind_some]
    rw [if_pos trivial, hl]
    simp only [Option.bind_some]
    rw [same_self]
    exact back_end k (by omega)
  · rw [if_neg (by simp [hs]), if_neg hs, List.nil_append, hl]
    simp only [Option.bind_some]
    rw [same_self]
    exact back_end k (by omega)
theorem OctsBack : waybilllaw1_OctsBack.Pure := by
  intro b n v s t hb0 hb1 hbw hn hv hs ht0 ht1 htw
  have hv : 0 ≤ v ∧ v < 18446744073709551616 := by
    simp [Lit.wf, IntKind.min, IntKind.max, IntKind.signed, IntKind.bits] at hv
    omega
  have hob := oct_wf hbw
  have hot := oct_wf htw
  refine ⟨70, ?_⟩
  unfold waybilllaw1_OctsBack.f
  have haw : waybilllaw1_OctsBack.j0 70 b n v s t true = some true := by
    simp only [waybilllaw1_OctsBack.j0]
    rw [if_pos trivial, awake1_ok _ (by omega)]
    rfl
  by_cases h1 : (b.length : Int) > 300
  · rw [if_pos h1]; exact haw
  rw [if_neg h1]
  by_cases h2 : (t.length : Int) > 300
  · rw [decide_eq_true h2]; exact haw
  rw [decide_eq_false h2]
  have hw8 := wd_le n
  have hw1 := wd_ge n
  have hbe := be_len (wd n) v
  have hx : (b ++ be (wd n) v).length = b.length + wd n := by simp [hbe]
  have l1 := be_len 1 (s.size : Int)
  have l2 := bytesOf_len s
  have l4 := be_len 4 (t.length : Int)
  simp only [waybilllaw1_OctsBack.j0]
  rw [if_neg (by decide), Int_f _ (by omega) b n v (by omega)]
  simp only [Option.bind_some]
  rw [Short_f _ _ s (by omega) (by omega), wd_cast]
  rw [hx, w64_id ((b.length : Int) + (wd n : Int)) (by omega) (by omega)]
  have key : ∀ (y : List Int), y.length ≤ b.length + wd n + 300 → (decide (s.size ≤ 255) = false → y.length = b.length + wd n) → y = b ++ (be (wd n) v ++ (if s.size ≤ 255 then be 1 (s.size : Int) ++ bytesOf s else [])) →
      ((octs_Long.f 69 y t).bind fun t249 => (if ((b.length + wd n : Nat) : Int) = ((b.length : Int) + (wd n : Int)) then (if (decide (s.size ≤ 255) != (decide ((s.size : Int) ≤ 255))) = true then (waybilllaw1_OctsBack.j1 69 b n v s t (wd n : Int) (decide (s.size ≤ 255)) t249 true) else (if (t249.length : Int) = (wrap64 ((wrap64 ((y.length : Int) + 4)) + (t.length : Int))) then (if decide (s.size ≤ 255) = true then (waybilllaw1_OctsBack.j1 69 b n v s t (wd n : Int) (decide (s.size ≤ 255)) t249 false) else (waybilllaw1_OctsBack.j1 69 b n v s t (wd n : Int) (decide (s.size ≤ 255)) t249 ((y.length : Int) != ((b.length + wd n : Nat) : Int)))) else (waybilllaw1_OctsBack.j1 69 b n v s t (wd n : Int) (decide (s.size ≤ 255)) t249 true))) else (waybilllaw1_OctsBack.j1 69 b n v s t (wd n : Int) (decide (s.size ≤ 255)) t249 true))) = some true := by
    intro y hy hyf hye
    rw [Long_f _ y t (by omega) (by omega)]
    simp only [Option.bind_some]
    have hz : (y ++ (be 4 (t.length : Int) ++ t)).length = y.length + 4 + t.length := by simp [l4]; omega
    have hd : decide ((s.size : Int) ≤ 255) = decide (s.size ≤ 255) := by
      rw [decide_eq_decide]; omega
    rw [hd, if_pos (by omega), if_neg (by simp), hz, w64_id ((y.length : Int) + 4) (by omega) (by omega), w64_id _ (by omega) (by omega), if_pos (by omega)]
    have hj : waybilllaw1_OctsBack.j1 69 b n v s t (wd n : Int) (decide (s.size ≤ 255)) (y ++ (be 4 (t.length : Int) ++ t)) false = some true := by
      simp only [waybilllaw1_OctsBack.j1]
      rw [if_neg (by decide), if_pos (by omega), if_pos (by have h9 : b.length ≤ y.length := by rw [hye]; simp
                                                            rw [hz]; omega)]
      unfold octs_From.f
      simp only [Option.bind_some, Int.toNat_natCast]
      have hyz : y ++ (be 4 (t.length : Int) ++ t) = b ++ (be (wd n) v ++ ((if s.size ≤ 255 then be 1 (s.size : Int) ++ bytesOf s else []) ++ (be 4 (t.length : Int) ++ t))) := by
        rw [hye]; simp only [List.append_assoc]
      rw [hyz, List.take_left' rfl, List.drop_left' rfl, same_self]
      simp only [Option.bind_some]
      rw [if_pos trivial]
      by_cases h8 : wd n < 8
      · rw [if_pos (by omega), if_pos (by rw [w64_id _ (by omega) (by omega), u64_id _ (by omega) (by omega)]; omega), back_low (wd n) h8 v hv]
        exact back_read 68 (by omega) n s t (by omega) hot v
      · rw [if_neg (by omega)]
        have e8 : wd n = 8 := by omega
        have := back_read 68 (by omega) n s t (by omega) hot v
        have hvm : v % 256 ^ wd n = v := by rw [e8]; exact Int.emod_eq_of_lt hv.1 (by omega)
        rw [hvm] at this
        exact this
    by_cases hs255 : s.size ≤ 255
    · rw [if_pos (decide_eq_true hs255)]; exact hj
    · have hdf : decide (s.size ≤ 255) = false := decide_eq_false hs255
      have hb : ((y.length : Int) != ((b.length + wd n : Nat) : Int)) = false := by
        have := hyf hdf
        simp [this]
      rw [if_neg (by simp [hdf]), hb]; exact hj
  by_cases hs255 : s.size ≤ 255
  · have hdt : decide (s.size ≤ 255) = true := decide_eq_true hs255
    rw [if_pos hs255]
    simp only [Option.bind_some]
    have := key (b ++ be (wd n) v ++ (be 1 (s.size : Int) ++ bytesOf s)) (by simp [hbe, l1, l2]; omega) (by rw [hdt]; intro h; cases h) (by rw [if_pos hs255]; simp only [List.append_assoc])
    rw [hdt] at this
    exact this
  · have hdf : decide (s.size ≤ 255) = false := decide_eq_false hs255
    rw [if_neg hs255]
    simp only [Option.bind_some]
    have := key (b ++ be (wd n) v) (by omega) (fun _ => hx) (by rw [if_neg hs255]; simp)
    rw [hdf] at this
    rw [hx] at this
    simp only [hx]
    exact this
end Go.Proofs.Ytlhcjgmdcnmnnaa.Pure
