/- What functions of the given program come to, and that they do: written out of the translation by a program of this session; Lean checks it. -/
import Derived.Test.YtlhcjgmdcnmnnaaProg
import Derived.Lib.Bytealg
import Derived.Laws.Cover1
import Derived.Below
import Derived.Deep.Draws
import Derived.Deep.AppendLies
import Derived.Maps.AppendAt
import Derived.OwnWalk
import Derived.Laws.BytesArg
import Derived.Laws.MakeOwn
import Derived.Laws.OwnMore
import Derived.Deep.OwnRows
import Derived.Tactics
import Derived.Lib.ConvBytes
import Derived.Laws.Slices
import Derived.WalkKit
import Derived.KernelRfl
import Derived.RowKit3
import Derived.Deep.LoopGhost
import Derived.Deep.QuietTactic
import Derived.BigQuiet
import Derived.WideLaws
import Derived.Deep.DeepCutAuto
import Derived.Deep.CutBlock
import Derived.Deep.RegionHeld3
import Derived.Laws.Rows
import Derived.Lib.AppendStr
import Derived.ArgAppend
import Derived.Laws.IdiomCopy
import Derived.OrdersHeld
import Derived.Laws.BitsLemmas
import Derived.RowKit
import Derived.Lib.SliceRun
import Derived.Laws.Pointers
import Derived.Test.YtlhcjgmdcnmnnaaWWords
import Derived.Test.YtlhcjgmdcnmnnaaWLast
import Derived.Test.YtlhcjgmdcnmnnaaWTab
import Derived.Test.YtlhcjgmdcnmnnaaWFour
import Derived.Test.YtlhcjgmdcnmnnaaWQPut
import Derived.Test.YtlhcjgmdcnmnnaaWApart
import Derived.Test.YtlhcjgmdcnmnnaaWArr
import Derived.Test.YtlhcjgmdcnmnnaaWZeros
import Derived.Test.YtlhcjgmdcnmnnaaWFoot
import Derived.Test.YtlhcjgmdcnmnnaaWKept
import Derived.Test.YtlhcjgmdcnmnnaaWShare
import Derived.Test.YtlhcjgmdcnmnnaaWN
import Derived.Test.YtlhcjgmdcnmnnaaWFootNe
import Derived.Test.YtlhcjgmdcnmnnaaWAt
import Derived.Test.YtlhcjgmdcnmnnaaWEqStruct
import Derived.Test.YtlhcjgmdcnmnnaaWRepsOne
import Derived.Test.YtlhcjgmdcnmnnaaWInv
import Derived.Test.YtlhcjgmdcnmnnaaWInvWords
import Derived.Test.YtlhcjgmdcnmnnaaWGuard
import Derived.Test.YtlhcjgmdcnmnnaaWNEv
import Derived.Test.YtlhcjgmdcnmnnaaWMore
import Derived.Test.YtlhcjgmdcnmnnaaXWords
namespace Go.Proofs.Ytlhcjgmdcnmnnaa.PT
open Go.RowKit Go.Proofs.YtlhcjgmdcnmnnaaW.PrintWords Go.Proofs.YtlhcjgmdcnmnnaaW.PrintLast Go.Proofs.YtlhcjgmdcnmnnaaW.PrintMore
attribute [local go_sem] max2_int min2_int max_two min_two max_three min_three max_four min_four   -- for this text's walks alone
set_option linter.unusedVariables false
set_option linter.unusedSimpArgs false



def errW : Option Int → Value
 | none => .nilIface
 | some c => .iface 0 (.int .i64 c)
theorem errW_none : errW none = .nilIface := rfl
theorem errW_some (c : Int) : errW (some c) = .iface 0 (.int .i64 c) := rfl

theorem info5 : (Try.prog.info? 5).map (fun i => (i.zero, i.size, i.bytes)) = some (some (.int .u8 0), 1, 1) := by kernel_rfl
theorem info32 : (Try.prog.info? 32).map (fun i => (i.zero, i.size, i.bytes)) = some (some (.int .u64 0), 1, 8) := by kernel_rfl
-- the values' own types
def rd_L3 (xs : List (List Int)) (i : Int) : (List Int) := xs.getD i.toNat ([] : List Int)
theorem at_L3 {w : World} {A : Option Addr} {n : Nat} {xs : List (List Int)} (h : Kd.C (Kd.slice 5 (Kd.int .u8)) w A n xs) (i : Int) (h0 : 0 ≤ i) (h1 : i < n) : ∃ ad A0 c0, A = some ad ∧ w.cell? (ad.add i.toNat) = some (.slice A0 (rd_L3 xs i).length c0) ∧ (rd_L3 xs i).length ≤ c0 ∧ (Kd.int .u8).C w A0 (rd_L3 xs i).length (rd_L3 xs i) := by
 obtain ⟨ad, c, e, _, hK, hc0⟩ := Kd.C_get h ([] : List Int) i h0 h1
 have hc : ∀ j u, c[j]? = some u → w.cell? (ad.add (i.toNat * 1 + j)) = some u := hc0
 obtain ⟨A0, c0, rfl, l0, g0⟩ := hK
 exact ⟨ad, A0, c0, e, by have hq := hc 0 _ rfl; rwa [Nat.mul_one, Nat.add_zero] at hq, l0, g0⟩

/-! #### struct type 28 -/
structure S28 where
 f0 : ByteArray
 f1 : ByteArray
 f2 : ByteArray
 f3 : Int
 f4 : (List Int)
def z28 : S28 := ⟨(⟨#[]⟩ : ByteArray), (⟨#[]⟩ : ByteArray), (⟨#[]⟩ : ByteArray), (0 : Int), ([] : List Int)⟩
def k28 : Kd S28 := Kd.iso (Kd.pair Kd.string (Kd.pair Kd.string (Kd.pair Kd.string (Kd.pair (Kd.int .i64) (Kd.slice 5 (Kd.int .u8)))))) (fun x : S28 => (x.f0, x.f1, x.f2, x.f3, x.f4))
theorem k28_open {w : World} {x : S28} {cs : List Value} (h : k28.K w x cs) : ∃ A4 c4, cs = [.string x.f0, .string x.f1, .string x.f2, .int .i64 x.f3, .slice A4 x.f4.length c4] ∧ x.f4.length ≤ c4 ∧ (Kd.int .u8).C w A4 x.f4.length x.f4 := by
 obtain ⟨_, _, rfl, rfl, ⟨_, _, rfl, rfl, ⟨_, _, rfl, rfl, ⟨_, _, rfl, rfl, ⟨A4, c4, rfl, l4, g4⟩⟩⟩⟩⟩ := h
 exact ⟨A4, c4, rfl, l4, g4⟩
theorem k28_openM {w : World} {base : Nat} {ok : Nat → Prop} {x : S28} {cs : List Value} (h : k28.M w base ok x cs) : ∃ v4, cs = [.string x.f0, .string x.f1, .string x.f2, .int .i64 x.f3, v4] ∧ (Kd.int .u8).R 5 w base ok v4 x.f4 := by
 obtain ⟨_, _, rfl, rfl, ⟨_, _, rfl, rfl, ⟨_, _, rfl, rfl, ⟨_, _, rfl, rfl, ⟨v4, rfl, g4⟩⟩⟩⟩⟩ := h
 exact ⟨v4, rfl, g4⟩
theorem k28_mk (w : World) (x : S28) {A4 : Option Addr} {c4 : Nat} (l4 : x.f4.length ≤ c4) (g4 : (Kd.int .u8).C w A4 x.f4.length x.f4) : k28.K w x [.string x.f0, .string x.f1, .string x.f2, .int .i64 x.f3, .slice A4 x.f4.length c4] := ⟨[.string x.f0], [.string x.f1, .string x.f2, .int .i64 x.f3, .slice A4 x.f4.length c4], rfl, rfl, ⟨[.string x.f1], [.string x.f2, .int .i64 x.f3, .slice A4 x.f4.length c4], rfl, rfl, ⟨[.string x.f2], [.int .i64 x.f3, .slice A4 x.f4.length c4], rfl, rfl, ⟨[.int .i64 x.f3], [.slice A4 x.f4.length c4], rfl, rfl, ⟨A4, c4, rfl, l4, g4⟩⟩⟩⟩⟩
theorem k28_mkM (w : World) (base : Nat) (ok : Nat → Prop) (x : S28) {v4 : Value} (g4 : (Kd.int .u8).R 5 w base ok v4 x.f4) : k28.M w base ok x [.string x.f0, .string x.f1, .string x.f2, .int .i64 x.f3, v4] := ⟨[.string x.f0], [.string x.f1, .string x.f2, .int .i64 x.f3, v4], rfl, rfl, ⟨[.string x.f1], [.string x.f2, .int .i64 x.f3, v4], rfl, rfl, ⟨[.string x.f2], [.int .i64 x.f3, v4], rfl, rfl, ⟨[.int .i64 x.f3], [v4], rfl, rfl, ⟨v4, rfl, g4⟩⟩⟩⟩⟩
def rd_T28 (xs : List S28) (i : Int) : S28 := xs.getD i.toNat z28
theorem at_T28 {w : World} {A : Option Addr} {n : Nat} {xs : List S28} (h : Kd.C k28 w A n xs) (i : Int) (h0 : 0 ≤ i) (h1 : i < n) : ∃ ad A4 c4, A = some ad ∧ w.cell? (ad.add (i.toNat * 5)) = some (.string (rd_T28 xs i).f0) ∧ w.cell? ⟨(ad.add (i.toNat * 5)).block, (ad.add (i.toNat * 5)).off + 1, none⟩ = some (.string (rd_T28 xs i).f1) ∧ w.cell? ⟨(ad.add (i.toNat * 5)).block, (ad.add (i.toNat * 5)).off + 2, none⟩ = some (.string (rd_T28 xs i).f2) ∧ w.cell? ⟨(ad.add (i.toNat * 5)).block, (ad.add (i.toNat * 5)).off + 3, none⟩ = some (.int .i64 (rd_T28 xs i).f3) ∧ w.cell? ⟨(ad.add (i.toNat * 5)).block, (ad.add (i.toNat * 5)).off + 4, none⟩ = some (.slice A4 (rd_T28 xs i).f4.length c4) ∧ (rd_T28 xs i).f4.length ≤ c4 ∧ (Kd.int .u8).C w A4 (rd_T28 xs i).f4.length (rd_T28 xs i).f4 := by
 obtain ⟨ad, c, e, _, hK, hc0⟩ := Kd.C_get h z28 i h0 h1
 have hc : ∀ j u, c[j]? = some u → w.cell? (ad.add (i.toNat * 5 + j)) = some u := hc0
 obtain ⟨A4, c4, rfl, l4, g4⟩ := k28_open hK
 exact ⟨ad, A4, c4, e, hc 0 _ rfl, by rw [← add_field _ _ 1 (by omega)]; exact hc 1 _ rfl, by rw [← add_field _ _ 2 (by omega)]; exact hc 2 _ rfl, by rw [← add_field _ _ 3 (by omega)]; exact hc 3 _ rfl, by rw [← add_field _ _ 4 (by omega)]; exact hc 4 _ rfl, l4, g4⟩

/-! #### struct type 30 -/
structure S30 where
 f0 : ByteArray
 f1 : S28
 f2 : Bool
def z30 : S30 := ⟨(⟨#[]⟩ : ByteArray), z28, false⟩
def k30 : Kd S30 := Kd.iso (Kd.pair Kd.string (Kd.pair k28 Kd.bool)) (fun x : S30 => (x.f0, x.f1, x.f2))
theorem k30_open {w : World} {x : S30} {cs : List Value} (h : k30.K w x cs) : ∃ A5 c5, cs = [.string x.f0, .string x.f1.f0, .string x.f1.f1, .string x.f1.f2, .int .i64 x.f1.f3, .slice A5 x.f1.f4.length c5, .bool x.f2] ∧ x.f1.f4.length ≤ c5 ∧ (Kd.int .u8).C w A5 x.f1.f4.length x.f1.f4 := by
 obtain ⟨_, _, rfl, rfl, ⟨_, _, rfl, s1, rfl⟩⟩ := h
 obtain ⟨A5, c5, rfl, l5, g5⟩ := k28_open s1
 exact ⟨A5, c5, rfl, l5, g5⟩
theorem k30_openM {w : World} {base : Nat} {ok : Nat → Prop} {x : S30} {cs : List Value} (h : k30.M w base ok x cs) : ∃ v5, cs = [.string x.f0, .string x.f1.f0, .string x.f1.f1, .string x.f1.f2, .int .i64 x.f1.f3, v5, .bool x.f2] ∧ (Kd.int .u8).R 5 w base ok v5 x.f1.f4 := by
 obtain ⟨_, _, rfl, rfl, ⟨_, _, rfl, s1, rfl⟩⟩ := h
 obtain ⟨v5, rfl, g5⟩ := k28_openM s1
 exact ⟨v5, rfl, g5⟩
theorem k30_mk (w : World) (x : S30) {A5 : Option Addr} {c5 : Nat} (l5 : x.f1.f4.length ≤ c5) (g5 : (Kd.int .u8).C w A5 x.f1.f4.length x.f1.f4) : k30.K w x [.string x.f0, .string x.f1.f0, .string x.f1.f1, .string x.f1.f2, .int .i64 x.f1.f3, .slice A5 x.f1.f4.length c5, .bool x.f2] := ⟨[.string x.f0], [.string x.f1.f0, .string x.f1.f1, .string x.f1.f2, .int .i64 x.f1.f3, .slice A5 x.f1.f4.length c5, .bool x.f2], rfl, rfl, ⟨[.string x.f1.f0, .string x.f1.f1, .string x.f1.f2, .int .i64 x.f1.f3, .slice A5 x.f1.f4.length c5], [.bool x.f2], rfl, (k28_mk w x.f1 l5 g5), rfl⟩⟩
theorem k30_mkM (w : World) (base : Nat) (ok : Nat → Prop) (x : S30) {v5 : Value} (g5 : (Kd.int .u8).R 5 w base ok v5 x.f1.f4) : k30.M w base ok x [.string x.f0, .string x.f1.f0, .string x.f1.f1, .string x.f1.f2, .int .i64 x.f1.f3, v5, .bool x.f2] := ⟨[.string x.f0], [.string x.f1.f0, .string x.f1.f1, .string x.f1.f2, .int .i64 x.f1.f3, v5, .bool x.f2], rfl, rfl, ⟨[.string x.f1.f0, .string x.f1.f1, .string x.f1.f2, .int .i64 x.f1.f3, v5], [.bool x.f2], rfl, (k28_mkM w base ok x.f1 g5), rfl⟩⟩
def rd_T30 (xs : List S30) (i : Int) : S30 := xs.getD i.toNat z30
theorem at_T30 {w : World} {A : Option Addr} {n : Nat} {xs : List S30} (h : Kd.C k30 w A n xs) (i : Int) (h0 : 0 ≤ i) (h1 : i < n) : ∃ ad A5 c5, A = some ad ∧ w.cell? (ad.add (i.toNat * 7)) = some (.string (rd_T30 xs i).f0) ∧ w.cell? ⟨(ad.add (i.toNat * 7)).block, (ad.add (i.toNat * 7)).off + 1, none⟩ = some (.string (rd_T30 xs i).f1.f0) ∧ w.cell? ⟨(ad.add (i.toNat * 7)).block, (ad.add (i.toNat * 7)).off + 2, none⟩ = some (.string (rd_T30 xs i).f1.f1) ∧ w.cell? ⟨(ad.add (i.toNat * 7)).block, (ad.add (i.toNat * 7)).off + 3, none⟩ = some (.string (rd_T30 xs i).f1.f2) ∧ w.cell? ⟨(ad.add (i.toNat * 7)).block, (ad.add (i.toNat * 7)).off + 4, none⟩ = some (.int .i64 (rd_T30 xs i).f1.f3) ∧ w.cell? ⟨(ad.add (i.toNat * 7)).block, (ad.add (i.toNat * 7)).off + 5, none⟩ = some (.slice A5 (rd_T30 xs i).f1.f4.length c5) ∧ w.cell? ⟨(ad.add (i.toNat * 7)).block, (ad.add (i.toNat * 7)).off + 6, none⟩ = some (.bool (rd_T30 xs i).f2) ∧ (rd_T30 xs i).f1.f4.length ≤ c5 ∧ (Kd.int .u8).C w A5 (rd_T30 xs i).f1.f4.length (rd_T30 xs i).f1.f4 := by
 obtain ⟨ad, c, e, _, hK, hc0⟩ := Kd.C_get h z30 i h0 h1
 have hc : ∀ j u, c[j]? = some u → w.cell? (ad.add (i.toNat * 7 + j)) = some u := hc0
 obtain ⟨A5, c5, rfl, l5, g5⟩ := k30_open hK
 exact ⟨ad, A5, c5, e, hc 0 _ rfl, by rw [← add_field _ _ 1 (by omega)]; exact hc 1 _ rfl, by rw [← add_field _ _ 2 (by omega)]; exact hc 2 _ rfl, by rw [← add_field _ _ 3 (by omega)]; exact hc 3 _ rfl, by rw [← add_field _ _ 4 (by omega)]; exact hc 4 _ rfl, by rw [← add_field _ _ 5 (by omega)]; exact hc 5 _ rfl, by rw [← add_field _ _ 6 (by omega)]; exact hc 6 _ rfl, l5, g5⟩

def rd_L8 (xs : List (List Int)) (i : Int) : (List Int) := xs.getD i.toNat ([] : List Int)
theorem at_L8 {w : World} {A : Option Addr} {n : Nat} {xs : List (List Int)} (h : Kd.C (Kd.slice 32 (Kd.int .u64)) w A n xs) (i : Int) (h0 : 0 ≤ i) (h1 : i < n) : ∃ ad A0 c0, A = some ad ∧ w.cell? (ad.add i.toNat) = some (.slice A0 (rd_L8 xs i).length c0) ∧ (rd_L8 xs i).length ≤ c0 ∧ (Kd.int .u64).C w A0 (rd_L8 xs i).length (rd_L8 xs i) := by
 obtain ⟨ad, c, e, _, hK, hc0⟩ := Kd.C_get h ([] : List Int) i h0 h1
 have hc : ∀ j u, c[j]? = some u → w.cell? (ad.add (i.toNat * 1 + j)) = some u := hc0
 obtain ⟨A0, c0, rfl, l0, g0⟩ := hK
 exact ⟨ad, A0, c0, e, by have hq := hc 0 _ rfl; rwa [Nat.mul_one, Nat.add_zero] at hq, l0, g0⟩

/-! #### struct type 37 -/
structure S37 where
 f0 : Int
 f1 : S30
 f2 : (List Int)
def z37 : S37 := ⟨(0 : Int), z30, ([] : List Int)⟩
def k37 : Kd S37 := Kd.iso (Kd.pair (Kd.int .i64) (Kd.pair k30 (Kd.slice 32 (Kd.int .u64)))) (fun x : S37 => (x.f0, x.f1, x.f2))
theorem k37_open {w : World} {x : S37} {cs : List Value} (h : k37.K w x cs) : ∃ A6 c6 A8 c8, cs = [.int .i64 x.f0, .string x.f1.f0, .string x.f1.f1.f0, .string x.f1.f1.f1, .string x.f1.f1.f2, .int .i64 x.f1.f1.f3, .slice A6 x.f1.f1.f4.length c6, .bool x.f1.f2, .slice A8 x.f2.length c8] ∧ x.f1.f1.f4.length ≤ c6 ∧ (Kd.int .u8).C w A6 x.f1.f1.f4.length x.f1.f1.f4 ∧ x.f2.length ≤ c8 ∧ (Kd.int .u64).C w A8 x.f2.length x.f2 := by
 obtain ⟨_, _, rfl, rfl, ⟨_, _, rfl, s1, ⟨A8, c8, rfl, l8, g8⟩⟩⟩ := h
 obtain ⟨A6, c6, rfl, l6, g6⟩ := k30_open s1
 exact ⟨A6, c6, A8, c8, rfl, l6, g6, l8, g8⟩
theorem k37_openM {w : World} {base : Nat} {ok : Nat → Prop} {x : S37} {cs : List Value} (h : k37.M w base ok x cs) : ∃ v6 v8, cs = [.int .i64 x.f0, .string x.f1.f0, .string x.f1.f1.f0, .string x.f1.f1.f1, .string x.f1.f1.f2, .int .i64 x.f1.f1.f3, v6, .bool x.f1.f2, v8] ∧ (Kd.int .u8).R 5 w base ok v6 x.f1.f1.f4 ∧ (Kd.int .u64).R 32 w base ok v8 x.f2 := by
 obtain ⟨_, _, rfl, rfl, ⟨_, _, rfl, s1, ⟨v8, rfl, g8⟩⟩⟩ := h
 obtain ⟨v6, rfl, g6⟩ := k30_openM s1
 exact ⟨v6, v8, rfl, g6, g8⟩
theorem k37_mk (w : World) (x : S37) {A6 : Option Addr} {c6 : Nat} (l6 : x.f1.f1.f4.length ≤ c6) (g6 : (Kd.int .u8).C w A6 x.f1.f1.f4.length x.f1.f1.f4) {A8 : Option Addr} {c8 : Nat} (l8 : x.f2.length ≤ c8) (g8 : (Kd.int .u64).C w A8 x.f2.length x.f2) : k37.K w x [.int .i64 x.f0, .string x.f1.f0, .string x.f1.f1.f0, .string x.f1.f1.f1, .string x.f1.f1.f2, .int .i64 x.f1.f1.f3, .slice A6 x.f1.f1.f4.length c6, .bool x.f1.f2, .slice A8 x.f2.length c8] := ⟨[.int .i64 x.f0], [.string x.f1.f0, .string x.f1.f1.f0, .string x.f1.f1.f1, .string x.f1.f1.f2, .int .i64 x.f1.f1.f3, .slice A6 x.f1.f1.f4.length c6, .bool x.f1.f2, .slice A8 x.f2.length c8], rfl, rfl, ⟨[.string x.f1.f0, .string x.f1.f1.f0, .string x.f1.f1.f1, .string x.f1.f1.f2, .int .i64 x.f1.f1.f3, .slice A6 x.f1.f1.f4.length c6, .bool x.f1.f2], [.slice A8 x.f2.length c8], rfl, (k30_mk w x.f1 l6 g6), ⟨A8, c8, rfl, l8, g8⟩⟩⟩
theorem k37_mkM (w : World) (base : Nat) (ok : Nat → Prop) (x : S37) {v6 : Value} (g6 : (Kd.int .u8).R 5 w base ok v6 x.f1.f1.f4) {v8 : Value} (g8 : (Kd.int .u64).R 32 w base ok v8 x.f2) : k37.M w base ok x [.int .i64 x.f0, .string x.f1.f0, .string x.f1.f1.f0, .string x.f1.f1.f1, .string x.f1.f1.f2, .int .i64 x.f1.f1.f3, v6, .bool x.f1.f2, v8] := ⟨[.int .i64 x.f0], [.string x.f1.f0, .string x.f1.f1.f0, .string x.f1.f1.f1, .string x.f1.f1.f2, .int .i64 x.f1.f1.f3, v6, .bool x.f1.f2, v8], rfl, rfl, ⟨[.string x.f1.f0, .string x.f1.f1.f0, .string x.f1.f1.f1, .string x.f1.f1.f2, .int .i64 x.f1.f1.f3, v6, .bool x.f1.f2], [v8], rfl, (k30_mkM w base ok x.f1 g6), ⟨v8, rfl, g8⟩⟩⟩
def rd_T37 (xs : List S37) (i : Int) : S37 := xs.getD i.toNat z37
theorem at_T37 {w : World} {A : Option Addr} {n : Nat} {xs : List S37} (h : Kd.C k37 w A n xs) (i : Int) (h0 : 0 ≤ i) (h1 : i < n) : ∃ ad A6 c6 A8 c8, A = some ad ∧ w.cell? (ad.add (i.toNat * 9)) = some (.int .i64 (rd_T37 xs i).f0) ∧ w.cell? ⟨(ad.add (i.toNat * 9)).block, (ad.add (i.toNat * 9)).off + 1, none⟩ = some (.string (rd_T37 xs i).f1.f0) ∧ w.cell? ⟨(ad.add (i.toNat * 9)).block, (ad.add (i.toNat * 9)).off + 2, none⟩ = some (.string (rd_T37 xs i).f1.f1.f0) ∧ w.cell? ⟨(ad.add (i.toNat * 9)).block, (ad.add (i.toNat * 9)).off + 3, none⟩ = some (.string (rd_T37 xs i).f1.f1.f1) ∧ w.cell? ⟨(ad.add (i.toNat * 9)).block, (ad.add (i.toNat * 9)).off + 4, none⟩ = some (.string (rd_T37 xs i).f1.f1.f2) ∧ w.cell? ⟨(ad.add (i.toNat * 9)).block, (ad.add (i.toNat * 9)).off + 5, none⟩ = some (.int .i64 (rd_T37 xs i).f1.f1.f3) ∧ w.cell? ⟨(ad.add (i.toNat * 9)).block, (ad.add (i.toNat * 9)).off + 6, none⟩ = some (.slice A6 (rd_T37 xs i).f1.f1.f4.length c6) ∧ w.cell? ⟨(ad.add (i.toNat * 9)).block, (ad.add (i.toNat * 9)).off + 7, none⟩ = some (.bool (rd_T37 xs i).f1.f2) ∧ w.cell? ⟨(ad.add (i.toNat * 9)).block, (ad.add (i.toNat * 9)).off + 8, none⟩ = some (.slice A8 (rd_T37 xs i).f2.length c8) ∧ (rd_T37 xs i).f1.f1.f4.length ≤ c6 ∧ (Kd.int .u8).C w A6 (rd_T37 xs i).f1.f1.f4.length (rd_T37 xs i).f1.f1.f4 ∧ (rd_T37 xs i).f2.length ≤ c8 ∧ (Kd.int .u64).C w A8 (rd_T37 xs i).f2.length (rd_T37 xs i).f2 := by
 obtain ⟨ad, c, e, _, hK, hc0⟩ := Kd.C_get h z37 i h0 h1
 have hc : ∀ j u, c[j]? = some u → w.cell? (ad.add (i.toNat * 9 + j)) = some u := hc0
 obtain ⟨A6, c6, A8, c8, rfl, l6, g6, l8, g8⟩ := k37_open hK
 exact ⟨ad, A6, c6, A8, c8, e, hc 0 _ rfl, by rw [← add_field _ _ 1 (by omega)]; exact hc 1 _ rfl, by rw [← add_field _ _ 2 (by omega)]; exact hc 2 _ rfl, by rw [← add_field _ _ 3 (by omega)]; exact hc 3 _ rfl, by rw [← add_field _ _ 4 (by omega)]; exact hc 4 _ rfl, by rw [← add_field _ _ 5 (by omega)]; exact hc 5 _ rfl, by rw [← add_field _ _ 6 (by omega)]; exact hc 6 _ rfl, by rw [← add_field _ _ 7 (by omega)]; exact hc 7 _ rfl, by rw [← add_field _ _ 8 (by omega)]; exact hc 8 _ rfl, l6, g6, l8, g8⟩

end Go.Proofs.Ytlhcjgmdcnmnnaa.PT
