/-
Where the program says an op's body lies, there it lies.
-/
import Derived.Test.YtpjkaodbcclecaaPAStUnitPlaces
import Derived.Test.YtpjkaodbcclecaaAUnitTame
import Derived.Test.YtpjkaodbcclecaaAOctsAwake13
namespace Go.Proofs.Ytpjkaodbcclecaa.Pure
open Go.RowKit Go.Proofs.Ytpjkaodbcclecaa.PA Go.Proofs.YtpjkaodbcclecaaW.PrintWords Go.Proofs.YtpjkaodbcclecaaW.PrintLast Go.Proofs.YtpjkaodbcclecaaW.PrintMore
set_option linter.unusedVariables false
set_option linter.unusedSimpArgs false
theorem UP_l0 (ops : List S38) (b : List Int) (pl : List S51) (hn : ops.length ≤ 30) (hb : b.length ≤ 190000) (hp : pl.length = ops.length) (hs : ∀ (i : Nat) (h : i < ops.length), saysOp b (pl[i]'(by omega)) ops[i]) :
    ∀ (d i k : Nat), ops.length - i = d → i ≤ ops.length → d + 40 < k → waybilllaw13_UnitPlaces.l0 k ops b pl (i : Int) = some true := by
  intro d
  induction d with
  | zero =>
    intro i k hd hi hk
    obtain ⟨k, rfl⟩ : ∃ j, k = j + 1 := ⟨k - 1, by omega⟩
    rw [waybilllaw13_UnitPlaces.l0, if_neg (by omega), awake13_ok k (by omega)]
    rfl
  | succ d ih =>
    intro i k hd hi hk
    obtain ⟨k, rfl⟩ : ∃ j, k = j + 1 := ⟨k - 1, by omega⟩
    have hil : i < ops.length := by omega
    have hw : wrap64 ((i : Int) + 1) = ((i + 1 : Nat) : Int) := (w64_id _ (by omega) (by omega)).trans (by omega)
    have hrec := ih (i + 1) k (by omega) (by omega) (by omega)
    have hpl : i < pl.length := by omega
    have hsay : saysOp b (pl[i]'hpl) ops[i] := hs i hil
    rw [waybilllaw13_UnitPlaces.l0, if_pos (by omega), if_pos (by omega), if_pos (by omega), rd_U ops i hil, rd_P pl i hpl, hw, hrec]
    clear hw hrec ih hs
    generalize ops[i] = x at hsay ⊢
    generalize pl[i]'hpl = p at hsay ⊢
    obtain ⟨s1, s2, s3, s4, s5, s6⟩ := hsay
    have w1 : wrap64 (p.f2 + p.f3) = p.f2 + p.f3 := w64_id _ (by omega) (by omega)
    have w2 : wrap64 ((b.length : Int) - p.f2) = (b.length : Int) - p.f2 := w64_id _ (by omega) (by omega)
    rw [w1, w2, if_pos (by rw [s1]), if_neg (by rw [s2]; simp), if_pos s3]
    clear w1 w2
    rw [if_neg (by omega), if_neg (by omega), if_neg (by omega), if_pos s4, if_pos (by omega), if_pos s5, s6, if_pos rfl]
theorem UnitPlaces : waybilllaw13_UnitPlaces.Pure := by
  intro l hl
  refine ⟨500000, ?_⟩
  unfold waybilllaw13_UnitPlaces.f
  obtain ⟨b, hb, hb2⟩ := Small_f 500000 l (by omega)
  rw [hb, Option.bind_some]
  cases b with
  | false =>
    rw [if_neg (by simp), awake13_ok 500000 (by omega)]
    rfl
  | true =>
    rw [if_pos rfl]
    have ho : ∀ x ∈ l, Oct x.f2 := fun x hx => oct_wf (hl.2 x hx).2.2.2
    obtain ⟨o, ho1, ho2, ho3⟩ := Tame_f 500000 l (hb2 rfl) ho (by omega)
    have hg : ∀ x ∈ o, goodU x = true := fun x hx => (ho2 x hx).1
    have hfl := flat_len o ho2
    have hap : appU [] o = (flatU o, true) := appU_flat o [] hg (by rw [List.length_nil]; omega)
    have hoc : Oct (flatU o) := oct_flat o (fun x hx => (ho2 x hx).2.2.2)
    have hops := opsU_flat o hg (by omega)
    rw [ho1, Option.bind_some, AppendU 500000 o (by omega) (by omega), Option.bind_some, hap]
    show (unit_Places.f 500000 (flatU o)).bind _ = _
    rw [PlacesU 500000 _ hoc (by omega), hops, Option.bind_some]
    show waybilllaw13_UnitPlaces.j0 500000 o (flatU o) (plU 0 o) (((plU 0 o).length : Int) != (o.length : Int)) = some true
    rw [waybilllaw13_UnitPlaces.j0, if_neg (by rw [plU_len]; simp)]
    exact UP_l0 o (flatU o) (plU 0 o) ho3 (by omega) (plU_len 0 o) (fun i hi => plU_says o [] i hi hg) _ 0 _ rfl (by omega) (by omega)
end Go.Proofs.Ytpjkaodbcclecaa.Pure
