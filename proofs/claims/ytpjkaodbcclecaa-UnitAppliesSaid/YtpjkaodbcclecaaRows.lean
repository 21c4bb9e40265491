/-
  No cell of these rows narrows 'for every input' (looked for: loops, veiled, ifaces, maps, wideKeys, modest, calm, conditions, laid).
  DERIVED. THE GIVEN ROWS OF THIS SEAT. 12 by the template 'for every input the law returns true; each argument reads behind the call as it read before'; 0 by the template 'total and deterministic' (their statements: YtpjkaodbcclecaaTotals.lean).
  GIVEN WITH THE SEED: the statements are not yours to turn. If you find one false, say at which input.
  Laid BY PROGRAM, IN A SANDBOX (cutbox-rows.mjs): the forced cells as the released guide's own fill.sh prints them over the translation 5964a13afef7fa12… (all of the seat's roots in one cut). By AI agents, Wed Nov 11 2026. No macro, syntax, notation, axiom, sorry.
-/
import Derived.Test.YtpjkaodbcclecaaChecked
import GoSem.Claim
import GoSem.ClaimJoined
import GoSem.ClaimMapViews
import Derived.JoinedTies
import Derived.KernelRfl
namespace Go.Proofs.Ytpjkaodbcclecaa
/- THE CELL 'sum', in the pinned program and in every row, IS THE sha256 OF THE DUMP (.gsa) THAT YtpjkaodbcclecaaProg.lean LOADS. Nothing in Lean hashes anything: it is a label: what it is worth is what the hold of that sum in a sandbox is worth. -/
noncomputable def Try.pinned : Pinned := { name := "ytpjkaodbcclecaa", sum := "5964a13afef7fa1214ea363d0df8f164a792ba71f111d85e01d85f64fffa7df1", checked := Try.checked }
namespace Rows
def none {H : Type} : Left H := { results := [], args := [] }

/-- 'waybilllaw5.ContSizes': WHATEVER THE INPUT: true; the input reads as it did. -/
def contSizesSpec : ChangeSpec := { name := "contSizes", fn := fun _ => fun
  | [d1, d2, d3] => { results := [.lit (.bool true)], args := [d1, d2, d3] }
  | _ => none }
def contSizesRow : OpenClaim := { program := "ytpjkaodbcclecaa", sum := "5964a13afef7fa1214ea363d0df8f164a792ba71f111d85e01d85f64fffa7df1", func := "waybill/waybilllaw5.ContSizes", spec := "contSizes", apart := false }
def ContSizesSaid : Prop := contSizesRow.holds Try.pinned (OpenSpec.ofChange contSizesSpec)

/-- ITS FALSE NEIGHBOUR: 'it returns false'. Refute it at one input. -/
def contSizesWrong : ChangeSpec := { name := "contSizes", fn := fun _ => fun
  | [d1, d2, d3] => { results := [.lit (.bool false)], args := [d1, d2, d3] }
  | _ => none }
def ContSizesWrongFalsely : Prop := contSizesRow.holds Try.pinned (OpenSpec.ofChange contSizesWrong)

/-- 'waybilllaw5.ContFlags': WHATEVER THE INPUT: true; the input reads as it did. -/
def contFlagsSpec : ChangeSpec := { name := "contFlags", fn := fun _ => fun
  | [d1, d2, d3] => { results := [.lit (.bool true)], args := [d1, d2, d3] }
  | _ => none }
def contFlagsRow : OpenClaim := { program := "ytpjkaodbcclecaa", sum := "5964a13afef7fa1214ea363d0df8f164a792ba71f111d85e01d85f64fffa7df1", func := "waybill/waybilllaw5.ContFlags", spec := "contFlags", apart := false }
def ContFlagsSaid : Prop := contFlagsRow.holds Try.pinned (OpenSpec.ofChange contFlagsSpec)

/-- ITS FALSE NEIGHBOUR: 'it returns false'. Refute it at one input. -/
def contFlagsWrong : ChangeSpec := { name := "contFlags", fn := fun _ => fun
  | [d1, d2, d3] => { results := [.lit (.bool false)], args := [d1, d2, d3] }
  | _ => none }
def ContFlagsWrongFalsely : Prop := contFlagsRow.holds Try.pinned (OpenSpec.ofChange contFlagsWrong)

/-- 'waybilllaw13.UnitBounds': WHATEVER THE INPUT: true; the input reads as it did. -/
def unitBoundsSpec : ChangeSpec := { name := "unitBounds", fn := fun _ => fun
  | [d1, d2, d3] => { results := [.lit (.bool true)], args := [d1, d2, d3] }
  | _ => none }
def unitBoundsRow : OpenClaim := { program := "ytpjkaodbcclecaa", sum := "5964a13afef7fa1214ea363d0df8f164a792ba71f111d85e01d85f64fffa7df1", func := "waybill/waybilllaw13.UnitBounds", spec := "unitBounds", apart := false }
def UnitBoundsSaid : Prop := unitBoundsRow.holds Try.pinned (OpenSpec.ofChange unitBoundsSpec)

/-- ITS FALSE NEIGHBOUR: 'it returns false'. Refute it at one input. -/
def unitBoundsWrong : ChangeSpec := { name := "unitBounds", fn := fun _ => fun
  | [d1, d2, d3] => { results := [.lit (.bool false)], args := [d1, d2, d3] }
  | _ => none }
def UnitBoundsWrongFalsely : Prop := unitBoundsRow.holds Try.pinned (OpenSpec.ofChange unitBoundsWrong)

/-- 'waybilllaw13.UnitTells': WHATEVER THE INPUT: true; the input reads as it did. -/
def unitTellsSpec : ChangeSpec := { name := "unitTells", fn := fun _ => fun
  | [d1, d2, d3, d4, d5] => { results := [.lit (.bool true)], args := [d1, d2, d3, d4, d5] }
  | _ => none }
def unitTellsRow : OpenClaim := { program := "ytpjkaodbcclecaa", sum := "5964a13afef7fa1214ea363d0df8f164a792ba71f111d85e01d85f64fffa7df1", func := "waybill/waybilllaw13.UnitTells", spec := "unitTells", apart := false }
def UnitTellsSaid : Prop := unitTellsRow.holds Try.pinned (OpenSpec.ofChange unitTellsSpec)

/-- ITS FALSE NEIGHBOUR: 'it returns false'. Refute it at one input. -/
def unitTellsWrong : ChangeSpec := { name := "unitTells", fn := fun _ => fun
  | [d1, d2, d3, d4, d5] => { results := [.lit (.bool false)], args := [d1, d2, d3, d4, d5] }
  | _ => none }
def UnitTellsWrongFalsely : Prop := unitTellsRow.holds Try.pinned (OpenSpec.ofChange unitTellsWrong)

/-- 'waybilllaw13.UnitPlaces': WHATEVER THE INPUT: true; the input reads as it did. -/
def unitPlacesSpec : ChangeSpec := { name := "unitPlaces", fn := fun _ => fun
  | [d] => { results := [.lit (.bool true)], args := [d] }
  | _ => none }
def unitPlacesRow : OpenClaim := { program := "ytpjkaodbcclecaa", sum := "5964a13afef7fa1214ea363d0df8f164a792ba71f111d85e01d85f64fffa7df1", func := "waybill/waybilllaw13.UnitPlaces", spec := "unitPlaces", apart := false }
def UnitPlacesSaid : Prop := unitPlacesRow.holds Try.pinned (OpenSpec.ofChange unitPlacesSpec)

/-- ITS FALSE NEIGHBOUR: 'it returns false'. Refute it at one input. -/
def unitPlacesWrong : ChangeSpec := { name := "unitPlaces", fn := fun _ => fun
  | [d] => { results := [.lit (.bool false)], args := [d] }
  | _ => none }
def UnitPlacesWrongFalsely : Prop := unitPlacesRow.holds Try.pinned (OpenSpec.ofChange unitPlacesWrong)

/-- 'waybilllaw5.ContTells': WHATEVER THE INPUT: true; the input reads as it did. -/
def contTellsSpec : ChangeSpec := { name := "contTells", fn := fun _ => fun
  | [d1, d2, d3, d4, d5, d6, d7] => { results := [.lit (.bool true)], args := [d1, d2, d3, d4, d5, d6, d7] }
  | _ => none }
def contTellsRow : OpenClaim := { program := "ytpjkaodbcclecaa", sum := "5964a13afef7fa1214ea363d0df8f164a792ba71f111d85e01d85f64fffa7df1", func := "waybill/waybilllaw5.ContTells", spec := "contTells", apart := false }
def ContTellsSaid : Prop := contTellsRow.holds Try.pinned (OpenSpec.ofChange contTellsSpec)

/-- ITS FALSE NEIGHBOUR: 'it returns false'. Refute it at one input. -/
def contTellsWrong : ChangeSpec := { name := "contTells", fn := fun _ => fun
  | [d1, d2, d3, d4, d5, d6, d7] => { results := [.lit (.bool false)], args := [d1, d2, d3, d4, d5, d6, d7] }
  | _ => none }
def ContTellsWrongFalsely : Prop := contTellsRow.holds Try.pinned (OpenSpec.ofChange contTellsWrong)

/-- 'waybilllaw13.UnitApplies': WHATEVER THE INPUT: true; the input reads as it did. -/
def unitAppliesSpec : ChangeSpec := { name := "unitApplies", fn := fun _ => fun
  | [d1, d2, d3] => { results := [.lit (.bool true)], args := [d1, d2, d3] }
  | _ => none }
def unitAppliesRow : OpenClaim := { program := "ytpjkaodbcclecaa", sum := "5964a13afef7fa1214ea363d0df8f164a792ba71f111d85e01d85f64fffa7df1", func := "waybill/waybilllaw13.UnitApplies", spec := "unitApplies", apart := false }
def UnitAppliesSaid : Prop := unitAppliesRow.holds Try.pinned (OpenSpec.ofChange unitAppliesSpec)

/-- ITS FALSE NEIGHBOUR: 'it returns false'. Refute it at one input. -/
def unitAppliesWrong : ChangeSpec := { name := "unitApplies", fn := fun _ => fun
  | [d1, d2, d3] => { results := [.lit (.bool false)], args := [d1, d2, d3] }
  | _ => none }
def UnitAppliesWrongFalsely : Prop := unitAppliesRow.holds Try.pinned (OpenSpec.ofChange unitAppliesWrong)

/-- 'waybilllaw12.KeysParts': WHATEVER THE INPUT: true; the input reads as it did. -/
def keysPartsSpec : ChangeSpec := { name := "keysParts", fn := fun _ => fun
  | [d1, d2, d3, d4, d5] => { results := [.lit (.bool true)], args := [d1, d2, d3, d4, d5] }
  | _ => none }
def keysPartsRow : OpenClaim := { program := "ytpjkaodbcclecaa", sum := "5964a13afef7fa1214ea363d0df8f164a792ba71f111d85e01d85f64fffa7df1", func := "waybill/waybilllaw12.KeysParts", spec := "keysParts", apart := false }
def KeysPartsSaid : Prop := keysPartsRow.holds Try.pinned (OpenSpec.ofChange keysPartsSpec)

/-- ITS FALSE NEIGHBOUR: 'it returns false'. Refute it at one input. -/
def keysPartsWrong : ChangeSpec := { name := "keysParts", fn := fun _ => fun
  | [d1, d2, d3, d4, d5] => { results := [.lit (.bool false)], args := [d1, d2, d3, d4, d5] }
  | _ => none }
def KeysPartsWrongFalsely : Prop := keysPartsRow.holds Try.pinned (OpenSpec.ofChange keysPartsWrong)

/-- 'waybilllaw12.KeysTells': WHATEVER THE INPUT: true; the input reads as it did. -/
def keysTellsSpec : ChangeSpec := { name := "keysTells", fn := fun _ => fun
  | [d1, d2, d3, d4, d5, d6, d7] => { results := [.lit (.bool true)], args := [d1, d2, d3, d4, d5, d6, d7] }
  | _ => none }
def keysTellsRow : OpenClaim := { program := "ytpjkaodbcclecaa", sum := "5964a13afef7fa1214ea363d0df8f164a792ba71f111d85e01d85f64fffa7df1", func := "waybill/waybilllaw12.KeysTells", spec := "keysTells", apart := false }
def KeysTellsSaid : Prop := keysTellsRow.holds Try.pinned (OpenSpec.ofChange keysTellsSpec)

/-- ITS FALSE NEIGHBOUR: 'it returns false'. Refute it at one input. -/
def keysTellsWrong : ChangeSpec := { name := "keysTells", fn := fun _ => fun
  | [d1, d2, d3, d4, d5, d6, d7] => { results := [.lit (.bool false)], args := [d1, d2, d3, d4, d5, d6, d7] }
  | _ => none }
def KeysTellsWrongFalsely : Prop := keysTellsRow.holds Try.pinned (OpenSpec.ofChange keysTellsWrong)

/-- 'waybilllaw12.KeysBack': WHATEVER THE INPUT: true; the input reads as it did. -/
def keysBackSpec : ChangeSpec := { name := "keysBack", fn := fun _ => fun
  | [d1, d2, d3] => { results := [.lit (.bool true)], args := [d1, d2, d3] }
  | _ => none }
def keysBackRow : OpenClaim := { program := "ytpjkaodbcclecaa", sum := "5964a13afef7fa1214ea363d0df8f164a792ba71f111d85e01d85f64fffa7df1", func := "waybill/waybilllaw12.KeysBack", spec := "keysBack", apart := false }
def KeysBackSaid : Prop := keysBackRow.holds Try.pinned (OpenSpec.ofChange keysBackSpec)

/-- ITS FALSE NEIGHBOUR: 'it returns false'. Refute it at one input. -/
def keysBackWrong : ChangeSpec := { name := "keysBack", fn := fun _ => fun
  | [d1, d2, d3] => { results := [.lit (.bool false)], args := [d1, d2, d3] }
  | _ => none }
def KeysBackWrongFalsely : Prop := keysBackRow.holds Try.pinned (OpenSpec.ofChange keysBackWrong)

/-- 'waybilllaw12.KeysOrder': WHATEVER THE INPUT: true; the input reads as it did. -/
def keysOrderSpec : ChangeSpec := { name := "keysOrder", fn := fun _ => fun
  | [d1, d2, d3, d4] => { results := [.lit (.bool true)], args := [d1, d2, d3, d4] }
  | _ => none }
def keysOrderRow : OpenClaim := { program := "ytpjkaodbcclecaa", sum := "5964a13afef7fa1214ea363d0df8f164a792ba71f111d85e01d85f64fffa7df1", func := "waybill/waybilllaw12.KeysOrder", spec := "keysOrder", apart := false }
def KeysOrderSaid : Prop := keysOrderRow.holds Try.pinned (OpenSpec.ofChange keysOrderSpec)

/-- ITS FALSE NEIGHBOUR: 'it returns false'. Refute it at one input. -/
def keysOrderWrong : ChangeSpec := { name := "keysOrder", fn := fun _ => fun
  | [d1, d2, d3, d4] => { results := [.lit (.bool false)], args := [d1, d2, d3, d4] }
  | _ => none }
def KeysOrderWrongFalsely : Prop := keysOrderRow.holds Try.pinned (OpenSpec.ofChange keysOrderWrong)

/-- 'waybilllaw5.ContBack': WHATEVER THE INPUT: true; the input reads as it did. -/
def contBackSpec : ChangeSpec := { name := "contBack", fn := fun _ => fun
  | [d1, d2, d3, d4] => { results := [.lit (.bool true)], args := [d1, d2, d3, d4] }
  | _ => none }
def contBackRow : OpenClaim := { program := "ytpjkaodbcclecaa", sum := "5964a13afef7fa1214ea363d0df8f164a792ba71f111d85e01d85f64fffa7df1", func := "waybill/waybilllaw5.ContBack", spec := "contBack", apart := false }
def ContBackSaid : Prop := contBackRow.holds Try.pinned (OpenSpec.ofChange contBackSpec)

/-- ITS FALSE NEIGHBOUR: 'it returns false'. Refute it at one input. -/
def contBackWrong : ChangeSpec := { name := "contBack", fn := fun _ => fun
  | [d1, d2, d3, d4] => { results := [.lit (.bool false)], args := [d1, d2, d3, d4] }
  | _ => none }
def ContBackWrongFalsely : Prop := contBackRow.holds Try.pinned (OpenSpec.ofChange contBackWrong)

/- THE SECOND FORM. 'bulk': how many values and letters a reading holds, each counted each time it is reached (what is shared counts as often as it is met; a slice's spare places count too). A statement '..UptoSaid' is the law's where the arguments, and the package variables that the reading takes, are together of bulk at most 1048576: NARROWER than '..Said'. Prove '..Said' where nothing that the law and all that it calls make is longer than what came in: it says more and counts as full. Else prove '..UptoSaid'. A law counts once. -/
mutual
def uptoBulk {H : Type} : DataW H → Nat
  | .lit (.string bytes) => bytes.length + 1
  | .lit _ => 1
  | .nil => 1
  | .ptr d => uptoBulk d + 1
  | .slice elems spare => uptoBulkAll elems + uptoBulkAll spare + 1
  | .agg parts => uptoBulkAll parts + 1
  | .iface _ d => uptoBulk d + 1
  | .map entries => uptoBulkEntries entries + 1
  | .held _ => 1
def uptoBulkAll {H : Type} : List (DataW H) → Nat
  | [] => 0
  | d :: r => uptoBulk d + uptoBulkAll r
def uptoBulkEntries {H : Type} : List (Lit × DataW H) → Nat
  | [] => 0
  | x :: r => uptoBulkEntry x + uptoBulkEntries r
def uptoBulkEntry {H : Type} : Lit × DataW H → Nat
  | (.string bytes, d) => bytes.length + uptoBulk d + 1
  | (_, d) => uptoBulk d + 1
 end
def uptoSmall : (H : Type) → List (DataW H) → Bool := fun _ ds => decide (uptoBulkAll ds ≤ 1048576)
def OpenSpec.upto (s : _root_.Go.ChangeSpec) : _root_.Go.OpenSpec := { _root_.Go.OpenSpec.ofChange s with cond := some uptoSmall }

/-- 'waybilllaw5.ContSizes', WHERE WHAT IT READS IS OF BULK AT MOST 1048576: true; the input reads as it did. -/
def contSizesUptoRow : OpenClaim := { program := "ytpjkaodbcclecaa", sum := "5964a13afef7fa1214ea363d0df8f164a792ba71f111d85e01d85f64fffa7df1", func := "waybill/waybilllaw5.ContSizes", spec := "contSizes", apart := false, narrowed := true }
def ContSizesUptoSaid : Prop := contSizesUptoRow.holds Try.pinned (OpenSpec.upto contSizesSpec)

/-- 'waybilllaw5.ContFlags', WHERE WHAT IT READS IS OF BULK AT MOST 1048576: true; the input reads as it did. -/
def contFlagsUptoRow : OpenClaim := { program := "ytpjkaodbcclecaa", sum := "5964a13afef7fa1214ea363d0df8f164a792ba71f111d85e01d85f64fffa7df1", func := "waybill/waybilllaw5.ContFlags", spec := "contFlags", apart := false, narrowed := true }
def ContFlagsUptoSaid : Prop := contFlagsUptoRow.holds Try.pinned (OpenSpec.upto contFlagsSpec)

/-- 'waybilllaw13.UnitBounds', WHERE WHAT IT READS IS OF BULK AT MOST 1048576: true; the input reads as it did. -/
def unitBoundsUptoRow : OpenClaim := { program := "ytpjkaodbcclecaa", sum := "5964a13afef7fa1214ea363d0df8f164a792ba71f111d85e01d85f64fffa7df1", func := "waybill/waybilllaw13.UnitBounds", spec := "unitBounds", apart := false, narrowed := true }
def UnitBoundsUptoSaid : Prop := unitBoundsUptoRow.holds Try.pinned (OpenSpec.upto unitBoundsSpec)

/-- 'waybilllaw13.UnitTells', WHERE WHAT IT READS IS OF BULK AT MOST 1048576: true; the input reads as it did. -/
def unitTellsUptoRow : OpenClaim := { program := "ytpjkaodbcclecaa", sum := "5964a13afef7fa1214ea363d0df8f164a792ba71f111d85e01d85f64fffa7df1", func := "waybill/waybilllaw13.UnitTells", spec := "unitTells", apart := false, narrowed := true }
def UnitTellsUptoSaid : Prop := unitTellsUptoRow.holds Try.pinned (OpenSpec.upto unitTellsSpec)

/-- 'waybilllaw13.UnitPlaces', WHERE WHAT IT READS IS OF BULK AT MOST 1048576: true; the input reads as it did. -/
def unitPlacesUptoRow : OpenClaim := { program := "ytpjkaodbcclecaa", sum := "5964a13afef7fa1214ea363d0df8f164a792ba71f111d85e01d85f64fffa7df1", func := "waybill/waybilllaw13.UnitPlaces", spec := "unitPlaces", apart := false, narrowed := true }
def UnitPlacesUptoSaid : Prop := unitPlacesUptoRow.holds Try.pinned (OpenSpec.upto unitPlacesSpec)

/-- 'waybilllaw5.ContTells', WHERE WHAT IT READS IS OF BULK AT MOST 1048576: true; the input reads as it did. -/
def contTellsUptoRow : OpenClaim := { program := "ytpjkaodbcclecaa", sum := "5964a13afef7fa1214ea363d0df8f164a792ba71f111d85e01d85f64fffa7df1", func := "waybill/waybilllaw5.ContTells", spec := "contTells", apart := false, narrowed := true }
def ContTellsUptoSaid : Prop := contTellsUptoRow.holds Try.pinned (OpenSpec.upto contTellsSpec)

/-- 'waybilllaw13.UnitApplies', WHERE WHAT IT READS IS OF BULK AT MOST 1048576: true; the input reads as it did. -/
def unitAppliesUptoRow : OpenClaim := { program := "ytpjkaodbcclecaa", sum := "5964a13afef7fa1214ea363d0df8f164a792ba71f111d85e01d85f64fffa7df1", func := "waybill/waybilllaw13.UnitApplies", spec := "unitApplies", apart := false, narrowed := true }
def UnitAppliesUptoSaid : Prop := unitAppliesUptoRow.holds Try.pinned (OpenSpec.upto unitAppliesSpec)

/-- 'waybilllaw12.KeysParts', WHERE WHAT IT READS IS OF BULK AT MOST 1048576: true; the input reads as it did. -/
def keysPartsUptoRow : OpenClaim := { program := "ytpjkaodbcclecaa", sum := "5964a13afef7fa1214ea363d0df8f164a792ba71f111d85e01d85f64fffa7df1", func := "waybill/waybilllaw12.KeysParts", spec := "keysParts", apart := false, narrowed := true }
def KeysPartsUptoSaid : Prop := keysPartsUptoRow.holds Try.pinned (OpenSpec.upto keysPartsSpec)

/-- 'waybilllaw12.KeysTells', WHERE WHAT IT READS IS OF BULK AT MOST 1048576: true; the input reads as it did. -/
def keysTellsUptoRow : OpenClaim := { program := "ytpjkaodbcclecaa", sum := "5964a13afef7fa1214ea363d0df8f164a792ba71f111d85e01d85f64fffa7df1", func := "waybill/waybilllaw12.KeysTells", spec := "keysTells", apart := false, narrowed := true }
def KeysTellsUptoSaid : Prop := keysTellsUptoRow.holds Try.pinned (OpenSpec.upto keysTellsSpec)

/-- 'waybilllaw12.KeysBack', WHERE WHAT IT READS IS OF BULK AT MOST 1048576: true; the input reads as it did. -/
def keysBackUptoRow : OpenClaim := { program := "ytpjkaodbcclecaa", sum := "5964a13afef7fa1214ea363d0df8f164a792ba71f111d85e01d85f64fffa7df1", func := "waybill/waybilllaw12.KeysBack", spec := "keysBack", apart := false, narrowed := true }
def KeysBackUptoSaid : Prop := keysBackUptoRow.holds Try.pinned (OpenSpec.upto keysBackSpec)

/-- 'waybilllaw12.KeysOrder', WHERE WHAT IT READS IS OF BULK AT MOST 1048576: true; the input reads as it did. -/
def keysOrderUptoRow : OpenClaim := { program := "ytpjkaodbcclecaa", sum := "5964a13afef7fa1214ea363d0df8f164a792ba71f111d85e01d85f64fffa7df1", func := "waybill/waybilllaw12.KeysOrder", spec := "keysOrder", apart := false, narrowed := true }
def KeysOrderUptoSaid : Prop := keysOrderUptoRow.holds Try.pinned (OpenSpec.upto keysOrderSpec)

/-- 'waybilllaw5.ContBack', WHERE WHAT IT READS IS OF BULK AT MOST 1048576: true; the input reads as it did. -/
def contBackUptoRow : OpenClaim := { program := "ytpjkaodbcclecaa", sum := "5964a13afef7fa1214ea363d0df8f164a792ba71f111d85e01d85f64fffa7df1", func := "waybill/waybilllaw5.ContBack", spec := "contBack", apart := false, narrowed := true }
def ContBackUptoSaid : Prop := contBackUptoRow.holds Try.pinned (OpenSpec.upto contBackSpec)

end Rows
end Go.Proofs.Ytpjkaodbcclecaa
