/-
  NARROWER THAN 'FOR EVERY INPUT', by the rows' own cells (each row's printed sentence says how): TablTells: loops · TablBack: loops.
  DERIVED. THE GIVEN ROWS OF THIS SEAT. 8 by the template 'for every input the law returns true; each argument reads behind the call as it read before'; 0 by the template 'total and deterministic' (their statements: YtfhaffpegncdiaaTotals.lean).
  GIVEN WITH THE SEED: the statements are not yours to turn. If you find one false, say at which input.
  Laid BY PROGRAM, IN A SANDBOX (cutbox-rows.mjs): the forced cells as the released guide's own fill.sh prints them over the translation ed463a7130414f5d… (all of the seat's roots in one cut). By AI agents, Wed Nov 11 2026. No macro, syntax, notation, axiom, sorry.
-/
import Derived.Test.YtfhaffpegncdiaaChecked
import GoSem.Claim
import GoSem.ClaimJoined
import GoSem.ClaimMapViews
import Derived.JoinedTies
import Derived.KernelRfl
namespace Go.Proofs.Ytfhaffpegncdiaa
/- THE CELL 'sum', in the pinned program and in every row, IS THE sha256 OF THE DUMP (.gsa) THAT YtfhaffpegncdiaaProg.lean LOADS. Nothing in Lean hashes anything: it is a label: what it is worth is what the hold of that sum in a sandbox is worth. -/
noncomputable def Try.pinned : Pinned := { name := "ytfhaffpegncdiaa", sum := "ed463a7130414f5d7caebdf8d440e6392178b31c73cbd44087a466cdd4be582b", checked := Try.checked }
namespace Rows
def none {H : Type} : Left H := { results := [], args := [] }

/-- 'waybilllaw2.TablLong': WHATEVER THE INPUT: true; the input reads as it did. -/
def tablLongSpec : ChangeSpec := { name := "tablLong", fn := fun _ => fun
  | [d] => { results := [.lit (.bool true)], args := [d] }
  | _ => none }
def tablLongRow : OpenClaim := { program := "ytfhaffpegncdiaa", sum := "ed463a7130414f5d7caebdf8d440e6392178b31c73cbd44087a466cdd4be582b", func := "waybill/waybilllaw2.TablLong", spec := "tablLong", recurses := true, apart := false }
def TablLongSaid : Prop := tablLongRow.holds Try.pinned (OpenSpec.ofChange tablLongSpec)

/-- ITS FALSE NEIGHBOUR: 'it returns false'. Refute it at one input. -/
def tablLongWrong : ChangeSpec := { name := "tablLong", fn := fun _ => fun
  | [d] => { results := [.lit (.bool false)], args := [d] }
  | _ => none }
def TablLongWrongFalsely : Prop := tablLongRow.holds Try.pinned (OpenSpec.ofChange tablLongWrong)

/-- 'waybilllaw2.TablTells': WHATEVER THE INPUT: true; the input reads as it did. -/
def tablTellsSpec : ChangeSpec := { name := "tablTells", fn := fun _ => fun
  | [d1, d2, d3, d4, d5] => { results := [.lit (.bool true)], args := [d1, d2, d3, d4, d5] }
  | _ => none }
def tablTellsRow : OpenClaim := { program := "ytfhaffpegncdiaa", sum := "ed463a7130414f5d7caebdf8d440e6392178b31c73cbd44087a466cdd4be582b", func := "waybill/waybilllaw2.TablTells", spec := "tablTells", recurses := true, loops := true, apart := false }
def TablTellsSaid : Prop := tablTellsRow.holds Try.pinned (OpenSpec.ofChange tablTellsSpec)

/-- ITS FALSE NEIGHBOUR: 'it returns false'. Refute it at one input. -/
def tablTellsWrong : ChangeSpec := { name := "tablTells", fn := fun _ => fun
  | [d1, d2, d3, d4, d5] => { results := [.lit (.bool false)], args := [d1, d2, d3, d4, d5] }
  | _ => none }
def TablTellsWrongFalsely : Prop := tablTellsRow.holds Try.pinned (OpenSpec.ofChange tablTellsWrong)

/-- 'waybilllaw2.TablBack': WHATEVER THE INPUT: true; the input reads as it did. -/
def tablBackSpec : ChangeSpec := { name := "tablBack", fn := fun _ => fun
  | [d1, d2] => { results := [.lit (.bool true)], args := [d1, d2] }
  | _ => none }
def tablBackRow : OpenClaim := { program := "ytfhaffpegncdiaa", sum := "ed463a7130414f5d7caebdf8d440e6392178b31c73cbd44087a466cdd4be582b", func := "waybill/waybilllaw2.TablBack", spec := "tablBack", recurses := true, loops := true, apart := false }
def TablBackSaid : Prop := tablBackRow.holds Try.pinned (OpenSpec.ofChange tablBackSpec)

/-- ITS FALSE NEIGHBOUR: 'it returns false'. Refute it at one input. -/
def tablBackWrong : ChangeSpec := { name := "tablBack", fn := fun _ => fun
  | [d1, d2] => { results := [.lit (.bool false)], args := [d1, d2] }
  | _ => none }
def TablBackWrongFalsely : Prop := tablBackRow.holds Try.pinned (OpenSpec.ofChange tablBackWrong)

/-- 'waybilllaw2.TablDeep': WHATEVER THE INPUT: true; the input reads as it did. -/
def tablDeepSpec : ChangeSpec := { name := "tablDeep", fn := fun _ => fun
  | [d1, d2, d3] => { results := [.lit (.bool true)], args := [d1, d2, d3] }
  | _ => none }
def tablDeepRow : OpenClaim := { program := "ytfhaffpegncdiaa", sum := "ed463a7130414f5d7caebdf8d440e6392178b31c73cbd44087a466cdd4be582b", func := "waybill/waybilllaw2.TablDeep", spec := "tablDeep", recurses := true, apart := false }
def TablDeepSaid : Prop := tablDeepRow.holds Try.pinned (OpenSpec.ofChange tablDeepSpec)

/-- ITS FALSE NEIGHBOUR: 'it returns false'. Refute it at one input. -/
def tablDeepWrong : ChangeSpec := { name := "tablDeep", fn := fun _ => fun
  | [d1, d2, d3] => { results := [.lit (.bool false)], args := [d1, d2, d3] }
  | _ => none }
def TablDeepWrongFalsely : Prop := tablDeepRow.holds Try.pinned (OpenSpec.ofChange tablDeepWrong)

/-- 'waybilllaw10.NodeBounds': WHATEVER THE INPUT: true; the input reads as it did. -/
def nodeBoundsSpec : ChangeSpec := { name := "nodeBounds", fn := fun _ => fun
  | [d1, d2, d3, d4] => { results := [.lit (.bool true)], args := [d1, d2, d3, d4] }
  | _ => none }
def nodeBoundsRow : OpenClaim := { program := "ytfhaffpegncdiaa", sum := "ed463a7130414f5d7caebdf8d440e6392178b31c73cbd44087a466cdd4be582b", func := "waybill/waybilllaw10.NodeBounds", spec := "nodeBounds", inPlace := ["internal/bytealg.abigen_runtime_cmpstring"], unfollowed := true, recurses := true, apart := false }
def NodeBoundsSaid : Prop := nodeBoundsRow.holds Try.pinned (OpenSpec.ofChange nodeBoundsSpec)

/-- ITS FALSE NEIGHBOUR: 'it returns false'. Refute it at one input. -/
def nodeBoundsWrong : ChangeSpec := { name := "nodeBounds", fn := fun _ => fun
  | [d1, d2, d3, d4] => { results := [.lit (.bool false)], args := [d1, d2, d3, d4] }
  | _ => none }
def NodeBoundsWrongFalsely : Prop := nodeBoundsRow.holds Try.pinned (OpenSpec.ofChange nodeBoundsWrong)

/-- 'waybilllaw10.NodeTells': WHATEVER THE INPUT: true; the input reads as it did. -/
def nodeTellsSpec : ChangeSpec := { name := "nodeTells", fn := fun _ => fun
  | [d1, d2, d3, d4, d5] => { results := [.lit (.bool true)], args := [d1, d2, d3, d4, d5] }
  | _ => none }
def nodeTellsRow : OpenClaim := { program := "ytfhaffpegncdiaa", sum := "ed463a7130414f5d7caebdf8d440e6392178b31c73cbd44087a466cdd4be582b", func := "waybill/waybilllaw10.NodeTells", spec := "nodeTells", inPlace := ["internal/bytealg.abigen_runtime_cmpstring"], unfollowed := true, recurses := true, apart := false }
def NodeTellsSaid : Prop := nodeTellsRow.holds Try.pinned (OpenSpec.ofChange nodeTellsSpec)

/-- ITS FALSE NEIGHBOUR: 'it returns false'. Refute it at one input. -/
def nodeTellsWrong : ChangeSpec := { name := "nodeTells", fn := fun _ => fun
  | [d1, d2, d3, d4, d5] => { results := [.lit (.bool false)], args := [d1, d2, d3, d4, d5] }
  | _ => none }
def NodeTellsWrongFalsely : Prop := nodeTellsRow.holds Try.pinned (OpenSpec.ofChange nodeTellsWrong)

/-- 'waybilllaw10.NodeBack': WHATEVER THE INPUT: true; the input reads as it did. -/
def nodeBackSpec : ChangeSpec := { name := "nodeBack", fn := fun _ => fun
  | [d1, d2] => { results := [.lit (.bool true)], args := [d1, d2] }
  | _ => none }
def nodeBackRow : OpenClaim := { program := "ytfhaffpegncdiaa", sum := "ed463a7130414f5d7caebdf8d440e6392178b31c73cbd44087a466cdd4be582b", func := "waybill/waybilllaw10.NodeBack", spec := "nodeBack", inPlace := ["internal/bytealg.abigen_runtime_cmpstring"], unfollowed := true, recurses := true, apart := false }
def NodeBackSaid : Prop := nodeBackRow.holds Try.pinned (OpenSpec.ofChange nodeBackSpec)

/-- ITS FALSE NEIGHBOUR: 'it returns false'. Refute it at one input. -/
def nodeBackWrong : ChangeSpec := { name := "nodeBack", fn := fun _ => fun
  | [d1, d2] => { results := [.lit (.bool false)], args := [d1, d2] }
  | _ => none }
def NodeBackWrongFalsely : Prop := nodeBackRow.holds Try.pinned (OpenSpec.ofChange nodeBackWrong)

/-- 'waybilllaw10.NodeFind': WHATEVER THE INPUT: true; the input reads as it did. -/
def nodeFindSpec : ChangeSpec := { name := "nodeFind", fn := fun _ => fun
  | [d1, d2] => { results := [.lit (.bool true)], args := [d1, d2] }
  | _ => none }
def nodeFindRow : OpenClaim := { program := "ytfhaffpegncdiaa", sum := "ed463a7130414f5d7caebdf8d440e6392178b31c73cbd44087a466cdd4be582b", func := "waybill/waybilllaw10.NodeFind", spec := "nodeFind", inPlace := ["internal/bytealg.abigen_runtime_cmpstring"], unfollowed := true, recurses := true, apart := false }
def NodeFindSaid : Prop := nodeFindRow.holds Try.pinned (OpenSpec.ofChange nodeFindSpec)

/-- ITS FALSE NEIGHBOUR: 'it returns false'. Refute it at one input. -/
def nodeFindWrong : ChangeSpec := { name := "nodeFind", fn := fun _ => fun
  | [d1, d2] => { results := [.lit (.bool false)], args := [d1, d2] }
  | _ => none }
def NodeFindWrongFalsely : Prop := nodeFindRow.holds Try.pinned (OpenSpec.ofChange nodeFindWrong)

/- THE SECOND FORM. 'bulk': how many values and letters a reading holds, each counted each time it is reached (what is shared counts as often as it is met; a slice's spare places count too). A statement '..UptoSaid' is the law's where the arguments, and the package variables that the reading takes, are together of bulk at most 1048576: NARROWER than '..Said'. Prove '..Said' where nothing that the law and all that it calls make is longer than what came in: it says more and counts as full. Else prove '..UptoSaid'. A law counts once. -/
mutual
def uptoBulk {H : Type} : DataW H → Nat
  | .lit (.string bytes) => bytes.length + 1
  | .lit _ => 1
  | .nil => 1
  | .ptr d => uptoBulk d + 1
  | .slice elems spare => uptoBulkAll elems + uptoBulkAll spare + 1
  | .agg parts => uptoBulkAll parts + 1
  | .iface _ d => uptoBulk d + 1
  | .map entries => uptoBulkEntries entries + 1
  | .held _ => 1
def uptoBulkAll {H : Type} : List (DataW H) → Nat
  | [] => 0
  | d :: r => uptoBulk d + uptoBulkAll r
def uptoBulkEntries {H : Type} : List (Lit × DataW H) → Nat
  | [] => 0
  | x :: r => uptoBulkEntry x + uptoBulkEntries r
def uptoBulkEntry {H : Type} : Lit × DataW H → Nat
  | (.string bytes, d) => bytes.length + uptoBulk d + 1
  | (_, d) => uptoBulk d + 1
 end
def uptoSmall : (H : Type) → List (DataW H) → Bool := fun _ ds => decide (uptoBulkAll ds ≤ 1048576)
def OpenSpec.upto (s : _root_.Go.ChangeSpec) : _root_.Go.OpenSpec := { _root_.Go.OpenSpec.ofChange s with cond := some uptoSmall }

/-- 'waybilllaw2.TablLong', WHERE WHAT IT READS IS OF BULK AT MOST 1048576: true; the input reads as it did. -/
def tablLongUptoRow : OpenClaim := { program := "ytfhaffpegncdiaa", sum := "ed463a7130414f5d7caebdf8d440e6392178b31c73cbd44087a466cdd4be582b", func := "waybill/waybilllaw2.TablLong", spec := "tablLong", recurses := true, apart := false, narrowed := true }
def TablLongUptoSaid : Prop := tablLongUptoRow.holds Try.pinned (OpenSpec.upto tablLongSpec)

/-- 'waybilllaw2.TablTells', WHERE WHAT IT READS IS OF BULK AT MOST 1048576: true; the input reads as it did. -/
def tablTellsUptoRow : OpenClaim := { program := "ytfhaffpegncdiaa", sum := "ed463a7130414f5d7caebdf8d440e6392178b31c73cbd44087a466cdd4be582b", func := "waybill/waybilllaw2.TablTells", spec := "tablTells", recurses := true, loops := true, apart := false, narrowed := true }
def TablTellsUptoSaid : Prop := tablTellsUptoRow.holds Try.pinned (OpenSpec.upto tablTellsSpec)

/-- 'waybilllaw2.TablBack', WHERE WHAT IT READS IS OF BULK AT MOST 1048576: true; the input reads as it did. -/
def tablBackUptoRow : OpenClaim := { program := "ytfhaffpegncdiaa", sum := "ed463a7130414f5d7caebdf8d440e6392178b31c73cbd44087a466cdd4be582b", func := "waybill/waybilllaw2.TablBack", spec := "tablBack", recurses := true, loops := true, apart := false, narrowed := true }
def TablBackUptoSaid : Prop := tablBackUptoRow.holds Try.pinned (OpenSpec.upto tablBackSpec)

/-- 'waybilllaw2.TablDeep', WHERE WHAT IT READS IS OF BULK AT MOST 1048576: true; the input reads as it did. -/
def tablDeepUptoRow : OpenClaim := { program := "ytfhaffpegncdiaa", sum := "ed463a7130414f5d7caebdf8d440e6392178b31c73cbd44087a466cdd4be582b", func := "waybill/waybilllaw2.TablDeep", spec := "tablDeep", recurses := true, apart := false, narrowed := true }
def TablDeepUptoSaid : Prop := tablDeepUptoRow.holds Try.pinned (OpenSpec.upto tablDeepSpec)

/-- 'waybilllaw10.NodeBounds', WHERE WHAT IT READS IS OF BULK AT MOST 1048576: true; the input reads as it did. -/
def nodeBoundsUptoRow : OpenClaim := { program := "ytfhaffpegncdiaa", sum := "ed463a7130414f5d7caebdf8d440e6392178b31c73cbd44087a466cdd4be582b", func := "waybill/waybilllaw10.NodeBounds", spec := "nodeBounds", inPlace := ["internal/bytealg.abigen_runtime_cmpstring"], unfollowed := true, recurses := true, apart := false, narrowed := true }
def NodeBoundsUptoSaid : Prop := nodeBoundsUptoRow.holds Try.pinned (OpenSpec.upto nodeBoundsSpec)

/-- 'waybilllaw10.NodeTells', WHERE WHAT IT READS IS OF BULK AT MOST 1048576: true; the input reads as it did. -/
def nodeTellsUptoRow : OpenClaim := { program := "ytfhaffpegncdiaa", sum := "ed463a7130414f5d7caebdf8d440e6392178b31c73cbd44087a466cdd4be582b", func := "waybill/waybilllaw10.NodeTells", spec := "nodeTells", inPlace := ["internal/bytealg.abigen_runtime_cmpstring"], unfollowed := true, recurses := true, apart := false, narrowed := true }
def NodeTellsUptoSaid : Prop := nodeTellsUptoRow.holds Try.pinned (OpenSpec.upto nodeTellsSpec)

/-- 'waybilllaw10.NodeBack', WHERE WHAT IT READS IS OF BULK AT MOST 1048576: true; the input reads as it did. -/
def nodeBackUptoRow : OpenClaim := { program := "ytfhaffpegncdiaa", sum := "ed463a7130414f5d7caebdf8d440e6392178b31c73cbd44087a466cdd4be582b", func := "waybill/waybilllaw10.NodeBack", spec := "nodeBack", inPlace := ["internal/bytealg.abigen_runtime_cmpstring"], unfollowed := true, recurses := true, apart := false, narrowed := true }
def NodeBackUptoSaid : Prop := nodeBackUptoRow.holds Try.pinned (OpenSpec.upto nodeBackSpec)

/-- 'waybilllaw10.NodeFind', WHERE WHAT IT READS IS OF BULK AT MOST 1048576: true; the input reads as it did. -/
def nodeFindUptoRow : OpenClaim := { program := "ytfhaffpegncdiaa", sum := "ed463a7130414f5d7caebdf8d440e6392178b31c73cbd44087a466cdd4be582b", func := "waybill/waybilllaw10.NodeFind", spec := "nodeFind", inPlace := ["internal/bytealg.abigen_runtime_cmpstring"], unfollowed := true, recurses := true, apart := false, narrowed := true }
def NodeFindUptoSaid : Prop := nodeFindUptoRow.holds Try.pinned (OpenSpec.upto nodeFindSpec)

end Rows
end Go.Proofs.Ytfhaffpegncdiaa
