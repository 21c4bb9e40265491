/-
  No cell of these rows narrows 'for every input' (looked for: loops, veiled, ifaces, maps, wideKeys, modest, calm, conditions, laid).
  DERIVED. THE GIVEN ROWS OF THIS SEAT. 12 by the template 'for every input the law returns true; each argument reads behind the call as it read before'; 0 by the template 'total and deterministic' (their statements: YtlhcjgmdcnmnnaaTotals.lean).
  GIVEN WITH THE SEED: the statements are not yours to turn. If you find one false, say at which input.
  Laid BY PROGRAM, IN A SANDBOX (cutbox-rows.mjs): the forced cells as the released guide's own fill.sh prints them over the translation dea13758f12e6bd7… (all of the seat's roots in one cut). By AI agents, Wed Nov 11 2026. No macro, syntax, notation, axiom, sorry.
-/
import Derived.Test.YtlhcjgmdcnmnnaaChecked
import GoSem.Claim
import GoSem.ClaimJoined
import GoSem.ClaimMapViews
import Derived.JoinedTies
import Derived.KernelRfl
namespace Go.Proofs.Ytlhcjgmdcnmnnaa
/- THE CELL 'sum', in the pinned program and in every row, IS THE sha256 OF THE DUMP (.gsa) THAT YtlhcjgmdcnmnnaaProg.lean LOADS. Nothing in Lean hashes anything: it is a label: what it is worth is what the hold of that sum in a sandbox is worth. -/
noncomputable def Try.pinned : Pinned := { name := "ytlhcjgmdcnmnnaa", sum := "dea13758f12e6bd7277604b66a000c0bd7442c5051c1612dfaed55108e11cfdf", checked := Try.checked }
namespace Rows
def none {H : Type} : Left H := { results := [], args := [] }

/-- 'waybilllaw22.TxnsOff': WHATEVER THE INPUT: true; the input reads as it did. -/
def txnsOffSpec : ChangeSpec := { name := "txnsOff", fn := fun _ => fun
  | [d1, d2] => { results := [.lit (.bool true)], args := [d1, d2] }
  | _ => none }
def txnsOffRow : OpenClaim := { program := "ytlhcjgmdcnmnnaa", sum := "dea13758f12e6bd7277604b66a000c0bd7442c5051c1612dfaed55108e11cfdf", func := "waybill/waybilllaw22.TxnsOff", spec := "txnsOff", apart := false }
def TxnsOffSaid : Prop := txnsOffRow.holds Try.pinned (OpenSpec.ofChange txnsOffSpec)

/-- ITS FALSE NEIGHBOUR: 'it returns false'. Refute it at one input. -/
def txnsOffWrong : ChangeSpec := { name := "txnsOff", fn := fun _ => fun
  | [d1, d2] => { results := [.lit (.bool false)], args := [d1, d2] }
  | _ => none }
def TxnsOffWrongFalsely : Prop := txnsOffRow.holds Try.pinned (OpenSpec.ofChange txnsOffWrong)

/-- 'waybilllaw22.TxnsPlays': WHATEVER THE INPUT: true; the input reads as it did. -/
def txnsPlaysSpec : ChangeSpec := { name := "txnsPlays", fn := fun _ => fun
  | [d] => { results := [.lit (.bool true)], args := [d] }
  | _ => none }
def txnsPlaysRow : OpenClaim := { program := "ytlhcjgmdcnmnnaa", sum := "dea13758f12e6bd7277604b66a000c0bd7442c5051c1612dfaed55108e11cfdf", func := "waybill/waybilllaw22.TxnsPlays", spec := "txnsPlays", apart := false }
def TxnsPlaysSaid : Prop := txnsPlaysRow.holds Try.pinned (OpenSpec.ofChange txnsPlaysSpec)

/-- ITS FALSE NEIGHBOUR: 'it returns false'. Refute it at one input. -/
def txnsPlaysWrong : ChangeSpec := { name := "txnsPlays", fn := fun _ => fun
  | [d] => { results := [.lit (.bool false)], args := [d] }
  | _ => none }
def TxnsPlaysWrongFalsely : Prop := txnsPlaysRow.holds Try.pinned (OpenSpec.ofChange txnsPlaysWrong)

/-- 'waybilllaw1.OctsBits': WHATEVER THE INPUT: true; the input reads as it did. -/
def octsBitsSpec : ChangeSpec := { name := "octsBits", fn := fun _ => fun
  | [d1, d2] => { results := [.lit (.bool true)], args := [d1, d2] }
  | _ => none }
def octsBitsRow : OpenClaim := { program := "ytlhcjgmdcnmnnaa", sum := "dea13758f12e6bd7277604b66a000c0bd7442c5051c1612dfaed55108e11cfdf", func := "waybill/waybilllaw1.OctsBits", spec := "octsBits", apart := false }
def OctsBitsSaid : Prop := octsBitsRow.holds Try.pinned (OpenSpec.ofChange octsBitsSpec)

/-- ITS FALSE NEIGHBOUR: 'it returns false'. Refute it at one input. -/
def octsBitsWrong : ChangeSpec := { name := "octsBits", fn := fun _ => fun
  | [d1, d2] => { results := [.lit (.bool false)], args := [d1, d2] }
  | _ => none }
def OctsBitsWrongFalsely : Prop := octsBitsRow.holds Try.pinned (OpenSpec.ofChange octsBitsWrong)

/-- 'waybilllaw1.OctsOrder': WHATEVER THE INPUT: true; the input reads as it did. -/
def octsOrderSpec : ChangeSpec := { name := "octsOrder", fn := fun _ => fun
  | [d1, d2, d3] => { results := [.lit (.bool true)], args := [d1, d2, d3] }
  | _ => none }
def octsOrderRow : OpenClaim := { program := "ytlhcjgmdcnmnnaa", sum := "dea13758f12e6bd7277604b66a000c0bd7442c5051c1612dfaed55108e11cfdf", func := "waybill/waybilllaw1.OctsOrder", spec := "octsOrder", apart := false }
def OctsOrderSaid : Prop := octsOrderRow.holds Try.pinned (OpenSpec.ofChange octsOrderSpec)

/-- ITS FALSE NEIGHBOUR: 'it returns false'. Refute it at one input. -/
def octsOrderWrong : ChangeSpec := { name := "octsOrder", fn := fun _ => fun
  | [d1, d2, d3] => { results := [.lit (.bool false)], args := [d1, d2, d3] }
  | _ => none }
def OctsOrderWrongFalsely : Prop := octsOrderRow.holds Try.pinned (OpenSpec.ofChange octsOrderWrong)

/-- 'waybilllaw1.OctsReads': WHATEVER THE INPUT: true; the input reads as it did. -/
def octsReadsSpec : ChangeSpec := { name := "octsReads", fn := fun _ => fun
  | [d1, d2] => { results := [.lit (.bool true)], args := [d1, d2] }
  | _ => none }
def octsReadsRow : OpenClaim := { program := "ytlhcjgmdcnmnnaa", sum := "dea13758f12e6bd7277604b66a000c0bd7442c5051c1612dfaed55108e11cfdf", func := "waybill/waybilllaw1.OctsReads", spec := "octsReads", apart := false }
def OctsReadsSaid : Prop := octsReadsRow.holds Try.pinned (OpenSpec.ofChange octsReadsSpec)

/-- ITS FALSE NEIGHBOUR: 'it returns false'. Refute it at one input. -/
def octsReadsWrong : ChangeSpec := { name := "octsReads", fn := fun _ => fun
  | [d1, d2] => { results := [.lit (.bool false)], args := [d1, d2] }
  | _ => none }
def OctsReadsWrongFalsely : Prop := octsReadsRow.holds Try.pinned (OpenSpec.ofChange octsReadsWrong)

/-- 'waybilllaw1.OctsCuts': WHATEVER THE INPUT: true; the input reads as it did. -/
def octsCutsSpec : ChangeSpec := { name := "octsCuts", fn := fun _ => fun
  | [d1, d2, d3] => { results := [.lit (.bool true)], args := [d1, d2, d3] }
  | _ => none }
def octsCutsRow : OpenClaim := { program := "ytlhcjgmdcnmnnaa", sum := "dea13758f12e6bd7277604b66a000c0bd7442c5051c1612dfaed55108e11cfdf", func := "waybill/waybilllaw1.OctsCuts", spec := "octsCuts", apart := false }
def OctsCutsSaid : Prop := octsCutsRow.holds Try.pinned (OpenSpec.ofChange octsCutsSpec)

/-- ITS FALSE NEIGHBOUR: 'it returns false'. Refute it at one input. -/
def octsCutsWrong : ChangeSpec := { name := "octsCuts", fn := fun _ => fun
  | [d1, d2, d3] => { results := [.lit (.bool false)], args := [d1, d2, d3] }
  | _ => none }
def OctsCutsWrongFalsely : Prop := octsCutsRow.holds Try.pinned (OpenSpec.ofChange octsCutsWrong)

/-- 'waybilllaw1.OctsBack': WHATEVER THE INPUT: true; the input reads as it did. -/
def octsBackSpec : ChangeSpec := { name := "octsBack", fn := fun _ => fun
  | [d1, d2, d3, d4, d5] => { results := [.lit (.bool true)], args := [d1, d2, d3, d4, d5] }
  | _ => none }
def octsBackRow : OpenClaim := { program := "ytlhcjgmdcnmnnaa", sum := "dea13758f12e6bd7277604b66a000c0bd7442c5051c1612dfaed55108e11cfdf", func := "waybill/waybilllaw1.OctsBack", spec := "octsBack", apart := false }
def OctsBackSaid : Prop := octsBackRow.holds Try.pinned (OpenSpec.ofChange octsBackSpec)

/-- ITS FALSE NEIGHBOUR: 'it returns false'. Refute it at one input. -/
def octsBackWrong : ChangeSpec := { name := "octsBack", fn := fun _ => fun
  | [d1, d2, d3, d4, d5] => { results := [.lit (.bool false)], args := [d1, d2, d3, d4, d5] }
  | _ => none }
def OctsBackWrongFalsely : Prop := octsBackRow.holds Try.pinned (OpenSpec.ofChange octsBackWrong)

/-- 'waybilllaw3.FramRows': WHATEVER THE INPUT: true; the input reads as it did. -/
def framRowsSpec : ChangeSpec := { name := "framRows", fn := fun _ => fun
  | [d] => { results := [.lit (.bool true)], args := [d] }
  | _ => none }
def framRowsRow : OpenClaim := { program := "ytlhcjgmdcnmnnaa", sum := "dea13758f12e6bd7277604b66a000c0bd7442c5051c1612dfaed55108e11cfdf", func := "waybill/waybilllaw3.FramRows", spec := "framRows", apart := false }
def FramRowsSaid : Prop := framRowsRow.holds Try.pinned (OpenSpec.ofChange framRowsSpec)

/-- ITS FALSE NEIGHBOUR: 'it returns false'. Refute it at one input. -/
def framRowsWrong : ChangeSpec := { name := "framRows", fn := fun _ => fun
  | [d] => { results := [.lit (.bool false)], args := [d] }
  | _ => none }
def FramRowsWrongFalsely : Prop := framRowsRow.holds Try.pinned (OpenSpec.ofChange framRowsWrong)

/-- 'waybilllaw3.FramSize': WHATEVER THE INPUT: true; the input reads as it did. -/
def framSizeSpec : ChangeSpec := { name := "framSize", fn := fun _ => fun
  | [d1, d2, d3] => { results := [.lit (.bool true)], args := [d1, d2, d3] }
  | _ => none }
def framSizeRow : OpenClaim := { program := "ytlhcjgmdcnmnnaa", sum := "dea13758f12e6bd7277604b66a000c0bd7442c5051c1612dfaed55108e11cfdf", func := "waybill/waybilllaw3.FramSize", spec := "framSize", apart := false }
def FramSizeSaid : Prop := framSizeRow.holds Try.pinned (OpenSpec.ofChange framSizeSpec)

/-- ITS FALSE NEIGHBOUR: 'it returns false'. Refute it at one input. -/
def framSizeWrong : ChangeSpec := { name := "framSize", fn := fun _ => fun
  | [d1, d2, d3] => { results := [.lit (.bool false)], args := [d1, d2, d3] }
  | _ => none }
def FramSizeWrongFalsely : Prop := framSizeRow.holds Try.pinned (OpenSpec.ofChange framSizeWrong)

/-- 'waybilllaw3.FramTells': WHATEVER THE INPUT: true; the input reads as it did. -/
def framTellsSpec : ChangeSpec := { name := "framTells", fn := fun _ => fun
  | [d1, d2, d3, d4, d5] => { results := [.lit (.bool true)], args := [d1, d2, d3, d4, d5] }
  | _ => none }
def framTellsRow : OpenClaim := { program := "ytlhcjgmdcnmnnaa", sum := "dea13758f12e6bd7277604b66a000c0bd7442c5051c1612dfaed55108e11cfdf", func := "waybill/waybilllaw3.FramTells", spec := "framTells", apart := false }
def FramTellsSaid : Prop := framTellsRow.holds Try.pinned (OpenSpec.ofChange framTellsSpec)

/-- ITS FALSE NEIGHBOUR: 'it returns false'. Refute it at one input. -/
def framTellsWrong : ChangeSpec := { name := "framTells", fn := fun _ => fun
  | [d1, d2, d3, d4, d5] => { results := [.lit (.bool false)], args := [d1, d2, d3, d4, d5] }
  | _ => none }
def FramTellsWrongFalsely : Prop := framTellsRow.holds Try.pinned (OpenSpec.ofChange framTellsWrong)

/-- 'waybilllaw3.FramCuts': WHATEVER THE INPUT: true; the input reads as it did. -/
def framCutsSpec : ChangeSpec := { name := "framCuts", fn := fun _ => fun
  | [d1, d2] => { results := [.lit (.bool true)], args := [d1, d2] }
  | _ => none }
def framCutsRow : OpenClaim := { program := "ytlhcjgmdcnmnnaa", sum := "dea13758f12e6bd7277604b66a000c0bd7442c5051c1612dfaed55108e11cfdf", func := "waybill/waybilllaw3.FramCuts", spec := "framCuts", apart := false }
def FramCutsSaid : Prop := framCutsRow.holds Try.pinned (OpenSpec.ofChange framCutsSpec)

/-- ITS FALSE NEIGHBOUR: 'it returns false'. Refute it at one input. -/
def framCutsWrong : ChangeSpec := { name := "framCuts", fn := fun _ => fun
  | [d1, d2] => { results := [.lit (.bool false)], args := [d1, d2] }
  | _ => none }
def FramCutsWrongFalsely : Prop := framCutsRow.holds Try.pinned (OpenSpec.ofChange framCutsWrong)

/-- 'waybilllaw3.FramWrong': WHATEVER THE INPUT: true; the input reads as it did. -/
def framWrongSpec : ChangeSpec := { name := "framWrong", fn := fun _ => fun
  | [d1, d2, d3] => { results := [.lit (.bool true)], args := [d1, d2, d3] }
  | _ => none }
def framWrongRow : OpenClaim := { program := "ytlhcjgmdcnmnnaa", sum := "dea13758f12e6bd7277604b66a000c0bd7442c5051c1612dfaed55108e11cfdf", func := "waybill/waybilllaw3.FramWrong", spec := "framWrong", apart := false }
def FramWrongSaid : Prop := framWrongRow.holds Try.pinned (OpenSpec.ofChange framWrongSpec)

/-- ITS FALSE NEIGHBOUR: 'it returns false'. Refute it at one input. -/
def framWrongWrong : ChangeSpec := { name := "framWrong", fn := fun _ => fun
  | [d1, d2, d3] => { results := [.lit (.bool false)], args := [d1, d2, d3] }
  | _ => none }
def FramWrongWrongFalsely : Prop := framWrongRow.holds Try.pinned (OpenSpec.ofChange framWrongWrong)

/- THE SECOND FORM. 'bulk': how many values and letters a reading holds, each counted each time it is reached (what is shared counts as often as it is met; a slice's spare places count too). A statement '..UptoSaid' is the law's where the arguments, and the package variables that the reading takes, are together of bulk at most 1048576: NARROWER than '..Said'. Prove '..Said' where nothing that the law and all that it calls make is longer than what came in: it says more and counts as full. Else prove '..UptoSaid'. A law counts once. -/
mutual
def uptoBulk {H : Type} : DataW H → Nat
  | .lit (.string bytes) => bytes.length + 1
  | .lit _ => 1
  | .nil => 1
  | .ptr d => uptoBulk d + 1
  | .slice elems spare => uptoBulkAll elems + uptoBulkAll spare + 1
  | .agg parts => uptoBulkAll parts + 1
  | .iface _ d => uptoBulk d + 1
  | .map entries => uptoBulkEntries entries + 1
  | .held _ => 1
def uptoBulkAll {H : Type} : List (DataW H) → Nat
  | [] => 0
  | d :: r => uptoBulk d + uptoBulkAll r
def uptoBulkEntries {H : Type} : List (Lit × DataW H) → Nat
  | [] => 0
  | x :: r => uptoBulkEntry x + uptoBulkEntries r
def uptoBulkEntry {H : Type} : Lit × DataW H → Nat
  | (.string bytes, d) => bytes.length + uptoBulk d + 1
  | (_, d) => uptoBulk d + 1
 end
def uptoSmall : (H : Type) → List (DataW H) → Bool := fun _ ds => decide (uptoBulkAll ds ≤ 1048576)
def OpenSpec.upto (s : _root_.Go.ChangeSpec) : _root_.Go.OpenSpec := { _root_.Go.OpenSpec.ofChange s with cond := some uptoSmall }

/-- 'waybilllaw22.TxnsOff', WHERE WHAT IT READS IS OF BULK AT MOST 1048576: true; the input reads as it did. -/
def txnsOffUptoRow : OpenClaim := { program := "ytlhcjgmdcnmnnaa", sum := "dea13758f12e6bd7277604b66a000c0bd7442c5051c1612dfaed55108e11cfdf", func := "waybill/waybilllaw22.TxnsOff", spec := "txnsOff", apart := false, narrowed := true }
def TxnsOffUptoSaid : Prop := txnsOffUptoRow.holds Try.pinned (OpenSpec.upto txnsOffSpec)

/-- 'waybilllaw22.TxnsPlays', WHERE WHAT IT READS IS OF BULK AT MOST 1048576: true; the input reads as it did. -/
def txnsPlaysUptoRow : OpenClaim := { program := "ytlhcjgmdcnmnnaa", sum := "dea13758f12e6bd7277604b66a000c0bd7442c5051c1612dfaed55108e11cfdf", func := "waybill/waybilllaw22.TxnsPlays", spec := "txnsPlays", apart := false, narrowed := true }
def TxnsPlaysUptoSaid : Prop := txnsPlaysUptoRow.holds Try.pinned (OpenSpec.upto txnsPlaysSpec)

/-- 'waybilllaw1.OctsBits', WHERE WHAT IT READS IS OF BULK AT MOST 1048576: true; the input reads as it did. -/
def octsBitsUptoRow : OpenClaim := { program := "ytlhcjgmdcnmnnaa", sum := "dea13758f12e6bd7277604b66a000c0bd7442c5051c1612dfaed55108e11cfdf", func := "waybill/waybilllaw1.OctsBits", spec := "octsBits", apart := false, narrowed := true }
def OctsBitsUptoSaid : Prop := octsBitsUptoRow.holds Try.pinned (OpenSpec.upto octsBitsSpec)

/-- 'waybilllaw1.OctsOrder', WHERE WHAT IT READS IS OF BULK AT MOST 1048576: true; the input reads as it did. -/
def octsOrderUptoRow : OpenClaim := { program := "ytlhcjgmdcnmnnaa", sum := "dea13758f12e6bd7277604b66a000c0bd7442c5051c1612dfaed55108e11cfdf", func := "waybill/waybilllaw1.OctsOrder", spec := "octsOrder", apart := false, narrowed := true }
def OctsOrderUptoSaid : Prop := octsOrderUptoRow.holds Try.pinned (OpenSpec.upto octsOrderSpec)

/-- 'waybilllaw1.OctsReads', WHERE WHAT IT READS IS OF BULK AT MOST 1048576: true; the input reads as it did. -/
def octsReadsUptoRow : OpenClaim := { program := "ytlhcjgmdcnmnnaa", sum := "dea13758f12e6bd7277604b66a000c0bd7442c5051c1612dfaed55108e11cfdf", func := "waybill/waybilllaw1.OctsReads", spec := "octsReads", apart := false, narrowed := true }
def OctsReadsUptoSaid : Prop := octsReadsUptoRow.holds Try.pinned (OpenSpec.upto octsReadsSpec)

/-- 'waybilllaw1.OctsCuts', WHERE WHAT IT READS IS OF BULK AT MOST 1048576: true; the input reads as it did. -/
def octsCutsUptoRow : OpenClaim := { program := "ytlhcjgmdcnmnnaa", sum := "dea13758f12e6bd7277604b66a000c0bd7442c5051c1612dfaed55108e11cfdf", func := "waybill/waybilllaw1.OctsCuts", spec := "octsCuts", apart := false, narrowed := true }
def OctsCutsUptoSaid : Prop := octsCutsUptoRow.holds Try.pinned (OpenSpec.upto octsCutsSpec)

/-- 'waybilllaw1.OctsBack', WHERE WHAT IT READS IS OF BULK AT MOST 1048576: true; the input reads as it did. -/
def octsBackUptoRow : OpenClaim := { program := "ytlhcjgmdcnmnnaa", sum := "dea13758f12e6bd7277604b66a000c0bd7442c5051c1612dfaed55108e11cfdf", func := "waybill/waybilllaw1.OctsBack", spec := "octsBack", apart := false, narrowed := true }
def OctsBackUptoSaid : Prop := octsBackUptoRow.holds Try.pinned (OpenSpec.upto octsBackSpec)

/-- 'waybilllaw3.FramRows', WHERE WHAT IT READS IS OF BULK AT MOST 1048576: true; the input reads as it did. -/
def framRowsUptoRow : OpenClaim := { program := "ytlhcjgmdcnmnnaa", sum := "dea13758f12e6bd7277604b66a000c0bd7442c5051c1612dfaed55108e11cfdf", func := "waybill/waybilllaw3.FramRows", spec := "framRows", apart := false, narrowed := true }
def FramRowsUptoSaid : Prop := framRowsUptoRow.holds Try.pinned (OpenSpec.upto framRowsSpec)

/-- 'waybilllaw3.FramSize', WHERE WHAT IT READS IS OF BULK AT MOST 1048576: true; the input reads as it did. -/
def framSizeUptoRow : OpenClaim := { program := "ytlhcjgmdcnmnnaa", sum := "dea13758f12e6bd7277604b66a000c0bd7442c5051c1612dfaed55108e11cfdf", func := "waybill/waybilllaw3.FramSize", spec := "framSize", apart := false, narrowed := true }
def FramSizeUptoSaid : Prop := framSizeUptoRow.holds Try.pinned (OpenSpec.upto framSizeSpec)

/-- 'waybilllaw3.FramTells', WHERE WHAT IT READS IS OF BULK AT MOST 1048576: true; the input reads as it did. -/
def framTellsUptoRow : OpenClaim := { program := "ytlhcjgmdcnmnnaa", sum := "dea13758f12e6bd7277604b66a000c0bd7442c5051c1612dfaed55108e11cfdf", func := "waybill/waybilllaw3.FramTells", spec := "framTells", apart := false, narrowed := true }
def FramTellsUptoSaid : Prop := framTellsUptoRow.holds Try.pinned (OpenSpec.upto framTellsSpec)

/-- 'waybilllaw3.FramCuts', WHERE WHAT IT READS IS OF BULK AT MOST 1048576: true; the input reads as it did. -/
def framCutsUptoRow : OpenClaim := { program := "ytlhcjgmdcnmnnaa", sum := "dea13758f12e6bd7277604b66a000c0bd7442c5051c1612dfaed55108e11cfdf", func := "waybill/waybilllaw3.FramCuts", spec := "framCuts", apart := false, narrowed := true }
def FramCutsUptoSaid : Prop := framCutsUptoRow.holds Try.pinned (OpenSpec.upto framCutsSpec)

/-- 'waybilllaw3.FramWrong', WHERE WHAT IT READS IS OF BULK AT MOST 1048576: true; the input reads as it did. -/
def framWrongUptoRow : OpenClaim := { program := "ytlhcjgmdcnmnnaa", sum := "dea13758f12e6bd7277604b66a000c0bd7442c5051c1612dfaed55108e11cfdf", func := "waybill/waybilllaw3.FramWrong", spec := "framWrong", apart := false, narrowed := true }
def FramWrongUptoSaid : Prop := framWrongUptoRow.holds Try.pinned (OpenSpec.upto framWrongSpec)

end Rows
end Go.Proofs.Ytlhcjgmdcnmnnaa
