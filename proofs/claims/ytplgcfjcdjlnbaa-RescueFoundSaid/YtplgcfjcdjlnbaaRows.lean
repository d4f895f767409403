/-
  No cell of these rows narrows 'for every input' (looked for: loops, veiled, ifaces, maps, wideKeys, modest, calm, conditions, laid).
  DERIVED. THE GIVEN ROWS OF THIS SEAT. 18 by the template 'for every input the law returns true; each argument reads behind the call as it read before'; 0 by the template 'total and deterministic' (their statements: YtplgcfjcdjlnbaaTotals.lean).
  GIVEN WITH THE SEED: the statements are not yours to turn. If you find one false, say at which input.
  Laid BY PROGRAM, IN A SANDBOX (cutbox-rows.mjs): the forced cells as the released guide's own fill.sh prints them over the translation 9789c41e6713a930… (all of the seat's roots in one cut). By AI agents, Wed Nov 11 2026. No macro, syntax, notation, axiom, sorry.
-/
import Derived.Test.YtplgcfjcdjlnbaaChecked
import GoSem.Claim
import GoSem.ClaimJoined
import GoSem.ClaimMapViews
import Derived.JoinedTies
import Derived.KernelRfl
namespace Go.Proofs.Ytplgcfjcdjlnbaa
/- THE CELL 'sum', in the pinned program and in every row, IS THE sha256 OF THE DUMP (.gsa) THAT YtplgcfjcdjlnbaaProg.lean LOADS. Nothing in Lean hashes anything: it is a label: what it is worth is what the hold of that sum in a sandbox is worth. -/
noncomputable def Try.pinned : Pinned := { name := "ytplgcfjcdjlnbaa", sum := "9789c41e6713a930a252cb2e5a635a1492fb4ae46884ebd2cbf890919f88aa39", checked := Try.checked }
namespace Rows
def none {H : Type} : Left H := { results := [], args := [] }

/-- 'landfalllaw34.RecPuts': WHATEVER THE INPUT: true; the input reads as it did. -/
def recPutsSpec : ChangeSpec := { name := "recPuts", fn := fun _ => fun
  | [d1, d2] => { results := [.lit (.bool true)], args := [d1, d2] }
  | _ => none }
def recPutsRow : OpenClaim := { program := "ytplgcfjcdjlnbaa", sum := "9789c41e6713a930a252cb2e5a635a1492fb4ae46884ebd2cbf890919f88aa39", func := "landfall/landfalllaw34.RecPuts", spec := "recPuts", unfollowed := true, recurses := true, apart := false }
def RecPutsSaid : Prop := recPutsRow.holds Try.pinned (OpenSpec.ofChange recPutsSpec)

/-- ITS FALSE NEIGHBOUR: 'it returns false'. Refute it at one input. -/
def recPutsWrong : ChangeSpec := { name := "recPuts", fn := fun _ => fun
  | [d1, d2] => { results := [.lit (.bool false)], args := [d1, d2] }
  | _ => none }
def RecPutsWrongFalsely : Prop := recPutsRow.holds Try.pinned (OpenSpec.ofChange recPutsWrong)

/-- 'landfalllaw34.RecSize': WHATEVER THE INPUT: true; the input reads as it did. -/
def recSizeSpec : ChangeSpec := { name := "recSize", fn := fun _ => fun
  | [d1, d2, d3] => { results := [.lit (.bool true)], args := [d1, d2, d3] }
  | _ => none }
def recSizeRow : OpenClaim := { program := "ytplgcfjcdjlnbaa", sum := "9789c41e6713a930a252cb2e5a635a1492fb4ae46884ebd2cbf890919f88aa39", func := "landfall/landfalllaw34.RecSize", spec := "recSize", unfollowed := true, recurses := true, apart := false }
def RecSizeSaid : Prop := recSizeRow.holds Try.pinned (OpenSpec.ofChange recSizeSpec)

/-- ITS FALSE NEIGHBOUR: 'it returns false'. Refute it at one input. -/
def recSizeWrong : ChangeSpec := { name := "recSize", fn := fun _ => fun
  | [d1, d2, d3] => { results := [.lit (.bool false)], args := [d1, d2, d3] }
  | _ => none }
def RecSizeWrongFalsely : Prop := recSizeRow.holds Try.pinned (OpenSpec.ofChange recSizeWrong)

/-- 'landfalllaw34.RecTakes': WHATEVER THE INPUT: true; the input reads as it did. -/
def recTakesSpec : ChangeSpec := { name := "recTakes", fn := fun _ => fun
  | [d1, d2] => { results := [.lit (.bool true)], args := [d1, d2] }
  | _ => none }
def recTakesRow : OpenClaim := { program := "ytplgcfjcdjlnbaa", sum := "9789c41e6713a930a252cb2e5a635a1492fb4ae46884ebd2cbf890919f88aa39", func := "landfall/landfalllaw34.RecTakes", spec := "recTakes", unfollowed := true, recurses := true, apart := false }
def RecTakesSaid : Prop := recTakesRow.holds Try.pinned (OpenSpec.ofChange recTakesSpec)

/-- ITS FALSE NEIGHBOUR: 'it returns false'. Refute it at one input. -/
def recTakesWrong : ChangeSpec := { name := "recTakes", fn := fun _ => fun
  | [d1, d2] => { results := [.lit (.bool false)], args := [d1, d2] }
  | _ => none }
def RecTakesWrongFalsely : Prop := recTakesRow.holds Try.pinned (OpenSpec.ofChange recTakesWrong)

/-- 'landfalllaw34.RecBack': WHATEVER THE INPUT: true; the input reads as it did. -/
def recBackSpec : ChangeSpec := { name := "recBack", fn := fun _ => fun
  | [d1, d2, d3] => { results := [.lit (.bool true)], args := [d1, d2, d3] }
  | _ => none }
def recBackRow : OpenClaim := { program := "ytplgcfjcdjlnbaa", sum := "9789c41e6713a930a252cb2e5a635a1492fb4ae46884ebd2cbf890919f88aa39", func := "landfall/landfalllaw34.RecBack", spec := "recBack", unfollowed := true, recurses := true, apart := false }
def RecBackSaid : Prop := recBackRow.holds Try.pinned (OpenSpec.ofChange recBackSpec)

/-- ITS FALSE NEIGHBOUR: 'it returns false'. Refute it at one input. -/
def recBackWrong : ChangeSpec := { name := "recBack", fn := fun _ => fun
  | [d1, d2, d3] => { results := [.lit (.bool false)], args := [d1, d2, d3] }
  | _ => none }
def RecBackWrongFalsely : Prop := recBackRow.holds Try.pinned (OpenSpec.ofChange recBackWrong)

/-- 'landfalllaw35.BlockPuts': WHATEVER THE INPUT: true; the input reads as it did. -/
def blockPutsSpec : ChangeSpec := { name := "blockPuts", fn := fun _ => fun
  | [d1, d2] => { results := [.lit (.bool true)], args := [d1, d2] }
  | _ => none }
def blockPutsRow : OpenClaim := { program := "ytplgcfjcdjlnbaa", sum := "9789c41e6713a930a252cb2e5a635a1492fb4ae46884ebd2cbf890919f88aa39", func := "landfall/landfalllaw35.BlockPuts", spec := "blockPuts", unfollowed := true, recurses := true, apart := false }
def BlockPutsSaid : Prop := blockPutsRow.holds Try.pinned (OpenSpec.ofChange blockPutsSpec)

/-- ITS FALSE NEIGHBOUR: 'it returns false'. Refute it at one input. -/
def blockPutsWrong : ChangeSpec := { name := "blockPuts", fn := fun _ => fun
  | [d1, d2] => { results := [.lit (.bool false)], args := [d1, d2] }
  | _ => none }
def BlockPutsWrongFalsely : Prop := blockPutsRow.holds Try.pinned (OpenSpec.ofChange blockPutsWrong)

/-- 'landfalllaw35.BlockTakes': WHATEVER THE INPUT: true; the input reads as it did. -/
def blockTakesSpec : ChangeSpec := { name := "blockTakes", fn := fun _ => fun
  | [d] => { results := [.lit (.bool true)], args := [d] }
  | _ => none }
def blockTakesRow : OpenClaim := { program := "ytplgcfjcdjlnbaa", sum := "9789c41e6713a930a252cb2e5a635a1492fb4ae46884ebd2cbf890919f88aa39", func := "landfall/landfalllaw35.BlockTakes", spec := "blockTakes", unfollowed := true, recurses := true, apart := false }
def BlockTakesSaid : Prop := blockTakesRow.holds Try.pinned (OpenSpec.ofChange blockTakesSpec)

/-- ITS FALSE NEIGHBOUR: 'it returns false'. Refute it at one input. -/
def blockTakesWrong : ChangeSpec := { name := "blockTakes", fn := fun _ => fun
  | [d] => { results := [.lit (.bool false)], args := [d] }
  | _ => none }
def BlockTakesWrongFalsely : Prop := blockTakesRow.holds Try.pinned (OpenSpec.ofChange blockTakesWrong)

/-- 'landfalllaw35.BlockBack': WHATEVER THE INPUT: true; the input reads as it did. -/
def blockBackSpec : ChangeSpec := { name := "blockBack", fn := fun _ => fun
  | [d1, d2] => { results := [.lit (.bool true)], args := [d1, d2] }
  | _ => none }
def blockBackRow : OpenClaim := { program := "ytplgcfjcdjlnbaa", sum := "9789c41e6713a930a252cb2e5a635a1492fb4ae46884ebd2cbf890919f88aa39", func := "landfall/landfalllaw35.BlockBack", spec := "blockBack", unfollowed := true, recurses := true, apart := false }
def BlockBackSaid : Prop := blockBackRow.holds Try.pinned (OpenSpec.ofChange blockBackSpec)

/-- ITS FALSE NEIGHBOUR: 'it returns false'. Refute it at one input. -/
def blockBackWrong : ChangeSpec := { name := "blockBack", fn := fun _ => fun
  | [d1, d2] => { results := [.lit (.bool false)], args := [d1, d2] }
  | _ => none }
def BlockBackWrongFalsely : Prop := blockBackRow.holds Try.pinned (OpenSpec.ofChange blockBackWrong)

/-- 'landfalllaw35.BlockBurst': WHATEVER THE INPUT: true; the input reads as it did. -/
def blockBurstSpec : ChangeSpec := { name := "blockBurst", fn := fun _ => fun
  | [d1, d2, d3] => { results := [.lit (.bool true)], args := [d1, d2, d3] }
  | _ => none }
def blockBurstRow : OpenClaim := { program := "ytplgcfjcdjlnbaa", sum := "9789c41e6713a930a252cb2e5a635a1492fb4ae46884ebd2cbf890919f88aa39", func := "landfall/landfalllaw35.BlockBurst", spec := "blockBurst", unfollowed := true, recurses := true, apart := false }
def BlockBurstSaid : Prop := blockBurstRow.holds Try.pinned (OpenSpec.ofChange blockBurstSpec)

/-- ITS FALSE NEIGHBOUR: 'it returns false'. Refute it at one input. -/
def blockBurstWrong : ChangeSpec := { name := "blockBurst", fn := fun _ => fun
  | [d1, d2, d3] => { results := [.lit (.bool false)], args := [d1, d2, d3] }
  | _ => none }
def BlockBurstWrongFalsely : Prop := blockBurstRow.holds Try.pinned (OpenSpec.ofChange blockBurstWrong)

/-- 'landfalllaw36.FlogWrites': WHATEVER THE INPUT: true; the input reads as it did. -/
def flogWritesSpec : ChangeSpec := { name := "flogWrites", fn := fun _ => fun
  | [d1, d2] => { results := [.lit (.bool true)], args := [d1, d2] }
  | _ => none }
def flogWritesRow : OpenClaim := { program := "ytplgcfjcdjlnbaa", sum := "9789c41e6713a930a252cb2e5a635a1492fb4ae46884ebd2cbf890919f88aa39", func := "landfall/landfalllaw36.FlogWrites", spec := "flogWrites", unfollowed := true, recurses := true, apart := false }
def FlogWritesSaid : Prop := flogWritesRow.holds Try.pinned (OpenSpec.ofChange flogWritesSpec)

/-- ITS FALSE NEIGHBOUR: 'it returns false'. Refute it at one input. -/
def flogWritesWrong : ChangeSpec := { name := "flogWrites", fn := fun _ => fun
  | [d1, d2] => { results := [.lit (.bool false)], args := [d1, d2] }
  | _ => none }
def FlogWritesWrongFalsely : Prop := flogWritesRow.holds Try.pinned (OpenSpec.ofChange flogWritesWrong)

/-- 'landfalllaw36.FlogLog': WHATEVER THE INPUT: true; the input reads as it did. -/
def flogLogSpec : ChangeSpec := { name := "flogLog", fn := fun _ => fun
  | [d1, d2] => { results := [.lit (.bool true)], args := [d1, d2] }
  | _ => none }
def flogLogRow : OpenClaim := { program := "ytplgcfjcdjlnbaa", sum := "9789c41e6713a930a252cb2e5a635a1492fb4ae46884ebd2cbf890919f88aa39", func := "landfall/landfalllaw36.FlogLog", spec := "flogLog", unfollowed := true, recurses := true, apart := false }
def FlogLogSaid : Prop := flogLogRow.holds Try.pinned (OpenSpec.ofChange flogLogSpec)

/-- ITS FALSE NEIGHBOUR: 'it returns false'. Refute it at one input. -/
def flogLogWrong : ChangeSpec := { name := "flogLog", fn := fun _ => fun
  | [d1, d2] => { results := [.lit (.bool false)], args := [d1, d2] }
  | _ => none }
def FlogLogWrongFalsely : Prop := flogLogRow.holds Try.pinned (OpenSpec.ofChange flogLogWrong)

/-- 'landfalllaw36.FlogPlays': WHATEVER THE INPUT: true; the input reads as it did. -/
def flogPlaysSpec : ChangeSpec := { name := "flogPlays", fn := fun _ => fun
  | [d1, d2] => { results := [.lit (.bool true)], args := [d1, d2] }
  | _ => none }
def flogPlaysRow : OpenClaim := { program := "ytplgcfjcdjlnbaa", sum := "9789c41e6713a930a252cb2e5a635a1492fb4ae46884ebd2cbf890919f88aa39", func := "landfall/landfalllaw36.FlogPlays", spec := "flogPlays", unfollowed := true, recurses := true, apart := false }
def FlogPlaysSaid : Prop := flogPlaysRow.holds Try.pinned (OpenSpec.ofChange flogPlaysSpec)

/-- ITS FALSE NEIGHBOUR: 'it returns false'. Refute it at one input. -/
def flogPlaysWrong : ChangeSpec := { name := "flogPlays", fn := fun _ => fun
  | [d1, d2] => { results := [.lit (.bool false)], args := [d1, d2] }
  | _ => none }
def FlogPlaysWrongFalsely : Prop := flogPlaysRow.holds Try.pinned (OpenSpec.ofChange flogPlaysWrong)

/-- 'landfalllaw36.FlogNil': WHATEVER THE INPUT: true; the input reads as it did. -/
def flogNilSpec : ChangeSpec := { name := "flogNil", fn := fun _ => fun
  | [d] => { results := [.lit (.bool true)], args := [d] }
  | _ => none }
def flogNilRow : OpenClaim := { program := "ytplgcfjcdjlnbaa", sum := "9789c41e6713a930a252cb2e5a635a1492fb4ae46884ebd2cbf890919f88aa39", func := "landfall/landfalllaw36.FlogNil", spec := "flogNil", unfollowed := true, recurses := true, apart := false }
def FlogNilSaid : Prop := flogNilRow.holds Try.pinned (OpenSpec.ofChange flogNilSpec)

/-- ITS FALSE NEIGHBOUR: 'it returns false'. Refute it at one input. -/
def flogNilWrong : ChangeSpec := { name := "flogNil", fn := fun _ => fun
  | [d] => { results := [.lit (.bool false)], args := [d] }
  | _ => none }
def FlogNilWrongFalsely : Prop := flogNilRow.holds Try.pinned (OpenSpec.ofChange flogNilWrong)

/-- 'landfalllaw37.RescueReads': WHATEVER THE INPUT: true; the input reads as it did. -/
def rescueReadsSpec : ChangeSpec := { name := "rescueReads", fn := fun _ => fun
  | [d1, d2] => { results := [.lit (.bool true)], args := [d1, d2] }
  | _ => none }
def rescueReadsRow : OpenClaim := { program := "ytplgcfjcdjlnbaa", sum := "9789c41e6713a930a252cb2e5a635a1492fb4ae46884ebd2cbf890919f88aa39", func := "landfall/landfalllaw37.RescueReads", spec := "rescueReads", unfollowed := true, recurses := true, apart := false }
def RescueReadsSaid : Prop := rescueReadsRow.holds Try.pinned (OpenSpec.ofChange rescueReadsSpec)

/-- ITS FALSE NEIGHBOUR: 'it returns false'. Refute it at one input. -/
def rescueReadsWrong : ChangeSpec := { name := "rescueReads", fn := fun _ => fun
  | [d1, d2] => { results := [.lit (.bool false)], args := [d1, d2] }
  | _ => none }
def RescueReadsWrongFalsely : Prop := rescueReadsRow.holds Try.pinned (OpenSpec.ofChange rescueReadsWrong)

/-- 'landfalllaw37.RescueTrue': WHATEVER THE INPUT: true; the input reads as it did. -/
def rescueTrueSpec : ChangeSpec := { name := "rescueTrue", fn := fun _ => fun
  | [d1, d2, d3] => { results := [.lit (.bool true)], args := [d1, d2, d3] }
  | _ => none }
def rescueTrueRow : OpenClaim := { program := "ytplgcfjcdjlnbaa", sum := "9789c41e6713a930a252cb2e5a635a1492fb4ae46884ebd2cbf890919f88aa39", func := "landfall/landfalllaw37.RescueTrue", spec := "rescueTrue", unfollowed := true, recurses := true, apart := false }
def RescueTrueSaid : Prop := rescueTrueRow.holds Try.pinned (OpenSpec.ofChange rescueTrueSpec)

/-- ITS FALSE NEIGHBOUR: 'it returns false'. Refute it at one input. -/
def rescueTrueWrong : ChangeSpec := { name := "rescueTrue", fn := fun _ => fun
  | [d1, d2, d3] => { results := [.lit (.bool false)], args := [d1, d2, d3] }
  | _ => none }
def RescueTrueWrongFalsely : Prop := rescueTrueRow.holds Try.pinned (OpenSpec.ofChange rescueTrueWrong)

/-- 'landfalllaw37.RescueCut': WHATEVER THE INPUT: true; the input reads as it did. -/
def rescueCutSpec : ChangeSpec := { name := "rescueCut", fn := fun _ => fun
  | [d1, d2, d3] => { results := [.lit (.bool true)], args := [d1, d2, d3] }
  | _ => none }
def rescueCutRow : OpenClaim := { program := "ytplgcfjcdjlnbaa", sum := "9789c41e6713a930a252cb2e5a635a1492fb4ae46884ebd2cbf890919f88aa39", func := "landfall/landfalllaw37.RescueCut", spec := "rescueCut", unfollowed := true, recurses := true, apart := false }
def RescueCutSaid : Prop := rescueCutRow.holds Try.pinned (OpenSpec.ofChange rescueCutSpec)

/-- ITS FALSE NEIGHBOUR: 'it returns false'. Refute it at one input. -/
def rescueCutWrong : ChangeSpec := { name := "rescueCut", fn := fun _ => fun
  | [d1, d2, d3] => { results := [.lit (.bool false)], args := [d1, d2, d3] }
  | _ => none }
def RescueCutWrongFalsely : Prop := rescueCutRow.holds Try.pinned (OpenSpec.ofChange rescueCutWrong)

/-- 'landfalllaw37.RescueBurst': WHATEVER THE INPUT: true; the input reads as it did. -/
def rescueBurstSpec : ChangeSpec := { name := "rescueBurst", fn := fun _ => fun
  | [d1, d2, d3, d4, d5] => { results := [.lit (.bool true)], args := [d1, d2, d3, d4, d5] }
  | _ => none }
def rescueBurstRow : OpenClaim := { program := "ytplgcfjcdjlnbaa", sum := "9789c41e6713a930a252cb2e5a635a1492fb4ae46884ebd2cbf890919f88aa39", func := "landfall/landfalllaw37.RescueBurst", spec := "rescueBurst", unfollowed := true, recurses := true, apart := false }
def RescueBurstSaid : Prop := rescueBurstRow.holds Try.pinned (OpenSpec.ofChange rescueBurstSpec)

/-- ITS FALSE NEIGHBOUR: 'it returns false'. Refute it at one input. -/
def rescueBurstWrong : ChangeSpec := { name := "rescueBurst", fn := fun _ => fun
  | [d1, d2, d3, d4, d5] => { results := [.lit (.bool false)], args := [d1, d2, d3, d4, d5] }
  | _ => none }
def RescueBurstWrongFalsely : Prop := rescueBurstRow.holds Try.pinned (OpenSpec.ofChange rescueBurstWrong)

/-- 'landfalllaw37.RescueScans': WHATEVER THE INPUT: true; the input reads as it did. -/
def rescueScansSpec : ChangeSpec := { name := "rescueScans", fn := fun _ => fun
  | [d] => { results := [.lit (.bool true)], args := [d] }
  | _ => none }
def rescueScansRow : OpenClaim := { program := "ytplgcfjcdjlnbaa", sum := "9789c41e6713a930a252cb2e5a635a1492fb4ae46884ebd2cbf890919f88aa39", func := "landfall/landfalllaw37.RescueScans", spec := "rescueScans", unfollowed := true, recurses := true, apart := false }
def RescueScansSaid : Prop := rescueScansRow.holds Try.pinned (OpenSpec.ofChange rescueScansSpec)

/-- ITS FALSE NEIGHBOUR: 'it returns false'. Refute it at one input. -/
def rescueScansWrong : ChangeSpec := { name := "rescueScans", fn := fun _ => fun
  | [d] => { results := [.lit (.bool false)], args := [d] }
  | _ => none }
def RescueScansWrongFalsely : Prop := rescueScansRow.holds Try.pinned (OpenSpec.ofChange rescueScansWrong)

/-- 'landfalllaw37.RescueFound': WHATEVER THE INPUT: true; the input reads as it did. -/
def rescueFoundSpec : ChangeSpec := { name := "rescueFound", fn := fun _ => fun
  | [d1, d2, d3] => { results := [.lit (.bool true)], args := [d1, d2, d3] }
  | _ => none }
def rescueFoundRow : OpenClaim := { program := "ytplgcfjcdjlnbaa", sum := "9789c41e6713a930a252cb2e5a635a1492fb4ae46884ebd2cbf890919f88aa39", func := "landfall/landfalllaw37.RescueFound", spec := "rescueFound", unfollowed := true, recurses := true, apart := false }
def RescueFoundSaid : Prop := rescueFoundRow.holds Try.pinned (OpenSpec.ofChange rescueFoundSpec)

/-- ITS FALSE NEIGHBOUR: 'it returns false'. Refute it at one input. -/
def rescueFoundWrong : ChangeSpec := { name := "rescueFound", fn := fun _ => fun
  | [d1, d2, d3] => { results := [.lit (.bool false)], args := [d1, d2, d3] }
  | _ => none }
def RescueFoundWrongFalsely : Prop := rescueFoundRow.holds Try.pinned (OpenSpec.ofChange rescueFoundWrong)

/- THE SECOND FORM. 'bulk': how many values and letters a reading holds, each counted each time it is reached (what is shared counts as often as it is met; a slice's spare places count too). A statement '..UptoSaid' is the law's where the arguments, and the package variables that the reading takes, are together of bulk at most 1048576: NARROWER than '..Said'. Prove '..Said' where nothing that the law and all that it calls make is longer than what came in: it says more and counts as full. Else prove '..UptoSaid'. A law counts once. -/
mutual
def uptoBulk {H : Type} : DataW H → Nat
  | .lit (.string bytes) => bytes.length + 1
  | .lit _ => 1
  | .nil => 1
  | .ptr d => uptoBulk d + 1
  | .slice elems spare => uptoBulkAll elems + uptoBulkAll spare + 1
  | .agg parts => uptoBulkAll parts + 1
  | .iface _ d => uptoBulk d + 1
  | .map entries => uptoBulkEntries entries + 1
  | .held _ => 1
def uptoBulkAll {H : Type} : List (DataW H) → Nat
  | [] => 0
  | d :: r => uptoBulk d + uptoBulkAll r
def uptoBulkEntries {H : Type} : List (Lit × DataW H) → Nat
  | [] => 0
  | x :: r => uptoBulkEntry x + uptoBulkEntries r
def uptoBulkEntry {H : Type} : Lit × DataW H → Nat
  | (.string bytes, d) => bytes.length + uptoBulk d + 1
  | (_, d) => uptoBulk d + 1
 end
def uptoSmall : (H : Type) → List (DataW H) → Bool := fun _ ds => decide (uptoBulkAll ds ≤ 1048576)
def OpenSpec.upto (s : _root_.Go.ChangeSpec) : _root_.Go.OpenSpec := { _root_.Go.OpenSpec.ofChange s with cond := some uptoSmall }

/-- 'landfalllaw34.RecPuts', WHERE WHAT IT READS IS OF BULK AT MOST 1048576: true; the input reads as it did. -/
def recPutsUptoRow : OpenClaim := { program := "ytplgcfjcdjlnbaa", sum := "9789c41e6713a930a252cb2e5a635a1492fb4ae46884ebd2cbf890919f88aa39", func := "landfall/landfalllaw34.RecPuts", spec := "recPuts", unfollowed := true, recurses := true, apart := false, narrowed := true }
def RecPutsUptoSaid : Prop := recPutsUptoRow.holds Try.pinned (OpenSpec.upto recPutsSpec)

/-- 'landfalllaw34.RecSize', WHERE WHAT IT READS IS OF BULK AT MOST 1048576: true; the input reads as it did. -/
def recSizeUptoRow : OpenClaim := { program := "ytplgcfjcdjlnbaa", sum := "9789c41e6713a930a252cb2e5a635a1492fb4ae46884ebd2cbf890919f88aa39", func := "landfall/landfalllaw34.RecSize", spec := "recSize", unfollowed := true, recurses := true, apart := false, narrowed := true }
def RecSizeUptoSaid : Prop := recSizeUptoRow.holds Try.pinned (OpenSpec.upto recSizeSpec)

/-- 'landfalllaw34.RecTakes', WHERE WHAT IT READS IS OF BULK AT MOST 1048576: true; the input reads as it did. -/
def recTakesUptoRow : OpenClaim := { program := "ytplgcfjcdjlnbaa", sum := "9789c41e6713a930a252cb2e5a635a1492fb4ae46884ebd2cbf890919f88aa39", func := "landfall/landfalllaw34.RecTakes", spec := "recTakes", unfollowed := true, recurses := true, apart := false, narrowed := true }
def RecTakesUptoSaid : Prop := recTakesUptoRow.holds Try.pinned (OpenSpec.upto recTakesSpec)

/-- 'landfalllaw34.RecBack', WHERE WHAT IT READS IS OF BULK AT MOST 1048576: true; the input reads as it did. -/
def recBackUptoRow : OpenClaim := { program := "ytplgcfjcdjlnbaa", sum := "9789c41e6713a930a252cb2e5a635a1492fb4ae46884ebd2cbf890919f88aa39", func := "landfall/landfalllaw34.RecBack", spec := "recBack", unfollowed := true, recurses := true, apart := false, narrowed := true }
def RecBackUptoSaid : Prop := recBackUptoRow.holds Try.pinned (OpenSpec.upto recBackSpec)

/-- 'landfalllaw35.BlockPuts', WHERE WHAT IT READS IS OF BULK AT MOST 1048576: true; the input reads as it did. -/
def blockPutsUptoRow : OpenClaim := { program := "ytplgcfjcdjlnbaa", sum := "9789c41e6713a930a252cb2e5a635a1492fb4ae46884ebd2cbf890919f88aa39", func := "landfall/landfalllaw35.BlockPuts", spec := "blockPuts", unfollowed := true, recurses := true, apart := false, narrowed := true }
def BlockPutsUptoSaid : Prop := blockPutsUptoRow.holds Try.pinned (OpenSpec.upto blockPutsSpec)

/-- 'landfalllaw35.BlockTakes', WHERE WHAT IT READS IS OF BULK AT MOST 1048576: true; the input reads as it did. -/
def blockTakesUptoRow : OpenClaim := { program := "ytplgcfjcdjlnbaa", sum := "9789c41e6713a930a252cb2e5a635a1492fb4ae46884ebd2cbf890919f88aa39", func := "landfall/landfalllaw35.BlockTakes", spec := "blockTakes", unfollowed := true, recurses := true, apart := false, narrowed := true }
def BlockTakesUptoSaid : Prop := blockTakesUptoRow.holds Try.pinned (OpenSpec.upto blockTakesSpec)

/-- 'landfalllaw35.BlockBack', WHERE WHAT IT READS IS OF BULK AT MOST 1048576: true; the input reads as it did. -/
def blockBackUptoRow : OpenClaim := { program := "ytplgcfjcdjlnbaa", sum := "9789c41e6713a930a252cb2e5a635a1492fb4ae46884ebd2cbf890919f88aa39", func := "landfall/landfalllaw35.BlockBack", spec := "blockBack", unfollowed := true, recurses := true, apart := false, narrowed := true }
def BlockBackUptoSaid : Prop := blockBackUptoRow.holds Try.pinned (OpenSpec.upto blockBackSpec)

/-- 'landfalllaw35.BlockBurst', WHERE WHAT IT READS IS OF BULK AT MOST 1048576: true; the input reads as it did. -/
def blockBurstUptoRow : OpenClaim := { program := "ytplgcfjcdjlnbaa", sum := "9789c41e6713a930a252cb2e5a635a1492fb4ae46884ebd2cbf890919f88aa39", func := "landfall/landfalllaw35.BlockBurst", spec := "blockBurst", unfollowed := true, recurses := true, apart := false, narrowed := true }
def BlockBurstUptoSaid : Prop := blockBurstUptoRow.holds Try.pinned (OpenSpec.upto blockBurstSpec)

/-- 'landfalllaw36.FlogWrites', WHERE WHAT IT READS IS OF BULK AT MOST 1048576: true; the input reads as it did. -/
def flogWritesUptoRow : OpenClaim := { program := "ytplgcfjcdjlnbaa", sum := "9789c41e6713a930a252cb2e5a635a1492fb4ae46884ebd2cbf890919f88aa39", func := "landfall/landfalllaw36.FlogWrites", spec := "flogWrites", unfollowed := true, recurses := true, apart := false, narrowed := true }
def FlogWritesUptoSaid : Prop := flogWritesUptoRow.holds Try.pinned (OpenSpec.upto flogWritesSpec)

/-- 'landfalllaw36.FlogLog', WHERE WHAT IT READS IS OF BULK AT MOST 1048576: true; the input reads as it did. -/
def flogLogUptoRow : OpenClaim := { program := "ytplgcfjcdjlnbaa", sum := "9789c41e6713a930a252cb2e5a635a1492fb4ae46884ebd2cbf890919f88aa39", func := "landfall/landfalllaw36.FlogLog", spec := "flogLog", unfollowed := true, recurses := true, apart := false, narrowed := true }
def FlogLogUptoSaid : Prop := flogLogUptoRow.holds Try.pinned (OpenSpec.upto flogLogSpec)

/-- 'landfalllaw36.FlogPlays', WHERE WHAT IT READS IS OF BULK AT MOST 1048576: true; the input reads as it did. -/
def flogPlaysUptoRow : OpenClaim := { program := "ytplgcfjcdjlnbaa", sum := "9789c41e6713a930a252cb2e5a635a1492fb4ae46884ebd2cbf890919f88aa39", func := "landfall/landfalllaw36.FlogPlays", spec := "flogPlays", unfollowed := true, recurses := true, apart := false, narrowed := true }
def FlogPlaysUptoSaid : Prop := flogPlaysUptoRow.holds Try.pinned (OpenSpec.upto flogPlaysSpec)

/-- 'landfalllaw36.FlogNil', WHERE WHAT IT READS IS OF BULK AT MOST 1048576: true; the input reads as it did. -/
def flogNilUptoRow : OpenClaim := { program := "ytplgcfjcdjlnbaa", sum := "9789c41e6713a930a252cb2e5a635a1492fb4ae46884ebd2cbf890919f88aa39", func := "landfall/landfalllaw36.FlogNil", spec := "flogNil", unfollowed := true, recurses := true, apart := false, narrowed := true }
def FlogNilUptoSaid : Prop := flogNilUptoRow.holds Try.pinned (OpenSpec.upto flogNilSpec)

/-- 'landfalllaw37.RescueReads', WHERE WHAT IT READS IS OF BULK AT MOST 1048576: true; the input reads as it did. -/
def rescueReadsUptoRow : OpenClaim := { program := "ytplgcfjcdjlnbaa", sum := "9789c41e6713a930a252cb2e5a635a1492fb4ae46884ebd2cbf890919f88aa39", func := "landfall/landfalllaw37.RescueReads", spec := "rescueReads", unfollowed := true, recurses := true, apart := false, narrowed := true }
def RescueReadsUptoSaid : Prop := rescueReadsUptoRow.holds Try.pinned (OpenSpec.upto rescueReadsSpec)

/-- 'landfalllaw37.RescueTrue', WHERE WHAT IT READS IS OF BULK AT MOST 1048576: true; the input reads as it did. -/
def rescueTrueUptoRow : OpenClaim := { program := "ytplgcfjcdjlnbaa", sum := "9789c41e6713a930a252cb2e5a635a1492fb4ae46884ebd2cbf890919f88aa39", func := "landfall/landfalllaw37.RescueTrue", spec := "rescueTrue", unfollowed := true, recurses := true, apart := false, narrowed := true }
def RescueTrueUptoSaid : Prop := rescueTrueUptoRow.holds Try.pinned (OpenSpec.upto rescueTrueSpec)

/-- 'landfalllaw37.RescueCut', WHERE WHAT IT READS IS OF BULK AT MOST 1048576: true; the input reads as it did. -/
def rescueCutUptoRow : OpenClaim := { program := "ytplgcfjcdjlnbaa", sum := "9789c41e6713a930a252cb2e5a635a1492fb4ae46884ebd2cbf890919f88aa39", func := "landfall/landfalllaw37.RescueCut", spec := "rescueCut", unfollowed := true, recurses := true, apart := false, narrowed := true }
def RescueCutUptoSaid : Prop := rescueCutUptoRow.holds Try.pinned (OpenSpec.upto rescueCutSpec)

/-- 'landfalllaw37.RescueBurst', WHERE WHAT IT READS IS OF BULK AT MOST 1048576: true; the input reads as it did. -/
def rescueBurstUptoRow : OpenClaim := { program := "ytplgcfjcdjlnbaa", sum := "9789c41e6713a930a252cb2e5a635a1492fb4ae46884ebd2cbf890919f88aa39", func := "landfall/landfalllaw37.RescueBurst", spec := "rescueBurst", unfollowed := true, recurses := true, apart := false, narrowed := true }
def RescueBurstUptoSaid : Prop := rescueBurstUptoRow.holds Try.pinned (OpenSpec.upto rescueBurstSpec)

/-- 'landfalllaw37.RescueScans', WHERE WHAT IT READS IS OF BULK AT MOST 1048576: true; the input reads as it did. -/
def rescueScansUptoRow : OpenClaim := { program := "ytplgcfjcdjlnbaa", sum := "9789c41e6713a930a252cb2e5a635a1492fb4ae46884ebd2cbf890919f88aa39", func := "landfall/landfalllaw37.RescueScans", spec := "rescueScans", unfollowed := true, recurses := true, apart := false, narrowed := true }
def RescueScansUptoSaid : Prop := rescueScansUptoRow.holds Try.pinned (OpenSpec.upto rescueScansSpec)

/-- 'landfalllaw37.RescueFound', WHERE WHAT IT READS IS OF BULK AT MOST 1048576: true; the input reads as it did. -/
def rescueFoundUptoRow : OpenClaim := { program := "ytplgcfjcdjlnbaa", sum := "9789c41e6713a930a252cb2e5a635a1492fb4ae46884ebd2cbf890919f88aa39", func := "landfall/landfalllaw37.RescueFound", spec := "rescueFound", unfollowed := true, recurses := true, apart := false, narrowed := true }
def RescueFoundUptoSaid : Prop := rescueFoundUptoRow.holds Try.pinned (OpenSpec.upto rescueFoundSpec)

end Rows
end Go.Proofs.Ytplgcfjcdjlnbaa
