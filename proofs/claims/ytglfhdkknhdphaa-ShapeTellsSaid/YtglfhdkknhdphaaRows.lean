/-
  No cell of these rows narrows 'for every input' (looked for: loops, veiled, ifaces, maps, wideKeys, modest, calm, conditions, laid).
  DERIVED. THE GIVEN ROWS OF THIS SEAT. 15 by the template 'for every input the law returns true; each argument reads behind the call as it read before'; 0 by the template 'total and deterministic' (their statements: YtglfhdkknhdphaaTotals.lean).
  GIVEN WITH THE SEED: the statements are not yours to turn. If you find one false, say at which input.
  Laid BY PROGRAM, IN A SANDBOX (cutbox-rows.mjs): the forced cells as the released guide's own fill.sh prints them over the translation e3f6bb71a7611c1c… (all of the seat's roots in one cut). By AI agents, Wed Nov 11 2026. No macro, syntax, notation, axiom, sorry.
-/
import Derived.Test.YtglfhdkknhdphaaChecked
import GoSem.Claim
import GoSem.ClaimJoined
import GoSem.ClaimMapViews
import Derived.JoinedTies
import Derived.KernelRfl
namespace Go.Proofs.Ytglfhdkknhdphaa
/- THE CELL 'sum', in the pinned program and in every row, IS THE sha256 OF THE DUMP (.gsa) THAT YtglfhdkknhdphaaProg.lean LOADS. Nothing in Lean hashes anything: it is a label: what it is worth is what the hold of that sum in a sandbox is worth. -/
noncomputable def Try.pinned : Pinned := { name := "ytglfhdkknhdphaa", sum := "e3f6bb71a7611c1c587f6573050a1602a352bf9b6b28991f6dd7e611b262769c", checked := Try.checked }
namespace Rows
def none {H : Type} : Left H := { results := [], args := [] }

/-- 'landfalllaw04.OctetReads': WHATEVER THE INPUT: true; the input reads as it did. -/
def octetReadsSpec : ChangeSpec := { name := "octetReads", fn := fun _ => fun
  | [d1, d2] => { results := [.lit (.bool true)], args := [d1, d2] }
  | _ => none }
def octetReadsRow : OpenClaim := { program := "ytglfhdkknhdphaa", sum := "e3f6bb71a7611c1c587f6573050a1602a352bf9b6b28991f6dd7e611b262769c", func := "landfall/landfalllaw04.OctetReads", spec := "octetReads", unfollowed := true, recurses := true, apart := false }
def OctetReadsSaid : Prop := octetReadsRow.holds Try.pinned (OpenSpec.ofChange octetReadsSpec)

/-- ITS FALSE NEIGHBOUR: 'it returns false'. Refute it at one input. -/
def octetReadsWrong : ChangeSpec := { name := "octetReads", fn := fun _ => fun
  | [d1, d2] => { results := [.lit (.bool false)], args := [d1, d2] }
  | _ => none }
def OctetReadsWrongFalsely : Prop := octetReadsRow.holds Try.pinned (OpenSpec.ofChange octetReadsWrong)

/-- 'landfalllaw04.OctetWrites': WHATEVER THE INPUT: true; the input reads as it did. -/
def octetWritesSpec : ChangeSpec := { name := "octetWrites", fn := fun _ => fun
  | [d] => { results := [.lit (.bool true)], args := [d] }
  | _ => none }
def octetWritesRow : OpenClaim := { program := "ytglfhdkknhdphaa", sum := "e3f6bb71a7611c1c587f6573050a1602a352bf9b6b28991f6dd7e611b262769c", func := "landfall/landfalllaw04.OctetWrites", spec := "octetWrites", unfollowed := true, recurses := true, apart := false }
def OctetWritesSaid : Prop := octetWritesRow.holds Try.pinned (OpenSpec.ofChange octetWritesSpec)

/-- ITS FALSE NEIGHBOUR: 'it returns false'. Refute it at one input. -/
def octetWritesWrong : ChangeSpec := { name := "octetWrites", fn := fun _ => fun
  | [d] => { results := [.lit (.bool false)], args := [d] }
  | _ => none }
def OctetWritesWrongFalsely : Prop := octetWritesRow.holds Try.pinned (OpenSpec.ofChange octetWritesWrong)

/-- 'landfalllaw04.OctetBack': WHATEVER THE INPUT: true; the input reads as it did. -/
def octetBackSpec : ChangeSpec := { name := "octetBack", fn := fun _ => fun
  | [d] => { results := [.lit (.bool true)], args := [d] }
  | _ => none }
def octetBackRow : OpenClaim := { program := "ytglfhdkknhdphaa", sum := "e3f6bb71a7611c1c587f6573050a1602a352bf9b6b28991f6dd7e611b262769c", func := "landfall/landfalllaw04.OctetBack", spec := "octetBack", unfollowed := true, recurses := true, apart := false }
def OctetBackSaid : Prop := octetBackRow.holds Try.pinned (OpenSpec.ofChange octetBackSpec)

/-- ITS FALSE NEIGHBOUR: 'it returns false'. Refute it at one input. -/
def octetBackWrong : ChangeSpec := { name := "octetBack", fn := fun _ => fun
  | [d] => { results := [.lit (.bool false)], args := [d] }
  | _ => none }
def OctetBackWrongFalsely : Prop := octetBackRow.holds Try.pinned (OpenSpec.ofChange octetBackWrong)

/-- 'landfalllaw04.OctetNil': WHATEVER THE INPUT: true; the input reads as it did. -/
def octetNilSpec : ChangeSpec := { name := "octetNil", fn := fun _ => fun
  | [d1, d2, d3] => { results := [.lit (.bool true)], args := [d1, d2, d3] }
  | _ => none }
def octetNilRow : OpenClaim := { program := "ytglfhdkknhdphaa", sum := "e3f6bb71a7611c1c587f6573050a1602a352bf9b6b28991f6dd7e611b262769c", func := "landfall/landfalllaw04.OctetNil", spec := "octetNil", unfollowed := true, recurses := true, apart := false }
def OctetNilSaid : Prop := octetNilRow.holds Try.pinned (OpenSpec.ofChange octetNilSpec)

/-- ITS FALSE NEIGHBOUR: 'it returns false'. Refute it at one input. -/
def octetNilWrong : ChangeSpec := { name := "octetNil", fn := fun _ => fun
  | [d1, d2, d3] => { results := [.lit (.bool false)], args := [d1, d2, d3] }
  | _ => none }
def OctetNilWrongFalsely : Prop := octetNilRow.holds Try.pinned (OpenSpec.ofChange octetNilWrong)

/-- 'landfalllaw34.RecPuts': WHATEVER THE INPUT: true; the input reads as it did. -/
def recPutsSpec : ChangeSpec := { name := "recPuts", fn := fun _ => fun
  | [d1, d2] => { results := [.lit (.bool true)], args := [d1, d2] }
  | _ => none }
def recPutsRow : OpenClaim := { program := "ytglfhdkknhdphaa", sum := "e3f6bb71a7611c1c587f6573050a1602a352bf9b6b28991f6dd7e611b262769c", func := "landfall/landfalllaw34.RecPuts", spec := "recPuts", unfollowed := true, recurses := true, apart := false }
def RecPutsSaid : Prop := recPutsRow.holds Try.pinned (OpenSpec.ofChange recPutsSpec)

/-- ITS FALSE NEIGHBOUR: 'it returns false'. Refute it at one input. -/
def recPutsWrong : ChangeSpec := { name := "recPuts", fn := fun _ => fun
  | [d1, d2] => { results := [.lit (.bool false)], args := [d1, d2] }
  | _ => none }
def RecPutsWrongFalsely : Prop := recPutsRow.holds Try.pinned (OpenSpec.ofChange recPutsWrong)

/-- 'landfalllaw34.RecSize': WHATEVER THE INPUT: true; the input reads as it did. -/
def recSizeSpec : ChangeSpec := { name := "recSize", fn := fun _ => fun
  | [d1, d2, d3] => { results := [.lit (.bool true)], args := [d1, d2, d3] }
  | _ => none }
def recSizeRow : OpenClaim := { program := "ytglfhdkknhdphaa", sum := "e3f6bb71a7611c1c587f6573050a1602a352bf9b6b28991f6dd7e611b262769c", func := "landfall/landfalllaw34.RecSize", spec := "recSize", unfollowed := true, recurses := true, apart := false }
def RecSizeSaid : Prop := recSizeRow.holds Try.pinned (OpenSpec.ofChange recSizeSpec)

/-- ITS FALSE NEIGHBOUR: 'it returns false'. Refute it at one input. -/
def recSizeWrong : ChangeSpec := { name := "recSize", fn := fun _ => fun
  | [d1, d2, d3] => { results := [.lit (.bool false)], args := [d1, d2, d3] }
  | _ => none }
def RecSizeWrongFalsely : Prop := recSizeRow.holds Try.pinned (OpenSpec.ofChange recSizeWrong)

/-- 'landfalllaw34.RecTakes': WHATEVER THE INPUT: true; the input reads as it did. -/
def recTakesSpec : ChangeSpec := { name := "recTakes", fn := fun _ => fun
  | [d1, d2] => { results := [.lit (.bool true)], args := [d1, d2] }
  | _ => none }
def recTakesRow : OpenClaim := { program := "ytglfhdkknhdphaa", sum := "e3f6bb71a7611c1c587f6573050a1602a352bf9b6b28991f6dd7e611b262769c", func := "landfall/landfalllaw34.RecTakes", spec := "recTakes", unfollowed := true, recurses := true, apart := false }
def RecTakesSaid : Prop := recTakesRow.holds Try.pinned (OpenSpec.ofChange recTakesSpec)

/-- ITS FALSE NEIGHBOUR: 'it returns false'. Refute it at one input. -/
def recTakesWrong : ChangeSpec := { name := "recTakes", fn := fun _ => fun
  | [d1, d2] => { results := [.lit (.bool false)], args := [d1, d2] }
  | _ => none }
def RecTakesWrongFalsely : Prop := recTakesRow.holds Try.pinned (OpenSpec.ofChange recTakesWrong)

/-- 'landfalllaw34.RecBack': WHATEVER THE INPUT: true; the input reads as it did. -/
def recBackSpec : ChangeSpec := { name := "recBack", fn := fun _ => fun
  | [d1, d2, d3] => { results := [.lit (.bool true)], args := [d1, d2, d3] }
  | _ => none }
def recBackRow : OpenClaim := { program := "ytglfhdkknhdphaa", sum := "e3f6bb71a7611c1c587f6573050a1602a352bf9b6b28991f6dd7e611b262769c", func := "landfall/landfalllaw34.RecBack", spec := "recBack", unfollowed := true, recurses := true, apart := false }
def RecBackSaid : Prop := recBackRow.holds Try.pinned (OpenSpec.ofChange recBackSpec)

/-- ITS FALSE NEIGHBOUR: 'it returns false'. Refute it at one input. -/
def recBackWrong : ChangeSpec := { name := "recBack", fn := fun _ => fun
  | [d1, d2, d3] => { results := [.lit (.bool false)], args := [d1, d2, d3] }
  | _ => none }
def RecBackWrongFalsely : Prop := recBackRow.holds Try.pinned (OpenSpec.ofChange recBackWrong)

/-- 'landfalllaw14.ShapeFields': WHATEVER THE INPUT: true; the input reads as it did. -/
def shapeFieldsSpec : ChangeSpec := { name := "shapeFields", fn := fun _ => fun
  | [d1, d2, d3, d4] => { results := [.lit (.bool true)], args := [d1, d2, d3, d4] }
  | _ => none }
def shapeFieldsRow : OpenClaim := { program := "ytglfhdkknhdphaa", sum := "e3f6bb71a7611c1c587f6573050a1602a352bf9b6b28991f6dd7e611b262769c", func := "landfall/landfalllaw14.ShapeFields", spec := "shapeFields", unfollowed := true, recurses := true, apart := false }
def ShapeFieldsSaid : Prop := shapeFieldsRow.holds Try.pinned (OpenSpec.ofChange shapeFieldsSpec)

/-- ITS FALSE NEIGHBOUR: 'it returns false'. Refute it at one input. -/
def shapeFieldsWrong : ChangeSpec := { name := "shapeFields", fn := fun _ => fun
  | [d1, d2, d3, d4] => { results := [.lit (.bool false)], args := [d1, d2, d3, d4] }
  | _ => none }
def ShapeFieldsWrongFalsely : Prop := shapeFieldsRow.holds Try.pinned (OpenSpec.ofChange shapeFieldsWrong)

/-- 'landfalllaw14.ShapeTells': WHATEVER THE INPUT: true; the input reads as it did. -/
def shapeTellsSpec : ChangeSpec := { name := "shapeTells", fn := fun _ => fun
  | [d1, d2, d3] => { results := [.lit (.bool true)], args := [d1, d2, d3] }
  | _ => none }
def shapeTellsRow : OpenClaim := { program := "ytglfhdkknhdphaa", sum := "e3f6bb71a7611c1c587f6573050a1602a352bf9b6b28991f6dd7e611b262769c", func := "landfall/landfalllaw14.ShapeTells", spec := "shapeTells", unfollowed := true, recurses := true, apart := false }
def ShapeTellsSaid : Prop := shapeTellsRow.holds Try.pinned (OpenSpec.ofChange shapeTellsSpec)

/-- ITS FALSE NEIGHBOUR: 'it returns false'. Refute it at one input. -/
def shapeTellsWrong : ChangeSpec := { name := "shapeTells", fn := fun _ => fun
  | [d1, d2, d3] => { results := [.lit (.bool false)], args := [d1, d2, d3] }
  | _ => none }
def ShapeTellsWrongFalsely : Prop := shapeTellsRow.holds Try.pinned (OpenSpec.ofChange shapeTellsWrong)

/-- 'landfalllaw14.ShapeBack': WHATEVER THE INPUT: true; the input reads as it did. -/
def shapeBackSpec : ChangeSpec := { name := "shapeBack", fn := fun _ => fun
  | [d1, d2, d3] => { results := [.lit (.bool true)], args := [d1, d2, d3] }
  | _ => none }
def shapeBackRow : OpenClaim := { program := "ytglfhdkknhdphaa", sum := "e3f6bb71a7611c1c587f6573050a1602a352bf9b6b28991f6dd7e611b262769c", func := "landfall/landfalllaw14.ShapeBack", spec := "shapeBack", unfollowed := true, recurses := true, apart := false }
def ShapeBackSaid : Prop := shapeBackRow.holds Try.pinned (OpenSpec.ofChange shapeBackSpec)

/-- ITS FALSE NEIGHBOUR: 'it returns false'. Refute it at one input. -/
def shapeBackWrong : ChangeSpec := { name := "shapeBack", fn := fun _ => fun
  | [d1, d2, d3] => { results := [.lit (.bool false)], args := [d1, d2, d3] }
  | _ => none }
def ShapeBackWrongFalsely : Prop := shapeBackRow.holds Try.pinned (OpenSpec.ofChange shapeBackWrong)

/-- 'landfalllaw15.FramePuts': WHATEVER THE INPUT: true; the input reads as it did. -/
def framePutsSpec : ChangeSpec := { name := "framePuts", fn := fun _ => fun
  | [d1, d2] => { results := [.lit (.bool true)], args := [d1, d2] }
  | _ => none }
def framePutsRow : OpenClaim := { program := "ytglfhdkknhdphaa", sum := "e3f6bb71a7611c1c587f6573050a1602a352bf9b6b28991f6dd7e611b262769c", func := "landfall/landfalllaw15.FramePuts", spec := "framePuts", unfollowed := true, recurses := true, apart := false }
def FramePutsSaid : Prop := framePutsRow.holds Try.pinned (OpenSpec.ofChange framePutsSpec)

/-- ITS FALSE NEIGHBOUR: 'it returns false'. Refute it at one input. -/
def framePutsWrong : ChangeSpec := { name := "framePuts", fn := fun _ => fun
  | [d1, d2] => { results := [.lit (.bool false)], args := [d1, d2] }
  | _ => none }
def FramePutsWrongFalsely : Prop := framePutsRow.holds Try.pinned (OpenSpec.ofChange framePutsWrong)

/-- 'landfalllaw15.FrameTakes': WHATEVER THE INPUT: true; the input reads as it did. -/
def frameTakesSpec : ChangeSpec := { name := "frameTakes", fn := fun _ => fun
  | [d] => { results := [.lit (.bool true)], args := [d] }
  | _ => none }
def frameTakesRow : OpenClaim := { program := "ytglfhdkknhdphaa", sum := "e3f6bb71a7611c1c587f6573050a1602a352bf9b6b28991f6dd7e611b262769c", func := "landfall/landfalllaw15.FrameTakes", spec := "frameTakes", unfollowed := true, recurses := true, apart := false }
def FrameTakesSaid : Prop := frameTakesRow.holds Try.pinned (OpenSpec.ofChange frameTakesSpec)

/-- ITS FALSE NEIGHBOUR: 'it returns false'. Refute it at one input. -/
def frameTakesWrong : ChangeSpec := { name := "frameTakes", fn := fun _ => fun
  | [d] => { results := [.lit (.bool false)], args := [d] }
  | _ => none }
def FrameTakesWrongFalsely : Prop := frameTakesRow.holds Try.pinned (OpenSpec.ofChange frameTakesWrong)

/-- 'landfalllaw15.FrameBack': WHATEVER THE INPUT: true; the input reads as it did. -/
def frameBackSpec : ChangeSpec := { name := "frameBack", fn := fun _ => fun
  | [d1, d2] => { results := [.lit (.bool true)], args := [d1, d2] }
  | _ => none }
def frameBackRow : OpenClaim := { program := "ytglfhdkknhdphaa", sum := "e3f6bb71a7611c1c587f6573050a1602a352bf9b6b28991f6dd7e611b262769c", func := "landfall/landfalllaw15.FrameBack", spec := "frameBack", unfollowed := true, recurses := true, apart := false }
def FrameBackSaid : Prop := frameBackRow.holds Try.pinned (OpenSpec.ofChange frameBackSpec)

/-- ITS FALSE NEIGHBOUR: 'it returns false'. Refute it at one input. -/
def frameBackWrong : ChangeSpec := { name := "frameBack", fn := fun _ => fun
  | [d1, d2] => { results := [.lit (.bool false)], args := [d1, d2] }
  | _ => none }
def FrameBackWrongFalsely : Prop := frameBackRow.holds Try.pinned (OpenSpec.ofChange frameBackWrong)

/-- 'landfalllaw15.FrameSteady': WHATEVER THE INPUT: true; the input reads as it did. -/
def frameSteadySpec : ChangeSpec := { name := "frameSteady", fn := fun _ => fun
  | [d1, d2] => { results := [.lit (.bool true)], args := [d1, d2] }
  | _ => none }
def frameSteadyRow : OpenClaim := { program := "ytglfhdkknhdphaa", sum := "e3f6bb71a7611c1c587f6573050a1602a352bf9b6b28991f6dd7e611b262769c", func := "landfall/landfalllaw15.FrameSteady", spec := "frameSteady", unfollowed := true, recurses := true, apart := false }
def FrameSteadySaid : Prop := frameSteadyRow.holds Try.pinned (OpenSpec.ofChange frameSteadySpec)

/-- ITS FALSE NEIGHBOUR: 'it returns false'. Refute it at one input. -/
def frameSteadyWrong : ChangeSpec := { name := "frameSteady", fn := fun _ => fun
  | [d1, d2] => { results := [.lit (.bool false)], args := [d1, d2] }
  | _ => none }
def FrameSteadyWrongFalsely : Prop := frameSteadyRow.holds Try.pinned (OpenSpec.ofChange frameSteadyWrong)

/- THE SECOND FORM. 'bulk': how many values and letters a reading holds, each counted each time it is reached (what is shared counts as often as it is met; a slice's spare places count too). A statement '..UptoSaid' is the law's where the arguments, and the package variables that the reading takes, are together of bulk at most 1048576: NARROWER than '..Said'. Prove '..Said' where nothing that the law and all that it calls make is longer than what came in: it says more and counts as full. Else prove '..UptoSaid'. A law counts once. -/
mutual
def uptoBulk {H : Type} : DataW H → Nat
  | .lit (.string bytes) => bytes.length + 1
  | .lit _ => 1
  | .nil => 1
  | .ptr d => uptoBulk d + 1
  | .slice elems spare => uptoBulkAll elems + uptoBulkAll spare + 1
  | .agg parts => uptoBulkAll parts + 1
  | .iface _ d => uptoBulk d + 1
  | .map entries => uptoBulkEntries entries + 1
  | .held _ => 1
def uptoBulkAll {H : Type} : List (DataW H) → Nat
  | [] => 0
  | d :: r => uptoBulk d + uptoBulkAll r
def uptoBulkEntries {H : Type} : List (Lit × DataW H) → Nat
  | [] => 0
  | x :: r => uptoBulkEntry x + uptoBulkEntries r
def uptoBulkEntry {H : Type} : Lit × DataW H → Nat
  | (.string bytes, d) => bytes.length + uptoBulk d + 1
  | (_, d) => uptoBulk d + 1
 end
def uptoSmall : (H : Type) → List (DataW H) → Bool := fun _ ds => decide (uptoBulkAll ds ≤ 1048576)
def OpenSpec.upto (s : _root_.Go.ChangeSpec) : _root_.Go.OpenSpec := { _root_.Go.OpenSpec.ofChange s with cond := some uptoSmall }

/-- 'landfalllaw04.OctetReads', WHERE WHAT IT READS IS OF BULK AT MOST 1048576: true; the input reads as it did. -/
def octetReadsUptoRow : OpenClaim := { program := "ytglfhdkknhdphaa", sum := "e3f6bb71a7611c1c587f6573050a1602a352bf9b6b28991f6dd7e611b262769c", func := "landfall/landfalllaw04.OctetReads", spec := "octetReads", unfollowed := true, recurses := true, apart := false, narrowed := true }
def OctetReadsUptoSaid : Prop := octetReadsUptoRow.holds Try.pinned (OpenSpec.upto octetReadsSpec)

/-- 'landfalllaw04.OctetWrites', WHERE WHAT IT READS IS OF BULK AT MOST 1048576: true; the input reads as it did. -/
def octetWritesUptoRow : OpenClaim := { program := "ytglfhdkknhdphaa", sum := "e3f6bb71a7611c1c587f6573050a1602a352bf9b6b28991f6dd7e611b262769c", func := "landfall/landfalllaw04.OctetWrites", spec := "octetWrites", unfollowed := true, recurses := true, apart := false, narrowed := true }
def OctetWritesUptoSaid : Prop := octetWritesUptoRow.holds Try.pinned (OpenSpec.upto octetWritesSpec)

/-- 'landfalllaw04.OctetBack', WHERE WHAT IT READS IS OF BULK AT MOST 1048576: true; the input reads as it did. -/
def octetBackUptoRow : OpenClaim := { program := "ytglfhdkknhdphaa", sum := "e3f6bb71a7611c1c587f6573050a1602a352bf9b6b28991f6dd7e611b262769c", func := "landfall/landfalllaw04.OctetBack", spec := "octetBack", unfollowed := true, recurses := true, apart := false, narrowed := true }
def OctetBackUptoSaid : Prop := octetBackUptoRow.holds Try.pinned (OpenSpec.upto octetBackSpec)

/-- 'landfalllaw04.OctetNil', WHERE WHAT IT READS IS OF BULK AT MOST 1048576: true; the input reads as it did. -/
def octetNilUptoRow : OpenClaim := { program := "ytglfhdkknhdphaa", sum := "e3f6bb71a7611c1c587f6573050a1602a352bf9b6b28991f6dd7e611b262769c", func := "landfall/landfalllaw04.OctetNil", spec := "octetNil", unfollowed := true, recurses := true, apart := false, narrowed := true }
def OctetNilUptoSaid : Prop := octetNilUptoRow.holds Try.pinned (OpenSpec.upto octetNilSpec)

/-- 'landfalllaw34.RecPuts', WHERE WHAT IT READS IS OF BULK AT MOST 1048576: true; the input reads as it did. -/
def recPutsUptoRow : OpenClaim := { program := "ytglfhdkknhdphaa", sum := "e3f6bb71a7611c1c587f6573050a1602a352bf9b6b28991f6dd7e611b262769c", func := "landfall/landfalllaw34.RecPuts", spec := "recPuts", unfollowed := true, recurses := true, apart := false, narrowed := true }
def RecPutsUptoSaid : Prop := recPutsUptoRow.holds Try.pinned (OpenSpec.upto recPutsSpec)

/-- 'landfalllaw34.RecSize', WHERE WHAT IT READS IS OF BULK AT MOST 1048576: true; the input reads as it did. -/
def recSizeUptoRow : OpenClaim := { program := "ytglfhdkknhdphaa", sum := "e3f6bb71a7611c1c587f6573050a1602a352bf9b6b28991f6dd7e611b262769c", func := "landfall/landfalllaw34.RecSize", spec := "recSize", unfollowed := true, recurses := true, apart := false, narrowed := true }
def RecSizeUptoSaid : Prop := recSizeUptoRow.holds Try.pinned (OpenSpec.upto recSizeSpec)

/-- 'landfalllaw34.RecTakes', WHERE WHAT IT READS IS OF BULK AT MOST 1048576: true; the input reads as it did. -/
def recTakesUptoRow : OpenClaim := { program := "ytglfhdkknhdphaa", sum := "e3f6bb71a7611c1c587f6573050a1602a352bf9b6b28991f6dd7e611b262769c", func := "landfall/landfalllaw34.RecTakes", spec := "recTakes", unfollowed := true, recurses := true, apart := false, narrowed := true }
def RecTakesUptoSaid : Prop := recTakesUptoRow.holds Try.pinned (OpenSpec.upto recTakesSpec)

/-- 'landfalllaw34.RecBack', WHERE WHAT IT READS IS OF BULK AT MOST 1048576: true; the input reads as it did. -/
def recBackUptoRow : OpenClaim := { program := "ytglfhdkknhdphaa", sum := "e3f6bb71a7611c1c587f6573050a1602a352bf9b6b28991f6dd7e611b262769c", func := "landfall/landfalllaw34.RecBack", spec := "recBack", unfollowed := true, recurses := true, apart := false, narrowed := true }
def RecBackUptoSaid : Prop := recBackUptoRow.holds Try.pinned (OpenSpec.upto recBackSpec)

/-- 'landfalllaw14.ShapeFields', WHERE WHAT IT READS IS OF BULK AT MOST 1048576: true; the input reads as it did. -/
def shapeFieldsUptoRow : OpenClaim := { program := "ytglfhdkknhdphaa", sum := "e3f6bb71a7611c1c587f6573050a1602a352bf9b6b28991f6dd7e611b262769c", func := "landfall/landfalllaw14.ShapeFields", spec := "shapeFields", unfollowed := true, recurses := true, apart := false, narrowed := true }
def ShapeFieldsUptoSaid : Prop := shapeFieldsUptoRow.holds Try.pinned (OpenSpec.upto shapeFieldsSpec)

/-- 'landfalllaw14.ShapeTells', WHERE WHAT IT READS IS OF BULK AT MOST 1048576: true; the input reads as it did. -/
def shapeTellsUptoRow : OpenClaim := { program := "ytglfhdkknhdphaa", sum := "e3f6bb71a7611c1c587f6573050a1602a352bf9b6b28991f6dd7e611b262769c", func := "landfall/landfalllaw14.ShapeTells", spec := "shapeTells", unfollowed := true, recurses := true, apart := false, narrowed := true }
def ShapeTellsUptoSaid : Prop := shapeTellsUptoRow.holds Try.pinned (OpenSpec.upto shapeTellsSpec)

/-- 'landfalllaw14.ShapeBack', WHERE WHAT IT READS IS OF BULK AT MOST 1048576: true; the input reads as it did. -/
def shapeBackUptoRow : OpenClaim := { program := "ytglfhdkknhdphaa", sum := "e3f6bb71a7611c1c587f6573050a1602a352bf9b6b28991f6dd7e611b262769c", func := "landfall/landfalllaw14.ShapeBack", spec := "shapeBack", unfollowed := true, recurses := true, apart := false, narrowed := true }
def ShapeBackUptoSaid : Prop := shapeBackUptoRow.holds Try.pinned (OpenSpec.upto shapeBackSpec)

/-- 'landfalllaw15.FramePuts', WHERE WHAT IT READS IS OF BULK AT MOST 1048576: true; the input reads as it did. -/
def framePutsUptoRow : OpenClaim := { program := "ytglfhdkknhdphaa", sum := "e3f6bb71a7611c1c587f6573050a1602a352bf9b6b28991f6dd7e611b262769c", func := "landfall/landfalllaw15.FramePuts", spec := "framePuts", unfollowed := true, recurses := true, apart := false, narrowed := true }
def FramePutsUptoSaid : Prop := framePutsUptoRow.holds Try.pinned (OpenSpec.upto framePutsSpec)

/-- 'landfalllaw15.FrameTakes', WHERE WHAT IT READS IS OF BULK AT MOST 1048576: true; the input reads as it did. -/
def frameTakesUptoRow : OpenClaim := { program := "ytglfhdkknhdphaa", sum := "e3f6bb71a7611c1c587f6573050a1602a352bf9b6b28991f6dd7e611b262769c", func := "landfall/landfalllaw15.FrameTakes", spec := "frameTakes", unfollowed := true, recurses := true, apart := false, narrowed := true }
def FrameTakesUptoSaid : Prop := frameTakesUptoRow.holds Try.pinned (OpenSpec.upto frameTakesSpec)

/-- 'landfalllaw15.FrameBack', WHERE WHAT IT READS IS OF BULK AT MOST 1048576: true; the input reads as it did. -/
def frameBackUptoRow : OpenClaim := { program := "ytglfhdkknhdphaa", sum := "e3f6bb71a7611c1c587f6573050a1602a352bf9b6b28991f6dd7e611b262769c", func := "landfall/landfalllaw15.FrameBack", spec := "frameBack", unfollowed := true, recurses := true, apart := false, narrowed := true }
def FrameBackUptoSaid : Prop := frameBackUptoRow.holds Try.pinned (OpenSpec.upto frameBackSpec)

/-- 'landfalllaw15.FrameSteady', WHERE WHAT IT READS IS OF BULK AT MOST 1048576: true; the input reads as it did. -/
def frameSteadyUptoRow : OpenClaim := { program := "ytglfhdkknhdphaa", sum := "e3f6bb71a7611c1c587f6573050a1602a352bf9b6b28991f6dd7e611b262769c", func := "landfall/landfalllaw15.FrameSteady", spec := "frameSteady", unfollowed := true, recurses := true, apart := false, narrowed := true }
def FrameSteadyUptoSaid : Prop := frameSteadyUptoRow.holds Try.pinned (OpenSpec.upto frameSteadySpec)

end Rows
end Go.Proofs.Ytglfhdkknhdphaa
