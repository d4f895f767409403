/-
  No cell of these rows narrows 'for every input' (looked for: loops, veiled, ifaces, maps, wideKeys, modest, calm, conditions, laid).
  DERIVED. THE GIVEN ROWS OF THIS SEAT. 8 by the template 'for every input the law returns true; each argument reads behind the call as it read before'; 0 by the template 'total and deterministic' (their statements: YtonejdjhdjckjaaTotals.lean).
  GIVEN WITH THE SEED: the statements are not yours to turn. If you find one false, say at which input.
  Laid BY PROGRAM, IN A SANDBOX (cutbox-rows.mjs): the forced cells as the released guide's own fill.sh prints them over the translation 9fb6f4cc09ee1972… (all of the seat's roots in one cut). By AI agents, Wed Nov 11 2026. No macro, syntax, notation, axiom, sorry.
-/
import Derived.Test.YtonejdjhdjckjaaChecked
import GoSem.Claim
import GoSem.ClaimJoined
import GoSem.ClaimMapViews
import Derived.JoinedTies
import Derived.KernelRfl
namespace Go.Proofs.Ytonejdjhdjckjaa
/- THE CELL 'sum', in the pinned program and in every row, IS THE sha256 OF THE DUMP (.gsa) THAT YtonejdjhdjckjaaProg.lean LOADS. Nothing in Lean hashes anything: it is a label: what it is worth is what the hold of that sum in a sandbox is worth. -/
noncomputable def Try.pinned : Pinned := { name := "ytonejdjhdjckjaa", sum := "9fb6f4cc09ee1972959372599c85f6345a05bfefddbbb33eaec7500eab662245", checked := Try.checked }
namespace Rows
def none {H : Type} : Left H := { results := [], args := [] }

/-- 'landfalllaw31.SchemaWire': WHATEVER THE INPUT: true; the input reads as it did. -/
def schemaWireSpec : ChangeSpec := { name := "schemaWire", fn := fun _ => fun
  | [d] => { results := [.lit (.bool true)], args := [d] }
  | _ => none }
def schemaWireRow : OpenClaim := { program := "ytonejdjhdjckjaa", sum := "9fb6f4cc09ee1972959372599c85f6345a05bfefddbbb33eaec7500eab662245", func := "landfall/landfalllaw31.SchemaWire", spec := "schemaWire", unfollowed := true, recurses := true, apart := false }
def SchemaWireSaid : Prop := schemaWireRow.holds Try.pinned (OpenSpec.ofChange schemaWireSpec)

/-- ITS FALSE NEIGHBOUR: 'it returns false'. Refute it at one input. -/
def schemaWireWrong : ChangeSpec := { name := "schemaWire", fn := fun _ => fun
  | [d] => { results := [.lit (.bool false)], args := [d] }
  | _ => none }
def SchemaWireWrongFalsely : Prop := schemaWireRow.holds Try.pinned (OpenSpec.ofChange schemaWireWrong)

/-- 'landfalllaw31.SchemaTells': WHATEVER THE INPUT: true; the input reads as it did. -/
def schemaTellsSpec : ChangeSpec := { name := "schemaTells", fn := fun _ => fun
  | [d1, d2] => { results := [.lit (.bool true)], args := [d1, d2] }
  | _ => none }
def schemaTellsRow : OpenClaim := { program := "ytonejdjhdjckjaa", sum := "9fb6f4cc09ee1972959372599c85f6345a05bfefddbbb33eaec7500eab662245", func := "landfall/landfalllaw31.SchemaTells", spec := "schemaTells", unfollowed := true, recurses := true, apart := false }
def SchemaTellsSaid : Prop := schemaTellsRow.holds Try.pinned (OpenSpec.ofChange schemaTellsSpec)

/-- ITS FALSE NEIGHBOUR: 'it returns false'. Refute it at one input. -/
def schemaTellsWrong : ChangeSpec := { name := "schemaTells", fn := fun _ => fun
  | [d1, d2] => { results := [.lit (.bool false)], args := [d1, d2] }
  | _ => none }
def SchemaTellsWrongFalsely : Prop := schemaTellsRow.holds Try.pinned (OpenSpec.ofChange schemaTellsWrong)

/-- 'landfalllaw31.SchemaPuts': WHATEVER THE INPUT: true; the input reads as it did. -/
def schemaPutsSpec : ChangeSpec := { name := "schemaPuts", fn := fun _ => fun
  | [d1, d2, d3] => { results := [.lit (.bool true)], args := [d1, d2, d3] }
  | _ => none }
def schemaPutsRow : OpenClaim := { program := "ytonejdjhdjckjaa", sum := "9fb6f4cc09ee1972959372599c85f6345a05bfefddbbb33eaec7500eab662245", func := "landfall/landfalllaw31.SchemaPuts", spec := "schemaPuts", unfollowed := true, recurses := true, apart := false }
def SchemaPutsSaid : Prop := schemaPutsRow.holds Try.pinned (OpenSpec.ofChange schemaPutsSpec)

/-- ITS FALSE NEIGHBOUR: 'it returns false'. Refute it at one input. -/
def schemaPutsWrong : ChangeSpec := { name := "schemaPuts", fn := fun _ => fun
  | [d1, d2, d3] => { results := [.lit (.bool false)], args := [d1, d2, d3] }
  | _ => none }
def SchemaPutsWrongFalsely : Prop := schemaPutsRow.holds Try.pinned (OpenSpec.ofChange schemaPutsWrong)

/-- 'landfalllaw31.SchemaBack': WHATEVER THE INPUT: true; the input reads as it did. -/
def schemaBackSpec : ChangeSpec := { name := "schemaBack", fn := fun _ => fun
  | [d1, d2, d3] => { results := [.lit (.bool true)], args := [d1, d2, d3] }
  | _ => none }
def schemaBackRow : OpenClaim := { program := "ytonejdjhdjckjaa", sum := "9fb6f4cc09ee1972959372599c85f6345a05bfefddbbb33eaec7500eab662245", func := "landfall/landfalllaw31.SchemaBack", spec := "schemaBack", unfollowed := true, recurses := true, apart := false }
def SchemaBackSaid : Prop := schemaBackRow.holds Try.pinned (OpenSpec.ofChange schemaBackSpec)

/-- ITS FALSE NEIGHBOUR: 'it returns false'. Refute it at one input. -/
def schemaBackWrong : ChangeSpec := { name := "schemaBack", fn := fun _ => fun
  | [d1, d2, d3] => { results := [.lit (.bool false)], args := [d1, d2, d3] }
  | _ => none }
def SchemaBackWrongFalsely : Prop := schemaBackRow.holds Try.pinned (OpenSpec.ofChange schemaBackWrong)

/-- 'landfalllaw32.TlmPuts': WHATEVER THE INPUT: true; the input reads as it did. -/
def tlmPutsSpec : ChangeSpec := { name := "tlmPuts", fn := fun _ => fun
  | [d] => { results := [.lit (.bool true)], args := [d] }
  | _ => none }
def tlmPutsRow : OpenClaim := { program := "ytonejdjhdjckjaa", sum := "9fb6f4cc09ee1972959372599c85f6345a05bfefddbbb33eaec7500eab662245", func := "landfall/landfalllaw32.TlmPuts", spec := "tlmPuts", unfollowed := true, recurses := true, apart := false }
def TlmPutsSaid : Prop := tlmPutsRow.holds Try.pinned (OpenSpec.ofChange tlmPutsSpec)

/-- ITS FALSE NEIGHBOUR: 'it returns false'. Refute it at one input. -/
def tlmPutsWrong : ChangeSpec := { name := "tlmPuts", fn := fun _ => fun
  | [d] => { results := [.lit (.bool false)], args := [d] }
  | _ => none }
def TlmPutsWrongFalsely : Prop := tlmPutsRow.holds Try.pinned (OpenSpec.ofChange tlmPutsWrong)

/-- 'landfalllaw32.TlmBack': WHATEVER THE INPUT: true; the input reads as it did. -/
def tlmBackSpec : ChangeSpec := { name := "tlmBack", fn := fun _ => fun
  | [d1, d2] => { results := [.lit (.bool true)], args := [d1, d2] }
  | _ => none }
def tlmBackRow : OpenClaim := { program := "ytonejdjhdjckjaa", sum := "9fb6f4cc09ee1972959372599c85f6345a05bfefddbbb33eaec7500eab662245", func := "landfall/landfalllaw32.TlmBack", spec := "tlmBack", unfollowed := true, recurses := true, apart := false }
def TlmBackSaid : Prop := tlmBackRow.holds Try.pinned (OpenSpec.ofChange tlmBackSpec)

/-- ITS FALSE NEIGHBOUR: 'it returns false'. Refute it at one input. -/
def tlmBackWrong : ChangeSpec := { name := "tlmBack", fn := fun _ => fun
  | [d1, d2] => { results := [.lit (.bool false)], args := [d1, d2] }
  | _ => none }
def TlmBackWrongFalsely : Prop := tlmBackRow.holds Try.pinned (OpenSpec.ofChange tlmBackWrong)

/-- 'landfalllaw32.TlmSteady': WHATEVER THE INPUT: true; the input reads as it did. -/
def tlmSteadySpec : ChangeSpec := { name := "tlmSteady", fn := fun _ => fun
  | [d1, d2] => { results := [.lit (.bool true)], args := [d1, d2] }
  | _ => none }
def tlmSteadyRow : OpenClaim := { program := "ytonejdjhdjckjaa", sum := "9fb6f4cc09ee1972959372599c85f6345a05bfefddbbb33eaec7500eab662245", func := "landfall/landfalllaw32.TlmSteady", spec := "tlmSteady", unfollowed := true, recurses := true, apart := false }
def TlmSteadySaid : Prop := tlmSteadyRow.holds Try.pinned (OpenSpec.ofChange tlmSteadySpec)

/-- ITS FALSE NEIGHBOUR: 'it returns false'. Refute it at one input. -/
def tlmSteadyWrong : ChangeSpec := { name := "tlmSteady", fn := fun _ => fun
  | [d1, d2] => { results := [.lit (.bool false)], args := [d1, d2] }
  | _ => none }
def TlmSteadyWrongFalsely : Prop := tlmSteadyRow.holds Try.pinned (OpenSpec.ofChange tlmSteadyWrong)

/-- 'landfalllaw32.TlmBurst': WHATEVER THE INPUT: true; the input reads as it did. -/
def tlmBurstSpec : ChangeSpec := { name := "tlmBurst", fn := fun _ => fun
  | [d1, d2, d3, d4] => { results := [.lit (.bool true)], args := [d1, d2, d3, d4] }
  | _ => none }
def tlmBurstRow : OpenClaim := { program := "ytonejdjhdjckjaa", sum := "9fb6f4cc09ee1972959372599c85f6345a05bfefddbbb33eaec7500eab662245", func := "landfall/landfalllaw32.TlmBurst", spec := "tlmBurst", unfollowed := true, recurses := true, apart := false }
def TlmBurstSaid : Prop := tlmBurstRow.holds Try.pinned (OpenSpec.ofChange tlmBurstSpec)

/-- ITS FALSE NEIGHBOUR: 'it returns false'. Refute it at one input. -/
def tlmBurstWrong : ChangeSpec := { name := "tlmBurst", fn := fun _ => fun
  | [d1, d2, d3, d4] => { results := [.lit (.bool false)], args := [d1, d2, d3, d4] }
  | _ => none }
def TlmBurstWrongFalsely : Prop := tlmBurstRow.holds Try.pinned (OpenSpec.ofChange tlmBurstWrong)

/- THE SECOND FORM. 'bulk': how many values and letters a reading holds, each counted each time it is reached (what is shared counts as often as it is met; a slice's spare places count too). A statement '..UptoSaid' is the law's where the arguments, and the package variables that the reading takes, are together of bulk at most 1048576: NARROWER than '..Said'. Prove '..Said' where nothing that the law and all that it calls make is longer than what came in: it says more and counts as full. Else prove '..UptoSaid'. A law counts once. -/
mutual
def uptoBulk {H : Type} : DataW H → Nat
  | .lit (.string bytes) => bytes.length + 1
  | .lit _ => 1
  | .nil => 1
  | .ptr d => uptoBulk d + 1
  | .slice elems spare => uptoBulkAll elems + uptoBulkAll spare + 1
  | .agg parts => uptoBulkAll parts + 1
  | .iface _ d => uptoBulk d + 1
  | .map entries => uptoBulkEntries entries + 1
  | .held _ => 1
def uptoBulkAll {H : Type} : List (DataW H) → Nat
  | [] => 0
  | d :: r => uptoBulk d + uptoBulkAll r
def uptoBulkEntries {H : Type} : List (Lit × DataW H) → Nat
  | [] => 0
  | x :: r => uptoBulkEntry x + uptoBulkEntries r
def uptoBulkEntry {H : Type} : Lit × DataW H → Nat
  | (.string bytes, d) => bytes.length + uptoBulk d + 1
  | (_, d) => uptoBulk d + 1
 end
def uptoSmall : (H : Type) → List (DataW H) → Bool := fun _ ds => decide (uptoBulkAll ds ≤ 1048576)
def OpenSpec.upto (s : _root_.Go.ChangeSpec) : _root_.Go.OpenSpec := { _root_.Go.OpenSpec.ofChange s with cond := some uptoSmall }

/-- 'landfalllaw31.SchemaWire', WHERE WHAT IT READS IS OF BULK AT MOST 1048576: true; the input reads as it did. -/
def schemaWireUptoRow : OpenClaim := { program := "ytonejdjhdjckjaa", sum := "9fb6f4cc09ee1972959372599c85f6345a05bfefddbbb33eaec7500eab662245", func := "landfall/landfalllaw31.SchemaWire", spec := "schemaWire", unfollowed := true, recurses := true, apart := false, narrowed := true }
def SchemaWireUptoSaid : Prop := schemaWireUptoRow.holds Try.pinned (OpenSpec.upto schemaWireSpec)

/-- 'landfalllaw31.SchemaTells', WHERE WHAT IT READS IS OF BULK AT MOST 1048576: true; the input reads as it did. -/
def schemaTellsUptoRow : OpenClaim := { program := "ytonejdjhdjckjaa", sum := "9fb6f4cc09ee1972959372599c85f6345a05bfefddbbb33eaec7500eab662245", func := "landfall/landfalllaw31.SchemaTells", spec := "schemaTells", unfollowed := true, recurses := true, apart := false, narrowed := true }
def SchemaTellsUptoSaid : Prop := schemaTellsUptoRow.holds Try.pinned (OpenSpec.upto schemaTellsSpec)

/-- 'landfalllaw31.SchemaPuts', WHERE WHAT IT READS IS OF BULK AT MOST 1048576: true; the input reads as it did. -/
def schemaPutsUptoRow : OpenClaim := { program := "ytonejdjhdjckjaa", sum := "9fb6f4cc09ee1972959372599c85f6345a05bfefddbbb33eaec7500eab662245", func := "landfall/landfalllaw31.SchemaPuts", spec := "schemaPuts", unfollowed := true, recurses := true, apart := false, narrowed := true }
def SchemaPutsUptoSaid : Prop := schemaPutsUptoRow.holds Try.pinned (OpenSpec.upto schemaPutsSpec)

/-- 'landfalllaw31.SchemaBack', WHERE WHAT IT READS IS OF BULK AT MOST 1048576: true; the input reads as it did. -/
def schemaBackUptoRow : OpenClaim := { program := "ytonejdjhdjckjaa", sum := "9fb6f4cc09ee1972959372599c85f6345a05bfefddbbb33eaec7500eab662245", func := "landfall/landfalllaw31.SchemaBack", spec := "schemaBack", unfollowed := true, recurses := true, apart := false, narrowed := true }
def SchemaBackUptoSaid : Prop := schemaBackUptoRow.holds Try.pinned (OpenSpec.upto schemaBackSpec)

/-- 'landfalllaw32.TlmPuts', WHERE WHAT IT READS IS OF BULK AT MOST 1048576: true; the input reads as it did. -/
def tlmPutsUptoRow : OpenClaim := { program := "ytonejdjhdjckjaa", sum := "9fb6f4cc09ee1972959372599c85f6345a05bfefddbbb33eaec7500eab662245", func := "landfall/landfalllaw32.TlmPuts", spec := "tlmPuts", unfollowed := true, recurses := true, apart := false, narrowed := true }
def TlmPutsUptoSaid : Prop := tlmPutsUptoRow.holds Try.pinned (OpenSpec.upto tlmPutsSpec)

/-- 'landfalllaw32.TlmBack', WHERE WHAT IT READS IS OF BULK AT MOST 1048576: true; the input reads as it did. -/
def tlmBackUptoRow : OpenClaim := { program := "ytonejdjhdjckjaa", sum := "9fb6f4cc09ee1972959372599c85f6345a05bfefddbbb33eaec7500eab662245", func := "landfall/landfalllaw32.TlmBack", spec := "tlmBack", unfollowed := true, recurses := true, apart := false, narrowed := true }
def TlmBackUptoSaid : Prop := tlmBackUptoRow.holds Try.pinned (OpenSpec.upto tlmBackSpec)

/-- 'landfalllaw32.TlmSteady', WHERE WHAT IT READS IS OF BULK AT MOST 1048576: true; the input reads as it did. -/
def tlmSteadyUptoRow : OpenClaim := { program := "ytonejdjhdjckjaa", sum := "9fb6f4cc09ee1972959372599c85f6345a05bfefddbbb33eaec7500eab662245", func := "landfall/landfalllaw32.TlmSteady", spec := "tlmSteady", unfollowed := true, recurses := true, apart := false, narrowed := true }
def TlmSteadyUptoSaid : Prop := tlmSteadyUptoRow.holds Try.pinned (OpenSpec.upto tlmSteadySpec)

/-- 'landfalllaw32.TlmBurst', WHERE WHAT IT READS IS OF BULK AT MOST 1048576: true; the input reads as it did. -/
def tlmBurstUptoRow : OpenClaim := { program := "ytonejdjhdjckjaa", sum := "9fb6f4cc09ee1972959372599c85f6345a05bfefddbbb33eaec7500eab662245", func := "landfall/landfalllaw32.TlmBurst", spec := "tlmBurst", unfollowed := true, recurses := true, apart := false, narrowed := true }
def TlmBurstUptoSaid : Prop := tlmBurstUptoRow.holds Try.pinned (OpenSpec.upto tlmBurstSpec)

end Rows
end Go.Proofs.Ytonejdjhdjckjaa
