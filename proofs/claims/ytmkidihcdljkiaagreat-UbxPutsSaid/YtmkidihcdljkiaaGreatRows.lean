/-
  No cell of these rows narrows 'for every input' (looked for: loops, veiled, ifaces, maps, wideKeys, modest, calm, conditions, laid).
  DERIVED. THE GIVEN ROWS OF THIS SEAT. 3 by the template 'for every input the law returns true; each argument reads behind the call as it read before'; 0 by the template 'total and deterministic' (their statements: YtmkidihcdljkiaaGreatTotals.lean).
  GIVEN WITH THE SEED: the statements are not yours to turn. If you find one false, say at which input.
  Laid BY PROGRAM, IN A SANDBOX (cutbox-rows.mjs): the forced cells as the released guide's own fill.sh prints them over the translation f8dd536671e4625a… (all of the seat's roots in one cut). By AI agents, Wed Nov 11 2026. No macro, syntax, notation, axiom, sorry.
-/
import Derived.Test.YtmkidihcdljkiaaGreatChecked
import GoSem.Claim
import GoSem.ClaimJoined
import GoSem.ClaimMapViews
import Derived.JoinedTies
import Derived.KernelRfl
namespace Go.Proofs.YtmkidihcdljkiaaGreat
/- THE CELL 'sum', in the pinned program and in every row, IS THE sha256 OF THE DUMP (.gsa) THAT YtmkidihcdljkiaaGreatProg.lean LOADS. Nothing in Lean hashes anything: it is a label: what it is worth is what the hold of that sum in a sandbox is worth. -/
noncomputable def Tryz.pinned : Pinned := { name := "ytmkidihcdljkiaagreat", sum := "f8dd536671e4625aca092f3874f1813de3844d1685f10aa79a4d1183e367d46f", checked := Tryz.checked }
namespace Rows
def none {H : Type} : Left H := { results := [], args := [] }

/-- 'landfalllaw21.UbxPuts': WHATEVER THE INPUT: true; the input reads as it did. -/
def ubxPutsSpec : ChangeSpec := { name := "ubxPuts", fn := fun _ => fun
  | [d] => { results := [.lit (.bool true)], args := [d] }
  | _ => none }
def ubxPutsRow : OpenClaim := { program := "ytmkidihcdljkiaagreat", sum := "f8dd536671e4625aca092f3874f1813de3844d1685f10aa79a4d1183e367d46f", func := "landfall/landfalllaw21.UbxPuts", spec := "ubxPuts", unfollowed := true, recurses := true, apart := false }
def UbxPutsSaid : Prop := ubxPutsRow.holds Tryz.pinned (OpenSpec.ofChange ubxPutsSpec)

/-- ITS FALSE NEIGHBOUR: 'it returns false'. Refute it at one input. -/
def ubxPutsWrong : ChangeSpec := { name := "ubxPuts", fn := fun _ => fun
  | [d] => { results := [.lit (.bool false)], args := [d] }
  | _ => none }
def UbxPutsWrongFalsely : Prop := ubxPutsRow.holds Tryz.pinned (OpenSpec.ofChange ubxPutsWrong)

/-- 'landfalllaw21.UbxTakes': WHATEVER THE INPUT: true; the input reads as it did. -/
def ubxTakesSpec : ChangeSpec := { name := "ubxTakes", fn := fun _ => fun
  | [d1, d2] => { results := [.lit (.bool true)], args := [d1, d2] }
  | _ => none }
def ubxTakesRow : OpenClaim := { program := "ytmkidihcdljkiaagreat", sum := "f8dd536671e4625aca092f3874f1813de3844d1685f10aa79a4d1183e367d46f", func := "landfall/landfalllaw21.UbxTakes", spec := "ubxTakes", unfollowed := true, recurses := true, apart := false }
def UbxTakesSaid : Prop := ubxTakesRow.holds Tryz.pinned (OpenSpec.ofChange ubxTakesSpec)

/-- ITS FALSE NEIGHBOUR: 'it returns false'. Refute it at one input. -/
def ubxTakesWrong : ChangeSpec := { name := "ubxTakes", fn := fun _ => fun
  | [d1, d2] => { results := [.lit (.bool false)], args := [d1, d2] }
  | _ => none }
def UbxTakesWrongFalsely : Prop := ubxTakesRow.holds Tryz.pinned (OpenSpec.ofChange ubxTakesWrong)

/-- 'landfalllaw21.UbxBack': WHATEVER THE INPUT: true; the input reads as it did. -/
def ubxBackSpec : ChangeSpec := { name := "ubxBack", fn := fun _ => fun
  | [d1, d2] => { results := [.lit (.bool true)], args := [d1, d2] }
  | _ => none }
def ubxBackRow : OpenClaim := { program := "ytmkidihcdljkiaagreat", sum := "f8dd536671e4625aca092f3874f1813de3844d1685f10aa79a4d1183e367d46f", func := "landfall/landfalllaw21.UbxBack", spec := "ubxBack", unfollowed := true, recurses := true, apart := false }
def UbxBackSaid : Prop := ubxBackRow.holds Tryz.pinned (OpenSpec.ofChange ubxBackSpec)

/-- ITS FALSE NEIGHBOUR: 'it returns false'. Refute it at one input. -/
def ubxBackWrong : ChangeSpec := { name := "ubxBack", fn := fun _ => fun
  | [d1, d2] => { results := [.lit (.bool false)], args := [d1, d2] }
  | _ => none }
def UbxBackWrongFalsely : Prop := ubxBackRow.holds Tryz.pinned (OpenSpec.ofChange ubxBackWrong)

/- THE SECOND FORM. 'bulk': how many values and letters a reading holds, each counted each time it is reached (what is shared counts as often as it is met; a slice's spare places count too). A statement '..UptoSaid' is the law's where the arguments, and the package variables that the reading takes, are together of bulk at most 1048576: NARROWER than '..Said'. Prove '..Said' where nothing that the law and all that it calls make is longer than what came in: it says more and counts as full. Else prove '..UptoSaid'. A law counts once. -/
mutual
def uptoBulk {H : Type} : DataW H → Nat
  | .lit (.string bytes) => bytes.length + 1
  | .lit _ => 1
  | .nil => 1
  | .ptr d => uptoBulk d + 1
  | .slice elems spare => uptoBulkAll elems + uptoBulkAll spare + 1
  | .agg parts => uptoBulkAll parts + 1
  | .iface _ d => uptoBulk d + 1
  | .map entries => uptoBulkEntries entries + 1
  | .held _ => 1
def uptoBulkAll {H : Type} : List (DataW H) → Nat
  | [] => 0
  | d :: r => uptoBulk d + uptoBulkAll r
def uptoBulkEntries {H : Type} : List (Lit × DataW H) → Nat
  | [] => 0
  | x :: r => uptoBulkEntry x + uptoBulkEntries r
def uptoBulkEntry {H : Type} : Lit × DataW H → Nat
  | (.string bytes, d) => bytes.length + uptoBulk d + 1
  | (_, d) => uptoBulk d + 1
 end
def uptoSmall : (H : Type) → List (DataW H) → Bool := fun _ ds => decide (uptoBulkAll ds ≤ 1048576)
def OpenSpec.upto (s : _root_.Go.ChangeSpec) : _root_.Go.OpenSpec := { _root_.Go.OpenSpec.ofChange s with cond := some uptoSmall }

/-- 'landfalllaw21.UbxPuts', WHERE WHAT IT READS IS OF BULK AT MOST 1048576: true; the input reads as it did. -/
def ubxPutsUptoRow : OpenClaim := { program := "ytmkidihcdljkiaagreat", sum := "f8dd536671e4625aca092f3874f1813de3844d1685f10aa79a4d1183e367d46f", func := "landfall/landfalllaw21.UbxPuts", spec := "ubxPuts", unfollowed := true, recurses := true, apart := false, narrowed := true }
def UbxPutsUptoSaid : Prop := ubxPutsUptoRow.holds Tryz.pinned (OpenSpec.upto ubxPutsSpec)

/-- 'landfalllaw21.UbxTakes', WHERE WHAT IT READS IS OF BULK AT MOST 1048576: true; the input reads as it did. -/
def ubxTakesUptoRow : OpenClaim := { program := "ytmkidihcdljkiaagreat", sum := "f8dd536671e4625aca092f3874f1813de3844d1685f10aa79a4d1183e367d46f", func := "landfall/landfalllaw21.UbxTakes", spec := "ubxTakes", unfollowed := true, recurses := true, apart := false, narrowed := true }
def UbxTakesUptoSaid : Prop := ubxTakesUptoRow.holds Tryz.pinned (OpenSpec.upto ubxTakesSpec)

/-- 'landfalllaw21.UbxBack', WHERE WHAT IT READS IS OF BULK AT MOST 1048576: true; the input reads as it did. -/
def ubxBackUptoRow : OpenClaim := { program := "ytmkidihcdljkiaagreat", sum := "f8dd536671e4625aca092f3874f1813de3844d1685f10aa79a4d1183e367d46f", func := "landfall/landfalllaw21.UbxBack", spec := "ubxBack", unfollowed := true, recurses := true, apart := false, narrowed := true }
def UbxBackUptoSaid : Prop := ubxBackUptoRow.holds Tryz.pinned (OpenSpec.upto ubxBackSpec)

end Rows
end Go.Proofs.YtmkidihcdljkiaaGreat
