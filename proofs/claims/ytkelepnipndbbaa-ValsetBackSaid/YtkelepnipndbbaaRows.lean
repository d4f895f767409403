/-
  No cell of these rows narrows 'for every input' (looked for: loops, veiled, ifaces, maps, wideKeys, modest, calm, conditions, laid).
  DERIVED. THE GIVEN ROWS OF THIS SEAT. 17 by the template 'for every input the law returns true; each argument reads behind the call as it read before'; 0 by the template 'total and deterministic' (their statements: YtkelepnipndbbaaTotals.lean).
  GIVEN WITH THE SEED: the statements are not yours to turn. If you find one false, say at which input.
  Laid BY PROGRAM, IN A SANDBOX (cutbox-rows.mjs): the forced cells as the released guide's own fill.sh prints them over the translation 9d7d03ed011c6461… (all of the seat's roots in one cut). By AI agents, Wed Nov 11 2026. No macro, syntax, notation, axiom, sorry.
-/
import Derived.Test.YtkelepnipndbbaaChecked
import GoSem.Claim
import GoSem.ClaimJoined
import GoSem.ClaimMapViews
import Derived.JoinedTies
import Derived.KernelRfl
namespace Go.Proofs.Ytkelepnipndbbaa
/- THE CELL 'sum', in the pinned program and in every row, IS THE sha256 OF THE DUMP (.gsa) THAT YtkelepnipndbbaaProg.lean LOADS. Nothing in Lean hashes anything: it is a label: what it is worth is what the hold of that sum in a sandbox is worth. -/
noncomputable def Try.pinned : Pinned := { name := "ytkelepnipndbbaa", sum := "9d7d03ed011c6461c6614ffbc329efec498431ad16b45ee86e5e746882f4bba8", checked := Try.checked }
namespace Rows
def none {H : Type} : Left H := { results := [], args := [] }

/-- 'landfalllaw19.AckPlays': WHATEVER THE INPUT: true; the input reads as it did. -/
def ackPlaysSpec : ChangeSpec := { name := "ackPlays", fn := fun _ => fun
  | [d] => { results := [.lit (.bool true)], args := [d] }
  | _ => none }
def ackPlaysRow : OpenClaim := { program := "ytkelepnipndbbaa", sum := "9d7d03ed011c6461c6614ffbc329efec498431ad16b45ee86e5e746882f4bba8", func := "landfall/landfalllaw19.AckPlays", spec := "ackPlays", unfollowed := true, recurses := true, apart := false }
def AckPlaysSaid : Prop := ackPlaysRow.holds Try.pinned (OpenSpec.ofChange ackPlaysSpec)

/-- ITS FALSE NEIGHBOUR: 'it returns false'. Refute it at one input. -/
def ackPlaysWrong : ChangeSpec := { name := "ackPlays", fn := fun _ => fun
  | [d] => { results := [.lit (.bool false)], args := [d] }
  | _ => none }
def AckPlaysWrongFalsely : Prop := ackPlaysRow.holds Try.pinned (OpenSpec.ofChange ackPlaysWrong)

/-- 'landfalllaw19.AckOnce': WHATEVER THE INPUT: true; the input reads as it did. -/
def ackOnceSpec : ChangeSpec := { name := "ackOnce", fn := fun _ => fun
  | [d] => { results := [.lit (.bool true)], args := [d] }
  | _ => none }
def ackOnceRow : OpenClaim := { program := "ytkelepnipndbbaa", sum := "9d7d03ed011c6461c6614ffbc329efec498431ad16b45ee86e5e746882f4bba8", func := "landfall/landfalllaw19.AckOnce", spec := "ackOnce", unfollowed := true, recurses := true, apart := false }
def AckOnceSaid : Prop := ackOnceRow.holds Try.pinned (OpenSpec.ofChange ackOnceSpec)

/-- ITS FALSE NEIGHBOUR: 'it returns false'. Refute it at one input. -/
def ackOnceWrong : ChangeSpec := { name := "ackOnce", fn := fun _ => fun
  | [d] => { results := [.lit (.bool false)], args := [d] }
  | _ => none }
def AckOnceWrongFalsely : Prop := ackOnceRow.holds Try.pinned (OpenSpec.ofChange ackOnceWrong)

/-- 'landfalllaw19.AckNil': WHATEVER THE INPUT: true; the input reads as it did. -/
def ackNilSpec : ChangeSpec := { name := "ackNil", fn := fun _ => fun
  | [d] => { results := [.lit (.bool true)], args := [d] }
  | _ => none }
def ackNilRow : OpenClaim := { program := "ytkelepnipndbbaa", sum := "9d7d03ed011c6461c6614ffbc329efec498431ad16b45ee86e5e746882f4bba8", func := "landfall/landfalllaw19.AckNil", spec := "ackNil", unfollowed := true, recurses := true, apart := false }
def AckNilSaid : Prop := ackNilRow.holds Try.pinned (OpenSpec.ofChange ackNilSpec)

/-- ITS FALSE NEIGHBOUR: 'it returns false'. Refute it at one input. -/
def ackNilWrong : ChangeSpec := { name := "ackNil", fn := fun _ => fun
  | [d] => { results := [.lit (.bool false)], args := [d] }
  | _ => none }
def AckNilWrongFalsely : Prop := ackNilRow.holds Try.pinned (OpenSpec.ofChange ackNilWrong)

/-- 'landfalllaw19.AckTells': WHATEVER THE INPUT: true; the input reads as it did. -/
def ackTellsSpec : ChangeSpec := { name := "ackTells", fn := fun _ => fun
  | [d1, d2] => { results := [.lit (.bool true)], args := [d1, d2] }
  | _ => none }
def ackTellsRow : OpenClaim := { program := "ytkelepnipndbbaa", sum := "9d7d03ed011c6461c6614ffbc329efec498431ad16b45ee86e5e746882f4bba8", func := "landfall/landfalllaw19.AckTells", spec := "ackTells", unfollowed := true, recurses := true, apart := false }
def AckTellsSaid : Prop := ackTellsRow.holds Try.pinned (OpenSpec.ofChange ackTellsSpec)

/-- ITS FALSE NEIGHBOUR: 'it returns false'. Refute it at one input. -/
def ackTellsWrong : ChangeSpec := { name := "ackTells", fn := fun _ => fun
  | [d1, d2] => { results := [.lit (.bool false)], args := [d1, d2] }
  | _ => none }
def AckTellsWrongFalsely : Prop := ackTellsRow.holds Try.pinned (OpenSpec.ofChange ackTellsWrong)

/-- 'landfalllaw18.DopTogether': WHATEVER THE INPUT: true; the input reads as it did. -/
def dopTogetherSpec : ChangeSpec := { name := "dopTogether", fn := fun _ => fun
  | [d1, d2] => { results := [.lit (.bool true)], args := [d1, d2] }
  | _ => none }
def dopTogetherRow : OpenClaim := { program := "ytkelepnipndbbaa", sum := "9d7d03ed011c6461c6614ffbc329efec498431ad16b45ee86e5e746882f4bba8", func := "landfall/landfalllaw18.DopTogether", spec := "dopTogether", inPlace := ["math/bits.Add64"], unfollowed := true, recurses := true, apart := false }
def DopTogetherSaid : Prop := dopTogetherRow.holds Try.pinned (OpenSpec.ofChange dopTogetherSpec)

/-- ITS FALSE NEIGHBOUR: 'it returns false'. Refute it at one input. -/
def dopTogetherWrong : ChangeSpec := { name := "dopTogether", fn := fun _ => fun
  | [d1, d2] => { results := [.lit (.bool false)], args := [d1, d2] }
  | _ => none }
def DopTogetherWrongFalsely : Prop := dopTogetherRow.holds Try.pinned (OpenSpec.ofChange dopTogetherWrong)

/-- 'landfalllaw18.DopTells': WHATEVER THE INPUT: true; the input reads as it did. -/
def dopTellsSpec : ChangeSpec := { name := "dopTells", fn := fun _ => fun
  | [d1, d2, d3, d4] => { results := [.lit (.bool true)], args := [d1, d2, d3, d4] }
  | _ => none }
def dopTellsRow : OpenClaim := { program := "ytkelepnipndbbaa", sum := "9d7d03ed011c6461c6614ffbc329efec498431ad16b45ee86e5e746882f4bba8", func := "landfall/landfalllaw18.DopTells", spec := "dopTells", inPlace := ["math/bits.Add64"], unfollowed := true, recurses := true, apart := false }
def DopTellsSaid : Prop := dopTellsRow.holds Try.pinned (OpenSpec.ofChange dopTellsSpec)

/-- ITS FALSE NEIGHBOUR: 'it returns false'. Refute it at one input. -/
def dopTellsWrong : ChangeSpec := { name := "dopTells", fn := fun _ => fun
  | [d1, d2, d3, d4] => { results := [.lit (.bool false)], args := [d1, d2, d3, d4] }
  | _ => none }
def DopTellsWrongFalsely : Prop := dopTellsRow.holds Try.pinned (OpenSpec.ofChange dopTellsWrong)

/-- 'landfalllaw18.DopBack': WHATEVER THE INPUT: true; the input reads as it did. -/
def dopBackSpec : ChangeSpec := { name := "dopBack", fn := fun _ => fun
  | [d1, d2] => { results := [.lit (.bool true)], args := [d1, d2] }
  | _ => none }
def dopBackRow : OpenClaim := { program := "ytkelepnipndbbaa", sum := "9d7d03ed011c6461c6614ffbc329efec498431ad16b45ee86e5e746882f4bba8", func := "landfall/landfalllaw18.DopBack", spec := "dopBack", inPlace := ["math/bits.Add64"], unfollowed := true, recurses := true, apart := false }
def DopBackSaid : Prop := dopBackRow.holds Try.pinned (OpenSpec.ofChange dopBackSpec)

/-- ITS FALSE NEIGHBOUR: 'it returns false'. Refute it at one input. -/
def dopBackWrong : ChangeSpec := { name := "dopBack", fn := fun _ => fun
  | [d1, d2] => { results := [.lit (.bool false)], args := [d1, d2] }
  | _ => none }
def DopBackWrongFalsely : Prop := dopBackRow.holds Try.pinned (OpenSpec.ofChange dopBackWrong)

/-- 'landfalllaw16.PvtSpeed': WHATEVER THE INPUT: true; the input reads as it did. -/
def pvtSpeedSpec : ChangeSpec := { name := "pvtSpeed", fn := fun _ => fun
  | [d1, d2, d3] => { results := [.lit (.bool true)], args := [d1, d2, d3] }
  | _ => none }
def pvtSpeedRow : OpenClaim := { program := "ytkelepnipndbbaa", sum := "9d7d03ed011c6461c6614ffbc329efec498431ad16b45ee86e5e746882f4bba8", func := "landfall/landfalllaw16.PvtSpeed", spec := "pvtSpeed", unfollowed := true, recurses := true, apart := false }
def PvtSpeedSaid : Prop := pvtSpeedRow.holds Try.pinned (OpenSpec.ofChange pvtSpeedSpec)

/-- ITS FALSE NEIGHBOUR: 'it returns false'. Refute it at one input. -/
def pvtSpeedWrong : ChangeSpec := { name := "pvtSpeed", fn := fun _ => fun
  | [d1, d2, d3] => { results := [.lit (.bool false)], args := [d1, d2, d3] }
  | _ => none }
def PvtSpeedWrongFalsely : Prop := pvtSpeedRow.holds Try.pinned (OpenSpec.ofChange pvtSpeedWrong)

/-- 'landfalllaw16.PvtPuts': WHATEVER THE INPUT: true; the input reads as it did. -/
def pvtPutsSpec : ChangeSpec := { name := "pvtPuts", fn := fun _ => fun
  | [d] => { results := [.lit (.bool true)], args := [d] }
  | _ => none }
def pvtPutsRow : OpenClaim := { program := "ytkelepnipndbbaa", sum := "9d7d03ed011c6461c6614ffbc329efec498431ad16b45ee86e5e746882f4bba8", func := "landfall/landfalllaw16.PvtPuts", spec := "pvtPuts", unfollowed := true, recurses := true, apart := false }
def PvtPutsSaid : Prop := pvtPutsRow.holds Try.pinned (OpenSpec.ofChange pvtPutsSpec)

/-- ITS FALSE NEIGHBOUR: 'it returns false'. Refute it at one input. -/
def pvtPutsWrong : ChangeSpec := { name := "pvtPuts", fn := fun _ => fun
  | [d] => { results := [.lit (.bool false)], args := [d] }
  | _ => none }
def PvtPutsWrongFalsely : Prop := pvtPutsRow.holds Try.pinned (OpenSpec.ofChange pvtPutsWrong)

/-- 'landfalllaw16.PvtTakes': WHATEVER THE INPUT: true; the input reads as it did. -/
def pvtTakesSpec : ChangeSpec := { name := "pvtTakes", fn := fun _ => fun
  | [d1, d2] => { results := [.lit (.bool true)], args := [d1, d2] }
  | _ => none }
def pvtTakesRow : OpenClaim := { program := "ytkelepnipndbbaa", sum := "9d7d03ed011c6461c6614ffbc329efec498431ad16b45ee86e5e746882f4bba8", func := "landfall/landfalllaw16.PvtTakes", spec := "pvtTakes", unfollowed := true, recurses := true, apart := false }
def PvtTakesSaid : Prop := pvtTakesRow.holds Try.pinned (OpenSpec.ofChange pvtTakesSpec)

/-- ITS FALSE NEIGHBOUR: 'it returns false'. Refute it at one input. -/
def pvtTakesWrong : ChangeSpec := { name := "pvtTakes", fn := fun _ => fun
  | [d1, d2] => { results := [.lit (.bool false)], args := [d1, d2] }
  | _ => none }
def PvtTakesWrongFalsely : Prop := pvtTakesRow.holds Try.pinned (OpenSpec.ofChange pvtTakesWrong)

/-- 'landfalllaw16.PvtBack': WHATEVER THE INPUT: true; the input reads as it did. -/
def pvtBackSpec : ChangeSpec := { name := "pvtBack", fn := fun _ => fun
  | [d1, d2] => { results := [.lit (.bool true)], args := [d1, d2] }
  | _ => none }
def pvtBackRow : OpenClaim := { program := "ytkelepnipndbbaa", sum := "9d7d03ed011c6461c6614ffbc329efec498431ad16b45ee86e5e746882f4bba8", func := "landfall/landfalllaw16.PvtBack", spec := "pvtBack", unfollowed := true, recurses := true, apart := false }
def PvtBackSaid : Prop := pvtBackRow.holds Try.pinned (OpenSpec.ofChange pvtBackSpec)

/-- ITS FALSE NEIGHBOUR: 'it returns false'. Refute it at one input. -/
def pvtBackWrong : ChangeSpec := { name := "pvtBack", fn := fun _ => fun
  | [d1, d2] => { results := [.lit (.bool false)], args := [d1, d2] }
  | _ => none }
def PvtBackWrongFalsely : Prop := pvtBackRow.holds Try.pinned (OpenSpec.ofChange pvtBackWrong)

/-- 'landfalllaw17.SatsPuts': WHATEVER THE INPUT: true; the input reads as it did. -/
def satsPutsSpec : ChangeSpec := { name := "satsPuts", fn := fun _ => fun
  | [d] => { results := [.lit (.bool true)], args := [d] }
  | _ => none }
def satsPutsRow : OpenClaim := { program := "ytkelepnipndbbaa", sum := "9d7d03ed011c6461c6614ffbc329efec498431ad16b45ee86e5e746882f4bba8", func := "landfall/landfalllaw17.SatsPuts", spec := "satsPuts", unfollowed := true, recurses := true, apart := false }
def SatsPutsSaid : Prop := satsPutsRow.holds Try.pinned (OpenSpec.ofChange satsPutsSpec)

/-- ITS FALSE NEIGHBOUR: 'it returns false'. Refute it at one input. -/
def satsPutsWrong : ChangeSpec := { name := "satsPuts", fn := fun _ => fun
  | [d] => { results := [.lit (.bool false)], args := [d] }
  | _ => none }
def SatsPutsWrongFalsely : Prop := satsPutsRow.holds Try.pinned (OpenSpec.ofChange satsPutsWrong)

/-- 'landfalllaw17.SatsTakes': WHATEVER THE INPUT: true; the input reads as it did. -/
def satsTakesSpec : ChangeSpec := { name := "satsTakes", fn := fun _ => fun
  | [d] => { results := [.lit (.bool true)], args := [d] }
  | _ => none }
def satsTakesRow : OpenClaim := { program := "ytkelepnipndbbaa", sum := "9d7d03ed011c6461c6614ffbc329efec498431ad16b45ee86e5e746882f4bba8", func := "landfall/landfalllaw17.SatsTakes", spec := "satsTakes", unfollowed := true, recurses := true, apart := false }
def SatsTakesSaid : Prop := satsTakesRow.holds Try.pinned (OpenSpec.ofChange satsTakesSpec)

/-- ITS FALSE NEIGHBOUR: 'it returns false'. Refute it at one input. -/
def satsTakesWrong : ChangeSpec := { name := "satsTakes", fn := fun _ => fun
  | [d] => { results := [.lit (.bool false)], args := [d] }
  | _ => none }
def SatsTakesWrongFalsely : Prop := satsTakesRow.holds Try.pinned (OpenSpec.ofChange satsTakesWrong)

/-- 'landfalllaw17.SatsBack': WHATEVER THE INPUT: true; the input reads as it did. -/
def satsBackSpec : ChangeSpec := { name := "satsBack", fn := fun _ => fun
  | [d1, d2] => { results := [.lit (.bool true)], args := [d1, d2] }
  | _ => none }
def satsBackRow : OpenClaim := { program := "ytkelepnipndbbaa", sum := "9d7d03ed011c6461c6614ffbc329efec498431ad16b45ee86e5e746882f4bba8", func := "landfall/landfalllaw17.SatsBack", spec := "satsBack", unfollowed := true, recurses := true, apart := false }
def SatsBackSaid : Prop := satsBackRow.holds Try.pinned (OpenSpec.ofChange satsBackSpec)

/-- ITS FALSE NEIGHBOUR: 'it returns false'. Refute it at one input. -/
def satsBackWrong : ChangeSpec := { name := "satsBack", fn := fun _ => fun
  | [d1, d2] => { results := [.lit (.bool false)], args := [d1, d2] }
  | _ => none }
def SatsBackWrongFalsely : Prop := satsBackRow.holds Try.pinned (OpenSpec.ofChange satsBackWrong)

/-- 'landfalllaw20.ValsetPuts': WHATEVER THE INPUT: true; the input reads as it did. -/
def valsetPutsSpec : ChangeSpec := { name := "valsetPuts", fn := fun _ => fun
  | [d1, d2] => { results := [.lit (.bool true)], args := [d1, d2] }
  | _ => none }
def valsetPutsRow : OpenClaim := { program := "ytkelepnipndbbaa", sum := "9d7d03ed011c6461c6614ffbc329efec498431ad16b45ee86e5e746882f4bba8", func := "landfall/landfalllaw20.ValsetPuts", spec := "valsetPuts", unfollowed := true, recurses := true, apart := false }
def ValsetPutsSaid : Prop := valsetPutsRow.holds Try.pinned (OpenSpec.ofChange valsetPutsSpec)

/-- ITS FALSE NEIGHBOUR: 'it returns false'. Refute it at one input. -/
def valsetPutsWrong : ChangeSpec := { name := "valsetPuts", fn := fun _ => fun
  | [d1, d2] => { results := [.lit (.bool false)], args := [d1, d2] }
  | _ => none }
def ValsetPutsWrongFalsely : Prop := valsetPutsRow.holds Try.pinned (OpenSpec.ofChange valsetPutsWrong)

/-- 'landfalllaw20.ValsetTakes': WHATEVER THE INPUT: true; the input reads as it did. -/
def valsetTakesSpec : ChangeSpec := { name := "valsetTakes", fn := fun _ => fun
  | [d] => { results := [.lit (.bool true)], args := [d] }
  | _ => none }
def valsetTakesRow : OpenClaim := { program := "ytkelepnipndbbaa", sum := "9d7d03ed011c6461c6614ffbc329efec498431ad16b45ee86e5e746882f4bba8", func := "landfall/landfalllaw20.ValsetTakes", spec := "valsetTakes", unfollowed := true, recurses := true, apart := false }
def ValsetTakesSaid : Prop := valsetTakesRow.holds Try.pinned (OpenSpec.ofChange valsetTakesSpec)

/-- ITS FALSE NEIGHBOUR: 'it returns false'. Refute it at one input. -/
def valsetTakesWrong : ChangeSpec := { name := "valsetTakes", fn := fun _ => fun
  | [d] => { results := [.lit (.bool false)], args := [d] }
  | _ => none }
def ValsetTakesWrongFalsely : Prop := valsetTakesRow.holds Try.pinned (OpenSpec.ofChange valsetTakesWrong)

/-- 'landfalllaw20.ValsetBack': WHATEVER THE INPUT: true; the input reads as it did. -/
def valsetBackSpec : ChangeSpec := { name := "valsetBack", fn := fun _ => fun
  | [d1, d2] => { results := [.lit (.bool true)], args := [d1, d2] }
  | _ => none }
def valsetBackRow : OpenClaim := { program := "ytkelepnipndbbaa", sum := "9d7d03ed011c6461c6614ffbc329efec498431ad16b45ee86e5e746882f4bba8", func := "landfall/landfalllaw20.ValsetBack", spec := "valsetBack", unfollowed := true, recurses := true, apart := false }
def ValsetBackSaid : Prop := valsetBackRow.holds Try.pinned (OpenSpec.ofChange valsetBackSpec)

/-- ITS FALSE NEIGHBOUR: 'it returns false'. Refute it at one input. -/
def valsetBackWrong : ChangeSpec := { name := "valsetBack", fn := fun _ => fun
  | [d1, d2] => { results := [.lit (.bool false)], args := [d1, d2] }
  | _ => none }
def ValsetBackWrongFalsely : Prop := valsetBackRow.holds Try.pinned (OpenSpec.ofChange valsetBackWrong)

/- THE SECOND FORM. 'bulk': how many values and letters a reading holds, each counted each time it is reached (what is shared counts as often as it is met; a slice's spare places count too). A statement '..UptoSaid' is the law's where the arguments, and the package variables that the reading takes, are together of bulk at most 1048576: NARROWER than '..Said'. Prove '..Said' where nothing that the law and all that it calls make is longer than what came in: it says more and counts as full. Else prove '..UptoSaid'. A law counts once. -/
mutual
def uptoBulk {H : Type} : DataW H → Nat
  | .lit (.string bytes) => bytes.length + 1
  | .lit _ => 1
  | .nil => 1
  | .ptr d => uptoBulk d + 1
  | .slice elems spare => uptoBulkAll elems + uptoBulkAll spare + 1
  | .agg parts => uptoBulkAll parts + 1
  | .iface _ d => uptoBulk d + 1
  | .map entries => uptoBulkEntries entries + 1
  | .held _ => 1
def uptoBulkAll {H : Type} : List (DataW H) → Nat
  | [] => 0
  | d :: r => uptoBulk d + uptoBulkAll r
def uptoBulkEntries {H : Type} : List (Lit × DataW H) → Nat
  | [] => 0
  | x :: r => uptoBulkEntry x + uptoBulkEntries r
def uptoBulkEntry {H : Type} : Lit × DataW H → Nat
  | (.string bytes, d) => bytes.length + uptoBulk d + 1
  | (_, d) => uptoBulk d + 1
 end
def uptoSmall : (H : Type) → List (DataW H) → Bool := fun _ ds => decide (uptoBulkAll ds ≤ 1048576)
def OpenSpec.upto (s : _root_.Go.ChangeSpec) : _root_.Go.OpenSpec := { _root_.Go.OpenSpec.ofChange s with cond := some uptoSmall }

/-- 'landfalllaw19.AckPlays', WHERE WHAT IT READS IS OF BULK AT MOST 1048576: true; the input reads as it did. -/
def ackPlaysUptoRow : OpenClaim := { program := "ytkelepnipndbbaa", sum := "9d7d03ed011c6461c6614ffbc329efec498431ad16b45ee86e5e746882f4bba8", func := "landfall/landfalllaw19.AckPlays", spec := "ackPlays", unfollowed := true, recurses := true, apart := false, narrowed := true }
def AckPlaysUptoSaid : Prop := ackPlaysUptoRow.holds Try.pinned (OpenSpec.upto ackPlaysSpec)

/-- 'landfalllaw19.AckOnce', WHERE WHAT IT READS IS OF BULK AT MOST 1048576: true; the input reads as it did. -/
def ackOnceUptoRow : OpenClaim := { program := "ytkelepnipndbbaa", sum := "9d7d03ed011c6461c6614ffbc329efec498431ad16b45ee86e5e746882f4bba8", func := "landfall/landfalllaw19.AckOnce", spec := "ackOnce", unfollowed := true, recurses := true, apart := false, narrowed := true }
def AckOnceUptoSaid : Prop := ackOnceUptoRow.holds Try.pinned (OpenSpec.upto ackOnceSpec)

/-- 'landfalllaw19.AckNil', WHERE WHAT IT READS IS OF BULK AT MOST 1048576: true; the input reads as it did. -/
def ackNilUptoRow : OpenClaim := { program := "ytkelepnipndbbaa", sum := "9d7d03ed011c6461c6614ffbc329efec498431ad16b45ee86e5e746882f4bba8", func := "landfall/landfalllaw19.AckNil", spec := "ackNil", unfollowed := true, recurses := true, apart := false, narrowed := true }
def AckNilUptoSaid : Prop := ackNilUptoRow.holds Try.pinned (OpenSpec.upto ackNilSpec)

/-- 'landfalllaw19.AckTells', WHERE WHAT IT READS IS OF BULK AT MOST 1048576: true; the input reads as it did. -/
def ackTellsUptoRow : OpenClaim := { program := "ytkelepnipndbbaa", sum := "9d7d03ed011c6461c6614ffbc329efec498431ad16b45ee86e5e746882f4bba8", func := "landfall/landfalllaw19.AckTells", spec := "ackTells", unfollowed := true, recurses := true, apart := false, narrowed := true }
def AckTellsUptoSaid : Prop := ackTellsUptoRow.holds Try.pinned (OpenSpec.upto ackTellsSpec)

/-- 'landfalllaw18.DopTogether', WHERE WHAT IT READS IS OF BULK AT MOST 1048576: true; the input reads as it did. -/
def dopTogetherUptoRow : OpenClaim := { program := "ytkelepnipndbbaa", sum := "9d7d03ed011c6461c6614ffbc329efec498431ad16b45ee86e5e746882f4bba8", func := "landfall/landfalllaw18.DopTogether", spec := "dopTogether", inPlace := ["math/bits.Add64"], unfollowed := true, recurses := true, apart := false, narrowed := true }
def DopTogetherUptoSaid : Prop := dopTogetherUptoRow.holds Try.pinned (OpenSpec.upto dopTogetherSpec)

/-- 'landfalllaw18.DopTells', WHERE WHAT IT READS IS OF BULK AT MOST 1048576: true; the input reads as it did. -/
def dopTellsUptoRow : OpenClaim := { program := "ytkelepnipndbbaa", sum := "9d7d03ed011c6461c6614ffbc329efec498431ad16b45ee86e5e746882f4bba8", func := "landfall/landfalllaw18.DopTells", spec := "dopTells", inPlace := ["math/bits.Add64"], unfollowed := true, recurses := true, apart := false, narrowed := true }
def DopTellsUptoSaid : Prop := dopTellsUptoRow.holds Try.pinned (OpenSpec.upto dopTellsSpec)

/-- 'landfalllaw18.DopBack', WHERE WHAT IT READS IS OF BULK AT MOST 1048576: true; the input reads as it did. -/
def dopBackUptoRow : OpenClaim := { program := "ytkelepnipndbbaa", sum := "9d7d03ed011c6461c6614ffbc329efec498431ad16b45ee86e5e746882f4bba8", func := "landfall/landfalllaw18.DopBack", spec := "dopBack", inPlace := ["math/bits.Add64"], unfollowed := true, recurses := true, apart := false, narrowed := true }
def DopBackUptoSaid : Prop := dopBackUptoRow.holds Try.pinned (OpenSpec.upto dopBackSpec)

/-- 'landfalllaw16.PvtSpeed', WHERE WHAT IT READS IS OF BULK AT MOST 1048576: true; the input reads as it did. -/
def pvtSpeedUptoRow : OpenClaim := { program := "ytkelepnipndbbaa", sum := "9d7d03ed011c6461c6614ffbc329efec498431ad16b45ee86e5e746882f4bba8", func := "landfall/landfalllaw16.PvtSpeed", spec := "pvtSpeed", unfollowed := true, recurses := true, apart := false, narrowed := true }
def PvtSpeedUptoSaid : Prop := pvtSpeedUptoRow.holds Try.pinned (OpenSpec.upto pvtSpeedSpec)

/-- 'landfalllaw16.PvtPuts', WHERE WHAT IT READS IS OF BULK AT MOST 1048576: true; the input reads as it did. -/
def pvtPutsUptoRow : OpenClaim := { program := "ytkelepnipndbbaa", sum := "9d7d03ed011c6461c6614ffbc329efec498431ad16b45ee86e5e746882f4bba8", func := "landfall/landfalllaw16.PvtPuts", spec := "pvtPuts", unfollowed := true, recurses := true, apart := false, narrowed := true }
def PvtPutsUptoSaid : Prop := pvtPutsUptoRow.holds Try.pinned (OpenSpec.upto pvtPutsSpec)

/-- 'landfalllaw16.PvtTakes', WHERE WHAT IT READS IS OF BULK AT MOST 1048576: true; the input reads as it did. -/
def pvtTakesUptoRow : OpenClaim := { program := "ytkelepnipndbbaa", sum := "9d7d03ed011c6461c6614ffbc329efec498431ad16b45ee86e5e746882f4bba8", func := "landfall/landfalllaw16.PvtTakes", spec := "pvtTakes", unfollowed := true, recurses := true, apart := false, narrowed := true }
def PvtTakesUptoSaid : Prop := pvtTakesUptoRow.holds Try.pinned (OpenSpec.upto pvtTakesSpec)

/-- 'landfalllaw16.PvtBack', WHERE WHAT IT READS IS OF BULK AT MOST 1048576: true; the input reads as it did. -/
def pvtBackUptoRow : OpenClaim := { program := "ytkelepnipndbbaa", sum := "9d7d03ed011c6461c6614ffbc329efec498431ad16b45ee86e5e746882f4bba8", func := "landfall/landfalllaw16.PvtBack", spec := "pvtBack", unfollowed := true, recurses := true, apart := false, narrowed := true }
def PvtBackUptoSaid : Prop := pvtBackUptoRow.holds Try.pinned (OpenSpec.upto pvtBackSpec)

/-- 'landfalllaw17.SatsPuts', WHERE WHAT IT READS IS OF BULK AT MOST 1048576: true; the input reads as it did. -/
def satsPutsUptoRow : OpenClaim := { program := "ytkelepnipndbbaa", sum := "9d7d03ed011c6461c6614ffbc329efec498431ad16b45ee86e5e746882f4bba8", func := "landfall/landfalllaw17.SatsPuts", spec := "satsPuts", unfollowed := true, recurses := true, apart := false, narrowed := true }
def SatsPutsUptoSaid : Prop := satsPutsUptoRow.holds Try.pinned (OpenSpec.upto satsPutsSpec)

/-- 'landfalllaw17.SatsTakes', WHERE WHAT IT READS IS OF BULK AT MOST 1048576: true; the input reads as it did. -/
def satsTakesUptoRow : OpenClaim := { program := "ytkelepnipndbbaa", sum := "9d7d03ed011c6461c6614ffbc329efec498431ad16b45ee86e5e746882f4bba8", func := "landfall/landfalllaw17.SatsTakes", spec := "satsTakes", unfollowed := true, recurses := true, apart := false, narrowed := true }
def SatsTakesUptoSaid : Prop := satsTakesUptoRow.holds Try.pinned (OpenSpec.upto satsTakesSpec)

/-- 'landfalllaw17.SatsBack', WHERE WHAT IT READS IS OF BULK AT MOST 1048576: true; the input reads as it did. -/
def satsBackUptoRow : OpenClaim := { program := "ytkelepnipndbbaa", sum := "9d7d03ed011c6461c6614ffbc329efec498431ad16b45ee86e5e746882f4bba8", func := "landfall/landfalllaw17.SatsBack", spec := "satsBack", unfollowed := true, recurses := true, apart := false, narrowed := true }
def SatsBackUptoSaid : Prop := satsBackUptoRow.holds Try.pinned (OpenSpec.upto satsBackSpec)

/-- 'landfalllaw20.ValsetPuts', WHERE WHAT IT READS IS OF BULK AT MOST 1048576: true; the input reads as it did. -/
def valsetPutsUptoRow : OpenClaim := { program := "ytkelepnipndbbaa", sum := "9d7d03ed011c6461c6614ffbc329efec498431ad16b45ee86e5e746882f4bba8", func := "landfall/landfalllaw20.ValsetPuts", spec := "valsetPuts", unfollowed := true, recurses := true, apart := false, narrowed := true }
def ValsetPutsUptoSaid : Prop := valsetPutsUptoRow.holds Try.pinned (OpenSpec.upto valsetPutsSpec)

/-- 'landfalllaw20.ValsetTakes', WHERE WHAT IT READS IS OF BULK AT MOST 1048576: true; the input reads as it did. -/
def valsetTakesUptoRow : OpenClaim := { program := "ytkelepnipndbbaa", sum := "9d7d03ed011c6461c6614ffbc329efec498431ad16b45ee86e5e746882f4bba8", func := "landfall/landfalllaw20.ValsetTakes", spec := "valsetTakes", unfollowed := true, recurses := true, apart := false, narrowed := true }
def ValsetTakesUptoSaid : Prop := valsetTakesUptoRow.holds Try.pinned (OpenSpec.upto valsetTakesSpec)

/-- 'landfalllaw20.ValsetBack', WHERE WHAT IT READS IS OF BULK AT MOST 1048576: true; the input reads as it did. -/
def valsetBackUptoRow : OpenClaim := { program := "ytkelepnipndbbaa", sum := "9d7d03ed011c6461c6614ffbc329efec498431ad16b45ee86e5e746882f4bba8", func := "landfall/landfalllaw20.ValsetBack", spec := "valsetBack", unfollowed := true, recurses := true, apart := false, narrowed := true }
def ValsetBackUptoSaid : Prop := valsetBackUptoRow.holds Try.pinned (OpenSpec.upto valsetBackSpec)

end Rows
end Go.Proofs.Ytkelepnipndbbaa
