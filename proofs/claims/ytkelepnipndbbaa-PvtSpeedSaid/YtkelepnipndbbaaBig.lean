/-
  Where a walk halts: ahead of a load, or a store, of a certain type.
-/
import Derived.Test.YtkelepnipndbbaaCells
import Derived.Laws.Rows
set_option linter.unusedSimpArgs false
set_option linter.unusedVariables false
namespace Go.Proofs.Ytkelepnipndbbaa
open Go.RowKit

theorem stop_loadT (t : TypeId) {P : Program} {w : World} {ops : Array Oper} {rest : List Oper} {a : Act} {Q : Exit → Act → World → Prop} {d : Option Tmp} {x : Operand} {ty : TypeId} {pos : String} {af : Array Edge}
    (h : Stop (wpList P ops Q (⟨d, .load t x, ty, pos, af, none⟩ :: rest) a w)) : wpList P ops Q (⟨d, .load t x, ty, pos, af, none⟩ :: rest) a w := h
theorem stop_storeT (t : TypeId) {P : Program} {w : World} {ops : Array Oper} {rest : List Oper} {a : Act} {Q : Exit → Act → World → Prop} {x y : Operand} {ty : TypeId} {pos : String} {af : Array Edge}
    (h : Stop (wpList P ops Q (⟨none, .store t x y, ty, pos, af, none⟩ :: rest) a w)) : wpList P ops Q (⟨none, .store t x y, ty, pos, af, none⟩ :: rest) a w := h

end Go.Proofs.Ytkelepnipndbbaa
