/-
  Arguments that are structs, opened.
-/
import Derived.Test.YtonejdjhdjckjaaGreatOpen
set_option linter.unusedSimpArgs false
set_option linter.unusedVariables false
namespace Go.Proofs.YtonejdjhdjckjaaGreat
open Go.RowKit Go.ChangeShapes Go.WideShapes Go.ChangeAt

section
variable {H : Type} {enc : TypeId × Value → H} {P : Program} {W : World}
/-- A struct: each field is read from its cells. -/
theorem open_fields {t : TypeId} {fs : Array Field} {b0 : Nat} {v : Value} {d : DataW H} {p : List MemPlace} (ht : P.underlying t = some (.struct fs))
    (hv : Value.okWide P W .any b0 t v) (h : DataW.Trod enc P W 0 (fun _ => true) true t v d p) :
    ∃ cs : Array Value, v = .agg cs ∧ cs.size = P.cellsOf t ∧ ∀ (j : Nat) (f : Go.Field), fs[j]? = some f → ∃ m y, DataW.trod enc P W 0 (fun _ => true) true m f.type ((cs.toList.drop f.offset).take (P.cellsOf f.type)) = some y := by
  obtain ⟨cs, rfl, hs⟩ := okWide_struct ht hv
  obtain ⟨fuel, hf⟩ := h
  obtain ⟨xs, k, _, _, hcl, hxl, hfs⟩ := DataW.trod_struct ht hf
  refine ⟨cs, rfl, hs, fun j f hj => ?_⟩
  have hjl : j < fs.size := (Array.getElem?_eq_some_iff.1 hj).1
  have := hfs j f hj
  rw [List.getElem?_eq_getElem (show j < xs.length by omega)] at this
  exact ⟨k, _, by simpa [Value.cells] using this⟩
/-- A struct whose fields have one cell each. -/
theorem open_row {t : TypeId} {fs : Array Field} {b0 : Nat} {v : Value} {d : DataW H} {p : List MemPlace} (ht : P.underlying t = some (.struct fs)) (hone : Go.Deep.oneCellFields P fs = true) (hC : P.cellsOf t = fs.size)
    (hv : Value.okWide P W .any b0 t v) (h : DataW.Trod enc P W 0 (fun _ => true) true t v d p) :
    ∃ cs : Array Value, v = .agg cs ∧ cs.size = fs.size ∧ ∀ (j : Nat) (f : Go.Field), fs[j]? = some f → ∃ u m y, cs[j]? = some u ∧ DataW.trod enc P W 0 (fun _ => true) true m f.type [u] = some y := by
  obtain ⟨cs, rfl, hs, hat⟩ := open_fields ht hv h
  refine ⟨cs, rfl, by rw [hs, hC], fun j f hj => ?_⟩
  obtain ⟨m, y, hy⟩ := hat j f hj
  have hjl : j < fs.size := (Array.getElem?_eq_some_iff.1 hj).1
  obtain ⟨ho, h1⟩ := Go.Deep.hone_of hone j f hj
  rw [ho, h1] at hy
  have hcj : j < cs.size := by omega
  have e1 : (cs.toList.drop j).take 1 = [cs[j]] := by
    rw [List.drop_eq_getElem_cons (by simpa using hcj)]; rfl
  rw [e1] at hy
  exact ⟨cs[j], m, y, Array.getElem?_eq_getElem hcj, hy⟩
end


end Go.Proofs.YtonejdjhdjckjaaGreat
