/-
  Arguments that are structs, opened.
-/
import Derived.Test.YtglfhdkknhdphaaOpen
set_option linter.unusedSimpArgs false
set_option linter.unusedVariables false
namespace Go.Proofs.Ytglfhdkknhdphaa
open Go.RowKit Go.ChangeShapes Go.WideShapes Go.ChangeAt

section
variable {H : Type} {enc : TypeId × Value → H} {P : Program} {W : World}
/-- A struct: each field is read from its cells. -/
theorem open_fields {t : TypeId} {fs : Array Field} {b0 : Nat} {v : Value} {d : DataW H} {p : List MemPlace} (ht : P.underlying t = some (.struct fs))
    (hv : Value.okWide P W .any b0 t v) (h : DataW.Trod enc P W 0 (fun _ => true) true t v d p) :
    ∃ cs : Array Value, v = .agg cs ∧ cs.size = P.cellsOf t ∧ ∀ (j : Nat) (f : Go.Field), fs[j]? = some f → ∃ m y, DataW.trod enc P W 0 (fun _ => true) true m f.type ((cs.toList.drop f.offset).take (P.cellsOf f.type)) = some y := by
  obtain ⟨cs, rfl, hs⟩ := okWide_struct ht hv
  obtain ⟨fuel, hf⟩ := h
  obtain ⟨xs, k, _, _, hcl, hxl, hfs⟩ := DataW.trod_struct ht hf
  refine ⟨cs, rfl, hs, fun j f hj => ?_⟩
  have hjl : j < fs.size := (Array.getElem?_eq_some_iff.1 hj).1
  have := hfs j f hj
  rw [List.getElem?_eq_getElem (show j < xs.length by omega)] at this
  exact ⟨k, _, by simpa [Value.cells] using this⟩
/-- A struct whose fields have one cell each. -/
theorem open_row {t : TypeId} {fs : Array Field} {b0 : Nat} {v : Value} {d : DataW H} {p : List MemPlace} (ht : P.underlying t = some (.struct fs)) (hone : Go.Deep.oneCellFields P fs = true) (hC : P.cellsOf t = fs.size)
    (hv : Value.okWide P W .any b0 t v) (h : DataW.Trod enc P W 0 (fun _ => true) true t v d p) :
    ∃ cs : Array Value, v = .agg cs ∧ cs.size = fs.size ∧ ∀ (j : Nat) (f : Go.Field), fs[j]? = some f → ∃ u m y, cs[j]? = some u ∧ DataW.trod enc P W 0 (fun _ => true) true m f.type [u] = some y := by
  obtain ⟨cs, rfl, hs, hat⟩ := open_fields ht hv h
  refine ⟨cs, rfl, by rw [hs, hC], fun j f hj => ?_⟩
  obtain ⟨m, y, hy⟩ := hat j f hj
  have hjl : j < fs.size := (Array.getElem?_eq_some_iff.1 hj).1
  obtain ⟨ho, h1⟩ := Go.Deep.hone_of hone j f hj
  rw [ho, h1] at hy
  have hcj : j < cs.size := by omega
  have e1 : (cs.toList.drop j).take 1 = [cs[j]] := by
    rw [List.drop_eq_getElem_cons (by simpa using hcj)]; rfl
  rw [e1] at hy
  exact ⟨cs[j], m, y, Array.getElem?_eq_getElem hcj, hy⟩
end

section
variable {H : Type} {enc : TypeId × Value → H} {W : World}
set_option maxRecDepth 10000 in
/-- A frame. -/
theorem open_frame {b0 : Nat} {v : Value} {d : DataW H} {p : List MemPlace} (hv : Value.okWide Try.prog W .any b0 92 v) (h : DataW.Trod enc Try.prog W 0 (fun _ => true) true 92 v d p) :
    ∃ (c i : Int) (A : Option Addr) (n cap : Nat) (l : List UInt8), v = .agg #[.int .i64 c, .int .i64 i, .slice A n cap] ∧ (-9223372036854775808 ≤ c ∧ c ≤ 9223372036854775807) ∧ (-9223372036854775808 ≤ i ∧ i ≤ 9223372036854775807) ∧ Rd W W.heap.size 1 A n cap (bv l) := by
  obtain ⟨cs, rfl, hs, hat⟩ := open_row Try.underlying92 (by kernel_rfl) (by kernel_rfl) hv h
  obtain ⟨u0, m0, y0, c0, t0⟩ := hat 0 _ rfl
  obtain ⟨u1, m1, y1, c1, t1⟩ := hat 1 _ rfl
  obtain ⟨u2, m2, y2, c2, t2⟩ := hat 2 _ rfl
  obtain ⟨z0, e0, _, w0⟩ := DataW.trod_int Try.underlying3 t0
  obtain ⟨z1, e1, _, w1⟩ := DataW.trod_int Try.underlying3 t1
  obtain ⟨A4, n4, c4', l4, rfl, r4⟩ := cell_bytes Try.underlying22 Try.underlying5 (by kernel_rfl) t2
  injection e0 with e0; injection e1 with e1
  subst e0; subst e1
  refine ⟨z0, z1, A4, n4, c4', l4, ?_, bounds_i64 w0, bounds_i64 w1, r4⟩
  have hs3 : cs.size = 3 := hs
  congr 1
  apply Array.ext
  · simpa using hs3
  · intro i h1 h2
    have h2 : i < 3 := by simpa using h2
    match i, h2 with
    | 0, _ => simpa [Array.getElem?_eq_getElem h1] using c0
    | 1, _ => simpa [Array.getElem?_eq_getElem h1] using c1
    | 2, _ => simpa [Array.getElem?_eq_getElem h1] using c2
end

end Go.Proofs.Ytglfhdkknhdphaa
