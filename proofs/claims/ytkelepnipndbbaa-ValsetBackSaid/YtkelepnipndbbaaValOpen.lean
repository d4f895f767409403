/-
  A message of layer 20 that came in, opened (printed by gen_val5.py).
-/
import Derived.Test.YtkelepnipndbbaaOpenCell
import Derived.Test.YtkelepnipndbbaaVal2
set_option linter.unusedSimpArgs false
set_option linter.unusedVariables false
namespace Go.Proofs.Ytkelepnipndbbaa
open Go.RowKit Go.ChangeShapes Go.WideShapes Go.ChangeAt

section
variable {H : Type} {enc : TypeId × Value → H} {W : World}
/-- A pair's numbers. -/
def prQ (p : Int × Int) : Prop := (-9223372036854775808 ≤ p.1 ∧ p.1 ≤ 9223372036854775807) ∧ -9223372036854775808 ≤ p.2 ∧ p.2 ≤ 9223372036854775807
set_option maxRecDepth 10000 in
theorem pr_of (m : Nat) (cs : List Value) (y : DataW H × List MemPlace) (hl : cs.length = 2) (h : DataW.trod enc Try.prog W 0 (fun _ => true) true m 147 cs = some y) :
    ∃ s : Int × Int, prQ s ∧ cs = prC s := by
  match cs, hl with
  | [v0, v1], _ =>
    obtain ⟨xs, k, _, _, _, hxl, hfs⟩ := DataW.trod_struct Try.underlying147 h
    have hxl : xs.length = 2 := hxl
    have t0 := hfs 0 _ rfl
    rw [List.getElem?_eq_getElem (by omega)] at t0
    have t0 : DataW.trod enc Try.prog W 0 (fun _ => true) true k 2 [v0] = some xs[0] := t0
    obtain ⟨z0, e0, _, w0⟩ := DataW.trod_int Try.underlying2 t0
    injection e0 with e0
    subst e0
    have t1 := hfs 1 _ rfl
    rw [List.getElem?_eq_getElem (by omega)] at t1
    have t1 : DataW.trod enc Try.prog W 0 (fun _ => true) true k 2 [v1] = some xs[1] := t1
    obtain ⟨z1, e1, _, w1⟩ := DataW.trod_int Try.underlying2 t1
    injection e1 with e1
    subst e1
    exact ⟨(z0, z1), ⟨bounds_i64 w0, bounds_i64 w1⟩, rfl⟩
set_option maxRecDepth 10000 in
theorem open_vals {b0 : Nat} {v : Value} {d : DataW H} {p : List MemPlace} (hv : Value.okWide Try.prog W .any b0 101 v) (h : DataW.Trod enc Try.prog W 0 (fun _ => true) true 101 v d p) :
    ∃ (t : Int) (A : Option Addr) (n c : Nat) (l : List (Int × Int)), v = .agg #[.int .i64 t, .slice A n c] ∧ RdR W W.heap.size 2 A n c (l.map prC) ∧ (-9223372036854775808 ≤ t ∧ t ≤ 9223372036854775807) ∧ ∀ p ∈ l, (-9223372036854775808 ≤ p.1 ∧ p.1 ≤ 9223372036854775807) ∧ -9223372036854775808 ≤ p.2 ∧ p.2 ≤ 9223372036854775807 := by
  obtain ⟨cs, rfl, hs, hat⟩ := open_row Try.underlying101 (by kernel_rfl) (by kernel_rfl) hv h
  obtain ⟨u0, m0, y0, c0, t0⟩ := hat 0 _ rfl
  obtain ⟨u1, m1, y1, c1, t1⟩ := hat 1 _ rfl
  obtain ⟨z0, e0, _, w0⟩ := DataW.trod_int Try.underlying2 t0
  obtain ⟨A, n, c, rfl, hn, hc, hel⟩ := cell_els Try.underlying99 Try.underlying147 (sz := 2) (by kernel_rfl) (by omega) t1
  injection e0 with e0
  subst e0
  obtain ⟨l, hr, hq⟩ := rows_of (C := prC) (Q := prQ) (fun x => .inl rfl) hn hc (fun m cs y hl ht => pr_of m cs y hl ht) hel
  refine ⟨z0, A, n, c, l, ?_, hr, bounds_i64 w0, fun s hs => hq s hs⟩
  have hs2 : cs.size = 2 := hs
  congr 1
  apply Array.ext
  · simpa using hs2
  · intro i h1 h2
    have h2 : i < 2 := by simpa using h2
    match i, h2 with
    | 0, _ => simpa [Array.getElem?_eq_getElem h1] using c0
    | 1, _ => simpa [Array.getElem?_eq_getElem h1] using c1
end

end Go.Proofs.Ytkelepnipndbbaa
