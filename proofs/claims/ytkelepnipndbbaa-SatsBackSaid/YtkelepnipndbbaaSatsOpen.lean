/-
  A message of layer 17 that came in, opened (printed by gen_satsopen.py).
-/
import Derived.Test.YtkelepnipndbbaaOpenCell
import Derived.Test.YtkelepnipndbbaaSats7
set_option linter.unusedSimpArgs false
set_option linter.unusedVariables false
namespace Go.Proofs.Ytkelepnipndbbaa
open Go.RowKit Go.ChangeShapes Go.WideShapes Go.ChangeAt

section
variable {H : Type} {enc : TypeId × Value → H} {W : World}
/-- A satellite's numbers. -/
def satQ (s : List Int) : Prop := s.length = 7 ∧ ∀ z ∈ s, -9223372036854775808 ≤ z ∧ z ≤ 9223372036854775807
set_option maxRecDepth 10000 in
theorem sat_of (m : Nat) (cs : List Value) (y : DataW H × List MemPlace) (hl : cs.length = 7) (h : DataW.trod enc Try.prog W 0 (fun _ => true) true m 143 cs = some y) :
    ∃ s : List Int, satQ s ∧ cs = saC s := by
  match cs, hl with
  | [v0, v1, v2, v3, v4, v5, v6], _ =>
    obtain ⟨xs, k, _, _, _, hxl, hfs⟩ := DataW.trod_struct Try.underlying143 h
    have hxl : xs.length = 7 := hxl
    have t0 := hfs 0 _ rfl
    rw [List.getElem?_eq_getElem (by omega)] at t0
    have t0 : DataW.trod enc Try.prog W 0 (fun _ => true) true k 2 [v0] = some xs[0] := t0
    obtain ⟨z0, e0, _, w0⟩ := DataW.trod_int Try.underlying2 t0
    injection e0 with e0
    subst e0
    have t1 := hfs 1 _ rfl
    rw [List.getElem?_eq_getElem (by omega)] at t1
    have t1 : DataW.trod enc Try.prog W 0 (fun _ => true) true k 2 [v1] = some xs[1] := t1
    obtain ⟨z1, e1, _, w1⟩ := DataW.trod_int Try.underlying2 t1
    injection e1 with e1
    subst e1
    have t2 := hfs 2 _ rfl
    rw [List.getElem?_eq_getElem (by omega)] at t2
    have t2 : DataW.trod enc Try.prog W 0 (fun _ => true) true k 2 [v2] = some xs[2] := t2
    obtain ⟨z2, e2, _, w2⟩ := DataW.trod_int Try.underlying2 t2
    injection e2 with e2
    subst e2
    have t3 := hfs 3 _ rfl
    rw [List.getElem?_eq_getElem (by omega)] at t3
    have t3 : DataW.trod enc Try.prog W 0 (fun _ => true) true k 2 [v3] = some xs[3] := t3
    obtain ⟨z3, e3, _, w3⟩ := DataW.trod_int Try.underlying2 t3
    injection e3 with e3
    subst e3
    have t4 := hfs 4 _ rfl
    rw [List.getElem?_eq_getElem (by omega)] at t4
    have t4 : DataW.trod enc Try.prog W 0 (fun _ => true) true k 2 [v4] = some xs[4] := t4
    obtain ⟨z4, e4, _, w4⟩ := DataW.trod_int Try.underlying2 t4
    injection e4 with e4
    subst e4
    have t5 := hfs 5 _ rfl
    rw [List.getElem?_eq_getElem (by omega)] at t5
    have t5 : DataW.trod enc Try.prog W 0 (fun _ => true) true k 2 [v5] = some xs[5] := t5
    obtain ⟨z5, e5, _, w5⟩ := DataW.trod_int Try.underlying2 t5
    injection e5 with e5
    subst e5
    have t6 := hfs 6 _ rfl
    rw [List.getElem?_eq_getElem (by omega)] at t6
    have t6 : DataW.trod enc Try.prog W 0 (fun _ => true) true k 2 [v6] = some xs[6] := t6
    obtain ⟨z6, e6, _, w6⟩ := DataW.trod_int Try.underlying2 t6
    injection e6 with e6
    subst e6
    refine ⟨[z0, z1, z2, z3, z4, z5, z6], ⟨rfl, fun z hz => ?_⟩, rfl⟩
    simp only [List.mem_cons, List.not_mem_nil, or_false] at hz
    rcases hz with rfl | rfl | rfl | rfl | rfl | rfl | rfl
    · exact bounds_i64 w0
    · exact bounds_i64 w1
    · exact bounds_i64 w2
    · exact bounds_i64 w3
    · exact bounds_i64 w4
    · exact bounds_i64 w5
    · exact bounds_i64 w6
set_option maxRecDepth 10000 in
theorem open_sats {b0 : Nat} {v : Value} {d : DataW H} {p : List MemPlace} (hv : Value.okWide Try.prog W .any b0 89 v) (h : DataW.Trod enc Try.prog W 0 (fun _ => true) true 89 v d p) :
    ∃ (t : Int) (A : Option Addr) (n c : Nat) (l : List (List Int)), v = .agg #[.int .i64 t, .slice A n c] ∧ RdR W W.heap.size 7 A n c (l.map saC) ∧ (-9223372036854775808 ≤ t ∧ t ≤ 9223372036854775807) ∧ (∀ s ∈ l, ∀ z ∈ s, -9223372036854775808 ≤ z ∧ z ≤ 9223372036854775807) ∧ ∀ s ∈ l, s.length = 7 := by
  obtain ⟨cs, rfl, hs, hat⟩ := open_row Try.underlying89 (by kernel_rfl) (by kernel_rfl) hv h
  obtain ⟨u0, m0, y0, c0, t0⟩ := hat 0 _ rfl
  obtain ⟨u1, m1, y1, c1, t1⟩ := hat 1 _ rfl
  obtain ⟨z0, e0, _, w0⟩ := DataW.trod_int Try.underlying2 t0
  obtain ⟨A, n, c, rfl, hn, hc, hel⟩ := cell_els Try.underlying87 Try.underlying143 (sz := 7) (by kernel_rfl) (by omega) t1
  injection e0 with e0
  subst e0
  obtain ⟨l, hr, hq⟩ := rows_of (C := saC) (Q := satQ) (fun x => by
    by_cases hx : satQ x
    · exact .inl (by simp [saC, hx.1])
    · exact .inr hx) hn hc (fun m cs y hl ht => sat_of m cs y hl ht) hel
  refine ⟨z0, A, n, c, l, ?_, hr, bounds_i64 w0, fun s hs => (hq s hs).2, fun s hs => (hq s hs).1⟩
  have hs2 : cs.size = 2 := hs
  congr 1
  apply Array.ext
  · simpa using hs2
  · intro i h1 h2
    have h2 : i < 2 := by simpa using h2
    match i, h2 with
    | 0, _ => simpa [Array.getElem?_eq_getElem h1] using c0
    | 1, _ => simpa [Array.getElem?_eq_getElem h1] using c1
end

end Go.Proofs.Ytkelepnipndbbaa
