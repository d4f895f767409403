/-
  A row of calls that came in, opened.
-/
import Derived.Test.YtkelepnipndbbaaAck12
import Derived.Test.YtkelepnipndbbaaOpenEls
import Derived.Test.YtkelepnipndbbaaShBack
set_option linter.unusedSimpArgs false
set_option linter.unusedVariables false
namespace Go.Proofs.Ytkelepnipndbbaa
open Go.RowKit Go.ChangeShapes Go.WideShapes Go.ChangeAt

section
variable {H : Type} {enc : TypeId × Value → H} {W : World}
set_option maxRecDepth 10000 in
theorem op_of {m : Nat} {cs : List Value} {y : DataW H × List MemPlace} (hl : cs.length = 4) (h : DataW.trod enc Try.prog W 0 (fun _ => true) true m 32 cs = some y) :
    ∃ o : OpV, cs = [.bool o.ask, .bool o.yes, .int .i64 o.c, .int .i64 o.i] ∧ (-9223372036854775808 ≤ o.c ∧ o.c ≤ 9223372036854775807) ∧ (-9223372036854775808 ≤ o.i ∧ o.i ≤ 9223372036854775807) := by
  match cs, hl with
  | [v0, v1, v2, v3], _ =>
    obtain ⟨xs, k, _, _, _, hxl, hfs⟩ := DataW.trod_struct Try.underlying32 h
    have hxl : xs.length = 2 := hxl
    have t0 := hfs 0 _ rfl
    have t1 := hfs 1 _ rfl
    rw [List.getElem?_eq_getElem (by omega)] at t0 t1
    have t0 : DataW.trod enc Try.prog W 0 (fun _ => true) true k 4 [v0] = some xs[0] := t0
    have t1 : DataW.trod enc Try.prog W 0 (fun _ => true) true k 30 [v1, v2, v3] = some xs[1] := t1
    obtain ⟨ys, k2, _, _, _, hyl, hgs⟩ := DataW.trod_struct Try.underlying30 t1
    have hyl : ys.length = 3 := hyl
    have s0 := hgs 0 _ rfl
    have s1 := hgs 1 _ rfl
    have s2 := hgs 2 _ rfl
    rw [List.getElem?_eq_getElem (by omega)] at s0 s1 s2
    have s0 : DataW.trod enc Try.prog W 0 (fun _ => true) true k2 4 [v1] = some ys[0] := s0
    have s1 : DataW.trod enc Try.prog W 0 (fun _ => true) true k2 2 [v2] = some ys[1] := s1
    have s2 : DataW.trod enc Try.prog W 0 (fun _ => true) true k2 2 [v3] = some ys[2] := s2
    obtain ⟨z0, e0, _⟩ := DataW.trod_bool Try.underlying4 t0
    obtain ⟨z1, e1, _⟩ := DataW.trod_bool Try.underlying4 s0
    obtain ⟨z2, e2, _, w2⟩ := DataW.trod_int Try.underlying2 s1
    obtain ⟨z3, e3, _, w3⟩ := DataW.trod_int Try.underlying2 s2
    injection e0 with e0; injection e1 with e1; injection e2 with e2; injection e3 with e3
    subst e0; subst e1; subst e2; subst e3
    exact ⟨⟨z0, z1, z2, z3⟩, rfl, bounds_i64 w2, bounds_i64 w3⟩
set_option maxRecDepth 100000 in
theorem open_ops19 {b0 : Nat} {v : Value} {d : DataW H} {p : List MemPlace} (hv : Value.okWide Try.prog W .any b0 22 v) (h : DataW.Trod enc Try.prog W 0 (fun _ => true) true 22 v d p) :
    ∃ (A : Option Addr) (n c : Nat) (l : List OpV), v = .slice A n c ∧ RdOp W W.heap.size A n c l := by
  obtain ⟨A, n, c, rfl, hn, hc, hat⟩ := open_elems Try.underlying22 Try.underlying32 (sz := 4) (by kernel_rfl) (by omega) hv h
  rcases Nat.eq_zero_or_pos n with h0 | hpos
  · exact ⟨_, n, c, [], rfl, by simp [h0], hn, hc, fun h => absurd h (by omega)⟩
  obtain ⟨g, off, rfl, hlt, hel⟩ := hat hpos
  obtain ⟨l, hl, ho⟩ := list_of' (R := fun i o => OpAt W g (off + i * 4) o) n (fun i hi => by
    obtain ⟨cs, m, y, hlen, htr, hcell⟩ := hel i hi
    obtain ⟨o, rfl, b1, b2⟩ := op_of hlen htr
    exact ⟨o, hcell 0 _ rfl, hcell 1 _ rfl, hcell 2 _ rfl, hcell 3 _ rfl, b1, b2⟩)
  exact ⟨_, n, c, l, rfl, hl, hn, hc, fun _ => ⟨g, off, rfl, hlt, ho⟩⟩
end

end Go.Proofs.Ytkelepnipndbbaa
