/-
  Parts that came in, opened.
-/
import Derived.Test.YtonejdjhdjckjaaGreatOpenEls
import Derived.Test.YtonejdjhdjckjaaGreatOpenCell
import Derived.Test.YtonejdjhdjckjaaGreatSchLaw
set_option linter.unusedSimpArgs false
set_option linter.unusedVariables false
namespace Go.Proofs.YtonejdjhdjckjaaGreat
open Go.RowKit Go.ChangeShapes Go.WideShapes Go.ChangeAt

def PtB (p : PtT) : Prop := (-9223372036854775808 ≤ p.sz ∧ p.sz ≤ 9223372036854775807) ∧ (-9223372036854775808 ≤ p.mn ∧ p.mn ≤ 9223372036854775807)
def RdP (w : World) (B : Nat) (A : Option Addr) (n c : Nat) (L : List PtT) : Prop := RdR w B 4 A n c (L.map ptC)
theorem ptC_len (L : List PtT) : ∀ r ∈ L.map ptC, r.length = 4 := fun r hr => by obtain ⟨p, _, rfl⟩ := List.mem_map.1 hr; rfl
theorem ptC_one (p : PtT) : ∀ u ∈ ptC p, u.oneCell' = true := fun u hu => by
  simp only [ptC, List.mem_cons, List.not_mem_nil, or_false] at hu
  rcases hu with rfl | rfl | rfl | rfl <;> rfl
theorem RdP.at_ {w : World} {B : Nat} {A : Option Addr} {n c : Nat} {L : List PtT} (h : RdP w B A n c L) {k : Nat} (hk : k < n) : ∃ g off x, A = some ⟨g, off, none⟩ ∧ g < B ∧ L[k]? = some x ∧ w.rangeAt g (off + k * 4) (ptC x) := by
  obtain ⟨g, off, r, h1, h2, h3, h4, h5⟩ := RdR.at_ h hk
  rw [List.getElem?_map] at h3
  cases hx : L[k]? with
  | none => rw [hx] at h3; cases h3
  | some x =>
    rw [hx] at h3
    injection h3 with h3
    subst h3
    exact ⟨g, off, x, h1, h2, rfl, h5⟩
theorem RdP.len {w : World} {B : Nat} {A : Option Addr} {n c : Nat} {L : List PtT} (h : RdP w B A n c L) : L.length = n := by have := h.1; rwa [List.length_map] at this
theorem RdP.own {w : World} {base : Nat} {e : TypeId} {A : Option Addr} {n c : Nat} {L : List PtT} (h : w.ownsRow base e 4 (.slice A n c) n (L.map ptC).flatten) (hl : L.length = n) : RdP w w.heap.size A n c L :=
  RdR.own (ls := L.map ptC) h (by rw [List.length_map]; exact hl) (ptC_len L)
section
variable {H : Type} {enc : TypeId × Value → H} {W : World}
set_option maxRecDepth 10000 in
theorem pt_of (m : Nat) (cs : List Value) (y : DataW H × List MemPlace) (hl : cs.length = 4) (h : DataW.trod enc Tryz.prog W 0 (fun _ => true) true m 71 cs = some y) :
    ∃ p : PtT, PtB p ∧ cs = ptC p := by
  match cs, hl with
  | [c0, c1, c2, c3], _ =>
    obtain ⟨xs, k, _, _, _, hxl, hfs⟩ := DataW.trod_struct Tryz.underlying71 h
    have hxl : xs.length = 4 := hxl
    have t0 := hfs 0 _ rfl
    rw [List.getElem?_eq_getElem (by omega)] at t0
    have t0 : DataW.trod enc Tryz.prog W 0 (fun _ => true) true k 9 [c0] = some xs[0] := t0
    obtain ⟨s, e0, _, _⟩ := DataW.trod_string Tryz.underlying9 t0
    injection e0 with e0
    subst e0
    have t1 := hfs 1 _ rfl
    rw [List.getElem?_eq_getElem (by omega)] at t1
    have t1 : DataW.trod enc Tryz.prog W 0 (fun _ => true) true k 3 [c1] = some xs[1] := t1
    obtain ⟨z1, e1, _, w1⟩ := DataW.trod_int Tryz.underlying3 t1
    injection e1 with e1
    subst e1
    have t2 := hfs 2 _ rfl
    rw [List.getElem?_eq_getElem (by omega)] at t2
    have t2 : DataW.trod enc Tryz.prog W 0 (fun _ => true) true k 4 [c2] = some xs[2] := t2
    obtain ⟨b, e2, _⟩ := DataW.trod_bool Tryz.underlying4 t2
    injection e2 with e2
    subst e2
    have t3 := hfs 3 _ rfl
    rw [List.getElem?_eq_getElem (by omega)] at t3
    have t3 : DataW.trod enc Tryz.prog W 0 (fun _ => true) true k 3 [c3] = some xs[3] := t3
    obtain ⟨z3, e3, _, w3⟩ := DataW.trod_int Tryz.underlying3 t3
    injection e3 with e3
    subst e3
    exact ⟨⟨s, z1, b, z3⟩, ⟨bounds_i64 w1, bounds_i64 w3⟩, rfl⟩
set_option maxRecDepth 10000 in
theorem open_parts {b0 : Nat} {v : Value} {d : DataW H} {p : List MemPlace} (hv : Value.okWide Tryz.prog W .any b0 55 v) (h : DataW.Trod enc Tryz.prog W 0 (fun _ => true) true 55 v d p) :
    ∃ (A : Option Addr) (n c : Nat) (L : List PtT), v = .slice A n c ∧ RdP W W.heap.size A n c L ∧ ∀ x ∈ L, PtB x := by
  obtain ⟨A, n, c, rfl, hn, hc, hel⟩ := open_elems Tryz.underlying55 Tryz.underlying71 (sz := 4) (by kernel_rfl) (by omega) hv h
  obtain ⟨L, hr, hq⟩ := rows_of (C := ptC) (Q := PtB) (fun x => .inl rfl) hn hc (fun m cs y hl ht => pt_of m cs y hl ht) hel
  exact ⟨A, n, c, L, rfl, hr, hq⟩
end

end Go.Proofs.YtonejdjhdjckjaaGreat
