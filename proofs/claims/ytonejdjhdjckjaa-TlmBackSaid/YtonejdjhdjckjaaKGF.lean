/-
  Several texts in one: SchOpen SchTab Sch1 Sch2.
-/
import Derived.Test.YtonejdjhdjckjaaKGA
import Derived.Test.YtonejdjhdjckjaaKGE
/-
  Parts that came in, opened.
-/
set_option linter.unusedSimpArgs false
set_option linter.unusedVariables false
namespace Go.Proofs.Ytonejdjhdjckjaa
open Go.RowKit Go.ChangeShapes Go.WideShapes Go.ChangeAt

def PtB (p : PtT) : Prop := (-9223372036854775808 ≤ p.sz ∧ p.sz ≤ 9223372036854775807) ∧ (-9223372036854775808 ≤ p.mn ∧ p.mn ≤ 9223372036854775807)
def RdP (w : World) (B : Nat) (A : Option Addr) (n c : Nat) (L : List PtT) : Prop := RdR w B 4 A n c (L.map ptC)
theorem ptC_len (L : List PtT) : ∀ r ∈ L.map ptC, r.length = 4 := fun r hr => by obtain ⟨p, _, rfl⟩ := List.mem_map.1 hr; rfl
theorem ptC_one (p : PtT) : ∀ u ∈ ptC p, u.oneCell' = true := fun u hu => by
  simp only [ptC, List.mem_cons, List.not_mem_nil, or_false] at hu
  rcases hu with rfl | rfl | rfl | rfl <;> rfl
theorem RdP.at_ {w : World} {B : Nat} {A : Option Addr} {n c : Nat} {L : List PtT} (h : RdP w B A n c L) {k : Nat} (hk : k < n) : ∃ g off x, A = some ⟨g, off, none⟩ ∧ g < B ∧ L[k]? = some x ∧ w.rangeAt g (off + k * 4) (ptC x) := by
  obtain ⟨g, off, r, h1, h2, h3, h4, h5⟩ := RdR.at_ h hk
  rw [List.getElem?_map] at h3
  cases hx : L[k]? with
  | none => rw [hx] at h3; cases h3
  | some x =>
    rw [hx] at h3
    injection h3 with h3
    subst h3
    exact ⟨g, off, x, h1, h2, rfl, h5⟩
theorem RdP.len {w : World} {B : Nat} {A : Option Addr} {n c : Nat} {L : List PtT} (h : RdP w B A n c L) : L.length = n := by have := h.1; rwa [List.length_map] at this
theorem RdP.own {w : World} {base : Nat} {e : TypeId} {A : Option Addr} {n c : Nat} {L : List PtT} (h : w.ownsRow base e 4 (.slice A n c) n (L.map ptC).flatten) (hl : L.length = n) : RdP w w.heap.size A n c L :=
  RdR.own (ls := L.map ptC) h (by rw [List.length_map]; exact hl) (ptC_len L)
section
variable {H : Type} {enc : TypeId × Value → H} {W : World}
set_option maxRecDepth 10000 in
theorem pt_of (m : Nat) (cs : List Value) (y : DataW H × List MemPlace) (hl : cs.length = 4) (h : DataW.trod enc Try.prog W 0 (fun _ => true) true m 28 cs = some y) :
    ∃ p : PtT, PtB p ∧ cs = ptC p := by
  match cs, hl with
  | [c0, c1, c2, c3], _ =>
    obtain ⟨xs, k, _, _, _, hxl, hfs⟩ := DataW.trod_struct Try.underlying28 h
    have hxl : xs.length = 4 := hxl
    have t0 := hfs 0 _ rfl
    rw [List.getElem?_eq_getElem (by omega)] at t0
    have t0 : DataW.trod enc Try.prog W 0 (fun _ => true) true k 9 [c0] = some xs[0] := t0
    obtain ⟨s, e0, _, _⟩ := DataW.trod_string Try.underlying9 t0
    injection e0 with e0
    subst e0
    have t1 := hfs 1 _ rfl
    rw [List.getElem?_eq_getElem (by omega)] at t1
    have t1 : DataW.trod enc Try.prog W 0 (fun _ => true) true k 3 [c1] = some xs[1] := t1
    obtain ⟨z1, e1, _, w1⟩ := DataW.trod_int Try.underlying3 t1
    injection e1 with e1
    subst e1
    have t2 := hfs 2 _ rfl
    rw [List.getElem?_eq_getElem (by omega)] at t2
    have t2 : DataW.trod enc Try.prog W 0 (fun _ => true) true k 4 [c2] = some xs[2] := t2
    obtain ⟨b, e2, _⟩ := DataW.trod_bool Try.underlying4 t2
    injection e2 with e2
    subst e2
    have t3 := hfs 3 _ rfl
    rw [List.getElem?_eq_getElem (by omega)] at t3
    have t3 : DataW.trod enc Try.prog W 0 (fun _ => true) true k 3 [c3] = some xs[3] := t3
    obtain ⟨z3, e3, _, w3⟩ := DataW.trod_int Try.underlying3 t3
    injection e3 with e3
    subst e3
    exact ⟨⟨s, z1, b, z3⟩, ⟨bounds_i64 w1, bounds_i64 w3⟩, rfl⟩
set_option maxRecDepth 10000 in
theorem open_parts {b0 : Nat} {v : Value} {d : DataW H} {p : List MemPlace} (hv : Value.okWide Try.prog W .any b0 22 v) (h : DataW.Trod enc Try.prog W 0 (fun _ => true) true 22 v d p) :
    ∃ (A : Option Addr) (n c : Nat) (L : List PtT), v = .slice A n c ∧ RdP W W.heap.size A n c L ∧ ∀ x ∈ L, PtB x := by
  obtain ⟨A, n, c, rfl, hn, hc, hel⟩ := open_elems Try.underlying22 Try.underlying28 (sz := 4) (by kernel_rfl) (by omega) hv h
  obtain ⟨L, hr, hq⟩ := rows_of (C := ptC) (Q := PtB) (fun x => .inl rfl) hn hc (fun m cs y hl ht => pt_of m cs y hl ht) hel
  exact ⟨A, n, c, L, rfl, hr, hq⟩
end

end Go.Proofs.Ytonejdjhdjckjaa

/-
  The forms of the messages, as a table (printed by gen_sch1.py from the given program).
-/
set_option linter.unusedSimpArgs false
set_option linter.unusedVariables false
namespace Go.Proofs.Ytonejdjhdjckjaa

abbrev FmT := ByteArray × List PtT
def fmNone : FmT := (⟨#[]⟩, [])
def fm0 : FmT := (⟨#[72, 69, 65, 82, 84, 66, 69, 65, 84]⟩, [⟨⟨#[116, 121, 112, 101]⟩, 1, false, 0⟩, ⟨⟨#[97, 117, 116, 111, 112, 105, 108, 111, 116]⟩, 1, false, 0⟩, ⟨⟨#[98, 97, 115, 101, 95, 109, 111, 100, 101]⟩, 1, false, 0⟩, ⟨⟨#[99, 117, 115, 116, 111, 109, 95, 109, 111, 100, 101]⟩, 4, false, 0⟩, ⟨⟨#[115, 121, 115, 116, 101, 109, 95, 115, 116, 97, 116, 117, 115]⟩, 1, false, 0⟩, ⟨⟨#[109, 97, 118, 108, 105, 110, 107, 95, 118, 101, 114, 115, 105, 111, 110]⟩, 1, false, 0⟩])
def fm1 : FmT := (⟨#[83, 89, 83, 95, 83, 84, 65, 84, 85, 83]⟩, [⟨⟨#[111, 110, 98, 111, 97, 114, 100, 95, 99, 111, 110, 116, 114, 111, 108, 95, 115, 101, 110, 115, 111, 114, 115, 95, 112, 114, 101, 115, 101, 110, 116]⟩, 4, false, 0⟩, ⟨⟨#[111, 110, 98, 111, 97, 114, 100, 95, 99, 111, 110, 116, 114, 111, 108, 95, 115, 101, 110, 115, 111, 114, 115, 95, 101, 110, 97, 98, 108, 101, 100]⟩, 4, false, 0⟩, ⟨⟨#[111, 110, 98, 111, 97, 114, 100, 95, 99, 111, 110, 116, 114, 111, 108, 95, 115, 101, 110, 115, 111, 114, 115, 95, 104, 101, 97, 108, 116, 104]⟩, 4, false, 0⟩, ⟨⟨#[108, 111, 97, 100]⟩, 2, false, 0⟩, ⟨⟨#[118, 111, 108, 116, 97, 103, 101, 95, 98, 97, 116, 116, 101, 114, 121]⟩, 2, false, 0⟩, ⟨⟨#[99, 117, 114, 114, 101, 110, 116, 95, 98, 97, 116, 116, 101, 114, 121]⟩, 2, true, 0⟩, ⟨⟨#[98, 97, 116, 116, 101, 114, 121, 95, 114, 101, 109, 97, 105, 110, 105, 110, 103]⟩, 1, true, 0⟩, ⟨⟨#[100, 114, 111, 112, 95, 114, 97, 116, 101, 95, 99, 111, 109, 109]⟩, 2, false, 0⟩, ⟨⟨#[101, 114, 114, 111, 114, 115, 95, 99, 111, 109, 109]⟩, 2, false, 0⟩, ⟨⟨#[101, 114, 114, 111, 114, 115, 95, 99, 111, 117, 110, 116, 49]⟩, 2, false, 0⟩, ⟨⟨#[101, 114, 114, 111, 114, 115, 95, 99, 111, 117, 110, 116, 50]⟩, 2, false, 0⟩, ⟨⟨#[101, 114, 114, 111, 114, 115, 95, 99, 111, 117, 110, 116, 51]⟩, 2, false, 0⟩, ⟨⟨#[101, 114, 114, 111, 114, 115, 95, 99, 111, 117, 110, 116, 52]⟩, 2, false, 0⟩])
def fm2 : FmT := (⟨#[83, 89, 83, 84, 69, 77, 95, 84, 73, 77, 69]⟩, [⟨⟨#[116, 105, 109, 101, 95, 117, 110, 105, 120, 95, 117, 115, 101, 99]⟩, 8, false, 0⟩, ⟨⟨#[116, 105, 109, 101, 95, 98, 111, 111, 116, 95, 109, 115]⟩, 4, false, 0⟩])
def fm4 : FmT := (⟨#[80, 73, 78, 71]⟩, [⟨⟨#[116, 105, 109, 101, 95, 117, 115, 101, 99]⟩, 8, false, 0⟩, ⟨⟨#[115, 101, 113]⟩, 4, false, 0⟩, ⟨⟨#[116, 97, 114, 103, 101, 116, 95, 115, 121, 115, 116, 101, 109]⟩, 1, false, 0⟩, ⟨⟨#[116, 97, 114, 103, 101, 116, 95, 99, 111, 109, 112, 111, 110, 101, 110, 116]⟩, 1, false, 0⟩])
def fm111 : FmT := (⟨#[84, 73, 77, 69, 83, 89, 78, 67]⟩, [⟨⟨#[116, 99, 49]⟩, 8, true, 0⟩, ⟨⟨#[116, 115, 49]⟩, 8, true, 0⟩])
def fm125 : FmT := (⟨#[80, 79, 87, 69, 82, 95, 83, 84, 65, 84, 85, 83]⟩, [⟨⟨#[86, 99, 99]⟩, 2, false, 0⟩, ⟨⟨#[86, 115, 101, 114, 118, 111]⟩, 2, false, 0⟩, ⟨⟨#[102, 108, 97, 103, 115]⟩, 2, false, 0⟩])
def fm24 : FmT := (⟨#[71, 80, 83, 95, 82, 65, 87, 95, 73, 78, 84]⟩, [⟨⟨#[116, 105, 109, 101, 95, 117, 115, 101, 99]⟩, 8, false, 0⟩, ⟨⟨#[102, 105, 120, 95, 116, 121, 112, 101]⟩, 1, false, 0⟩, ⟨⟨#[108, 97, 116]⟩, 4, true, 0⟩, ⟨⟨#[108, 111, 110]⟩, 4, true, 0⟩, ⟨⟨#[97, 108, 116]⟩, 4, true, 0⟩, ⟨⟨#[101, 112, 104]⟩, 2, false, 0⟩, ⟨⟨#[101, 112, 118]⟩, 2, false, 0⟩, ⟨⟨#[118, 101, 108]⟩, 2, false, 0⟩, ⟨⟨#[99, 111, 103]⟩, 2, false, 0⟩, ⟨⟨#[115, 97, 116, 101, 108, 108, 105, 116, 101, 115, 95, 118, 105, 115, 105, 98, 108, 101]⟩, 1, false, 0⟩])
def fm25 : FmT := (⟨#[71, 80, 83, 95, 83, 84, 65, 84, 85, 83]⟩, [⟨⟨#[115, 97, 116, 101, 108, 108, 105, 116, 101, 115, 95, 118, 105, 115, 105, 98, 108, 101]⟩, 1, false, 0⟩, ⟨⟨#[115, 97, 116, 101, 108, 108, 105, 116, 101, 95, 112, 114, 110]⟩, 1, false, 20⟩, ⟨⟨#[115, 97, 116, 101, 108, 108, 105, 116, 101, 95, 117, 115, 101, 100]⟩, 1, false, 20⟩, ⟨⟨#[115, 97, 116, 101, 108, 108, 105, 116, 101, 95, 101, 108, 101, 118, 97, 116, 105, 111, 110]⟩, 1, false, 20⟩, ⟨⟨#[115, 97, 116, 101, 108, 108, 105, 116, 101, 95, 97, 122, 105, 109, 117, 116, 104]⟩, 1, false, 20⟩, ⟨⟨#[115, 97, 116, 101, 108, 108, 105, 116, 101, 95, 115, 110, 114]⟩, 1, false, 20⟩])
def fm26 : FmT := (⟨#[83, 67, 65, 76, 69, 68, 95, 73, 77, 85]⟩, [⟨⟨#[116, 105, 109, 101, 95, 98, 111, 111, 116, 95, 109, 115]⟩, 4, false, 0⟩, ⟨⟨#[120, 97, 99, 99]⟩, 2, true, 0⟩, ⟨⟨#[121, 97, 99, 99]⟩, 2, true, 0⟩, ⟨⟨#[122, 97, 99, 99]⟩, 2, true, 0⟩, ⟨⟨#[120, 103, 121, 114, 111]⟩, 2, true, 0⟩, ⟨⟨#[121, 103, 121, 114, 111]⟩, 2, true, 0⟩, ⟨⟨#[122, 103, 121, 114, 111]⟩, 2, true, 0⟩, ⟨⟨#[120, 109, 97, 103]⟩, 2, true, 0⟩, ⟨⟨#[121, 109, 97, 103]⟩, 2, true, 0⟩, ⟨⟨#[122, 109, 97, 103]⟩, 2, true, 0⟩])
def fm27 : FmT := (⟨#[82, 65, 87, 95, 73, 77, 85]⟩, [⟨⟨#[116, 105, 109, 101, 95, 117, 115, 101, 99]⟩, 8, false, 0⟩, ⟨⟨#[120, 97, 99, 99]⟩, 2, true, 0⟩, ⟨⟨#[121, 97, 99, 99]⟩, 2, true, 0⟩, ⟨⟨#[122, 97, 99, 99]⟩, 2, true, 0⟩, ⟨⟨#[120, 103, 121, 114, 111]⟩, 2, true, 0⟩, ⟨⟨#[121, 103, 121, 114, 111]⟩, 2, true, 0⟩, ⟨⟨#[122, 103, 121, 114, 111]⟩, 2, true, 0⟩, ⟨⟨#[120, 109, 97, 103]⟩, 2, true, 0⟩, ⟨⟨#[121, 109, 97, 103]⟩, 2, true, 0⟩, ⟨⟨#[122, 109, 97, 103]⟩, 2, true, 0⟩])
def fm28 : FmT := (⟨#[82, 65, 87, 95, 80, 82, 69, 83, 83, 85, 82, 69]⟩, [⟨⟨#[116, 105, 109, 101, 95, 117, 115, 101, 99]⟩, 8, false, 0⟩, ⟨⟨#[112, 114, 101, 115, 115, 95, 97, 98, 115]⟩, 2, true, 0⟩, ⟨⟨#[112, 114, 101, 115, 115, 95, 100, 105, 102, 102, 49]⟩, 2, true, 0⟩, ⟨⟨#[112, 114, 101, 115, 115, 95, 100, 105, 102, 102, 50]⟩, 2, true, 0⟩, ⟨⟨#[116, 101, 109, 112, 101, 114, 97, 116, 117, 114, 101]⟩, 2, true, 0⟩])
def fm33 : FmT := (⟨#[71, 76, 79, 66, 65, 76, 95, 80, 79, 83, 73, 84, 73, 79, 78, 95, 73, 78, 84]⟩, [⟨⟨#[116, 105, 109, 101, 95, 98, 111, 111, 116, 95, 109, 115]⟩, 4, false, 0⟩, ⟨⟨#[108, 97, 116]⟩, 4, true, 0⟩, ⟨⟨#[108, 111, 110]⟩, 4, true, 0⟩, ⟨⟨#[97, 108, 116]⟩, 4, true, 0⟩, ⟨⟨#[114, 101, 108, 97, 116, 105, 118, 101, 95, 97, 108, 116]⟩, 4, true, 0⟩, ⟨⟨#[118, 120]⟩, 2, true, 0⟩, ⟨⟨#[118, 121]⟩, 2, true, 0⟩, ⟨⟨#[118, 122]⟩, 2, true, 0⟩, ⟨⟨#[104, 100, 103]⟩, 2, false, 0⟩])
def fm35 : FmT := (⟨#[82, 67, 95, 67, 72, 65, 78, 78, 69, 76, 83, 95, 82, 65, 87]⟩, [⟨⟨#[116, 105, 109, 101, 95, 98, 111, 111, 116, 95, 109, 115]⟩, 4, false, 0⟩, ⟨⟨#[112, 111, 114, 116]⟩, 1, false, 0⟩, ⟨⟨#[99, 104, 97, 110, 49, 95, 114, 97, 119]⟩, 2, false, 0⟩, ⟨⟨#[99, 104, 97, 110, 50, 95, 114, 97, 119]⟩, 2, false, 0⟩, ⟨⟨#[99, 104, 97, 110, 51, 95, 114, 97, 119]⟩, 2, false, 0⟩, ⟨⟨#[99, 104, 97, 110, 52, 95, 114, 97, 119]⟩, 2, false, 0⟩, ⟨⟨#[99, 104, 97, 110, 53, 95, 114, 97, 119]⟩, 2, false, 0⟩, ⟨⟨#[99, 104, 97, 110, 54, 95, 114, 97, 119]⟩, 2, false, 0⟩, ⟨⟨#[99, 104, 97, 110, 55, 95, 114, 97, 119]⟩, 2, false, 0⟩, ⟨⟨#[99, 104, 97, 110, 56, 95, 114, 97, 119]⟩, 2, false, 0⟩, ⟨⟨#[114, 115, 115, 105]⟩, 1, false, 0⟩])
def fm36 : FmT := (⟨#[83, 69, 82, 86, 79, 95, 79, 85, 84, 80, 85, 84, 95, 82, 65, 87]⟩, [⟨⟨#[116, 105, 109, 101, 95, 117, 115, 101, 99]⟩, 4, false, 0⟩, ⟨⟨#[112, 111, 114, 116]⟩, 1, false, 0⟩, ⟨⟨#[115, 101, 114, 118, 111, 49, 95, 114, 97, 119]⟩, 2, false, 0⟩, ⟨⟨#[115, 101, 114, 118, 111, 50, 95, 114, 97, 119]⟩, 2, false, 0⟩, ⟨⟨#[115, 101, 114, 118, 111, 51, 95, 114, 97, 119]⟩, 2, false, 0⟩, ⟨⟨#[115, 101, 114, 118, 111, 52, 95, 114, 97, 119]⟩, 2, false, 0⟩, ⟨⟨#[115, 101, 114, 118, 111, 53, 95, 114, 97, 119]⟩, 2, false, 0⟩, ⟨⟨#[115, 101, 114, 118, 111, 54, 95, 114, 97, 119]⟩, 2, false, 0⟩, ⟨⟨#[115, 101, 114, 118, 111, 55, 95, 114, 97, 119]⟩, 2, false, 0⟩, ⟨⟨#[115, 101, 114, 118, 111, 56, 95, 114, 97, 119]⟩, 2, false, 0⟩])
def fm42 : FmT := (⟨#[77, 73, 83, 83, 73, 79, 78, 95, 67, 85, 82, 82, 69, 78, 84]⟩, [⟨⟨#[115, 101, 113]⟩, 2, false, 0⟩])
def fm44 : FmT := (⟨#[77, 73, 83, 83, 73, 79, 78, 95, 67, 79, 85, 78, 84]⟩, [⟨⟨#[116, 97, 114, 103, 101, 116, 95, 115, 121, 115, 116, 101, 109]⟩, 1, false, 0⟩, ⟨⟨#[116, 97, 114, 103, 101, 116, 95, 99, 111, 109, 112, 111, 110, 101, 110, 116]⟩, 1, false, 0⟩, ⟨⟨#[99, 111, 117, 110, 116]⟩, 2, false, 0⟩])
def fm47 : FmT := (⟨#[77, 73, 83, 83, 73, 79, 78, 95, 65, 67, 75]⟩, [⟨⟨#[116, 97, 114, 103, 101, 116, 95, 115, 121, 115, 116, 101, 109]⟩, 1, false, 0⟩, ⟨⟨#[116, 97, 114, 103, 101, 116, 95, 99, 111, 109, 112, 111, 110, 101, 110, 116]⟩, 1, false, 0⟩, ⟨⟨#[116, 121, 112, 101]⟩, 1, false, 0⟩])
def fm66 : FmT := (⟨#[82, 69, 81, 85, 69, 83, 84, 95, 68, 65, 84, 65, 95, 83, 84, 82, 69, 65, 77]⟩, [⟨⟨#[116, 97, 114, 103, 101, 116, 95, 115, 121, 115, 116, 101, 109]⟩, 1, false, 0⟩, ⟨⟨#[116, 97, 114, 103, 101, 116, 95, 99, 111, 109, 112, 111, 110, 101, 110, 116]⟩, 1, false, 0⟩, ⟨⟨#[114, 101, 113, 95, 115, 116, 114, 101, 97, 109, 95, 105, 100]⟩, 1, false, 0⟩, ⟨⟨#[114, 101, 113, 95, 109, 101, 115, 115, 97, 103, 101, 95, 114, 97, 116, 101]⟩, 2, false, 0⟩, ⟨⟨#[115, 116, 97, 114, 116, 95, 115, 116, 111, 112]⟩, 1, false, 0⟩])
def fm77 : FmT := (⟨#[67, 79, 77, 77, 65, 78, 68, 95, 65, 67, 75]⟩, [⟨⟨#[99, 111, 109, 109, 97, 110, 100]⟩, 2, false, 0⟩, ⟨⟨#[114, 101, 115, 117, 108, 116]⟩, 1, false, 0⟩])
def fm200 : FmT := (⟨#[65, 84, 84, 73, 84, 85, 68, 69, 95, 87, 79, 82, 68]⟩, [⟨⟨#[116, 105, 109, 101, 95, 98, 111, 111, 116, 95, 109, 115]⟩, 4, false, 0⟩, ⟨⟨#[113, 117, 97, 116, 101, 114, 110, 105, 111, 110]⟩, 4, false, 0⟩, ⟨⟨#[120, 103, 121, 114, 111]⟩, 2, true, 0⟩, ⟨⟨#[121, 103, 121, 114, 111]⟩, 2, true, 0⟩, ⟨⟨#[122, 103, 121, 114, 111]⟩, 2, true, 0⟩])
def fm201 : FmT := (⟨#[70, 73, 76, 84, 69, 82, 95, 83, 84, 65, 84, 69]⟩, [⟨⟨#[116, 105, 109, 101, 95, 98, 111, 111, 116, 95, 109, 115]⟩, 4, false, 0⟩, ⟨⟨#[120, 98, 105, 97, 115]⟩, 4, true, 0⟩, ⟨⟨#[121, 98, 105, 97, 115]⟩, 4, true, 0⟩, ⟨⟨#[122, 98, 105, 97, 115]⟩, 4, true, 0⟩, ⟨⟨#[115, 116, 101, 112, 115]⟩, 4, false, 0⟩, ⟨⟨#[99, 117, 116, 115]⟩, 2, false, 0⟩])
def fm202 : FmT := (⟨#[76, 79, 71, 95, 66, 76, 79, 67, 75]⟩, [⟨⟨#[110, 117, 109, 98, 101, 114]⟩, 4, false, 0⟩, ⟨⟨#[112, 97, 114, 116]⟩, 1, false, 0⟩, ⟨⟨#[98, 121, 116, 101, 115]⟩, 1, false, 64⟩])
def frmS (id : Int) : FmT := if id = 0 then fm0 else if id = 1 then fm1 else if id = 2 then fm2 else if id = 4 then fm4 else if id = 111 then fm111 else if id = 125 then fm125 else fmNone
def frmN (id : Int) : FmT := if id = 24 then fm24 else if id = 25 then fm25 else if id = 26 then fm26 else if id = 27 then fm27 else if id = 28 then fm28 else if id = 33 then fm33 else fmNone
def frmA (id : Int) : FmT := if id = 35 then fm35 else if id = 36 then fm36 else if id = 42 then fm42 else if id = 44 then fm44 else if id = 47 then fm47 else if id = 66 then fm66 else if id = 77 then fm77 else fmNone
def frmO (id : Int) : FmT := if id = 200 then fm200 else if id = 201 then fm201 else if id = 202 then fm202 else fmNone
/-- The first that has a name. -/
def firstF : List FmT → FmT
  | [] => fmNone
  | p :: r => if p.1 = ⟨#[]⟩ then firstF r else p
theorem firstF_at : ∀ (L : List FmT) (k : Nat) (p : FmT), L[k]? = some p → ¬ p.1 = ⟨#[]⟩ → (∀ q ∈ L.take k, q.1 = ⟨#[]⟩) → firstF L = p
  | [], k, p, h, _, _ => by simp at h
  | q :: L, 0, p, h, hp, _ => by
    simp at h
    subst h
    unfold firstF
    rw [if_neg hp]
  | q :: L, k + 1, p, h, hp, ha => by
    unfold firstF
    rw [if_pos (ha q (by simp))]
    exact firstF_at L k p (by simpa using h) hp (fun r hr => ha r (by simp [hr]))
theorem firstF_none : ∀ (L : List FmT), (∀ q ∈ L, q.1 = ⟨#[]⟩) → firstF L = fmNone
  | [], _ => rfl
  | q :: L, h => by
    unfold firstF
    rw [if_pos (h q List.mem_cons_self)]
    exact firstF_none L (fun r hr => h r (List.mem_cons_of_mem _ hr))
/-- The form of a message. -/
def frm (id : Int) : FmT := firstF [frmS id, frmN id, frmA id, frmO id]
def idsL : List Int := [0, 1, 2, 4, 24, 25, 26, 27, 28, 33, 35, 36, 42, 44, 47, 66, 77, 111, 125, 200, 201, 202]
def allF (P : FmT → Prop) : Prop := P fmNone ∧ P fm0 ∧ P fm1 ∧ P fm2 ∧ P fm4 ∧ P fm111 ∧ P fm125 ∧ P fm24 ∧ P fm25 ∧ P fm26 ∧ P fm27 ∧ P fm28 ∧ P fm33 ∧ P fm35 ∧ P fm36 ∧ P fm42 ∧ P fm44 ∧ P fm47 ∧ P fm66 ∧ P fm77 ∧ P fm200 ∧ P fm201 ∧ P fm202

end Go.Proofs.Ytonejdjhdjckjaa

/-
  schema's small makers of parts walked (printed by gen_sch2.py).
-/
set_option linter.unusedSimpArgs false
set_option linter.unusedVariables false
namespace Go.Proofs.Ytonejdjhdjckjaa
open Go.RowKit NumLaw
attribute [local go_sem] Addr.add_mid

def RdS (w : World) (B : Nat) (A : Option Addr) (n c : Nat) (L : List ByteArray) : Prop := RdR w B 1 A n c (L.map fun s => [Value.string s])
theorem RdS.at_ {w : World} {B : Nat} {A : Option Addr} {n c : Nat} {L : List ByteArray} (h : RdS w B A n c L) {k : Nat} (hk : k < n) : ∃ g off s, A = some ⟨g, off, none⟩ ∧ g < B ∧ L[k]? = some s ∧ w.cell? ⟨g, off + k, none⟩ = some (.string s) := by
  obtain ⟨g, off, r, h1, h2, h3, h4, h5⟩ := RdR.at_ h hk
  rw [List.getElem?_map] at h3
  cases hx : L[k]? with
  | none => rw [hx] at h3; cases h3
  | some x =>
    rw [hx] at h3
    injection h3 with h3
    subst h3
    have := h5 0 _ rfl
    rw [Nat.mul_one, Nat.add_zero] at this
    exact ⟨g, off, x, h1, h2, rfl, this⟩
theorem RdS.len {w : World} {B : Nat} {A : Option Addr} {n c : Nat} {L : List ByteArray} (h : RdS w B A n c L) : L.length = n := by have := h.1; rwa [List.length_map] at this
def mkP (sz : Int) (sg : Bool) (L : List ByteArray) : List PtT := L.map fun s => ⟨s, sz, sg, 0⟩
def RetP (L : List PtT) (w : World) (e : Ending) (w' : World) : Prop :=
  ∃ (A : Option Addr) (n c : Nat), e = .returned (.slice A n c) ∧ n = L.length ∧ w'.ownsRow w.heap.size 28 4 (.slice A n c) n (L.map ptC).flatten ∧ Below w.heap.size w w'
def RetFm (p : FmT) (w : World) (e : Ending) (w' : World) : Prop :=
  ∃ (A : Option Addr) (n c : Nat), e = .returned (.agg #[.string p.1, .slice A n c]) ∧ RdP w' w'.heap.size A n c p.2 ∧ Below w.heap.size w w'
theorem pt_info : (Try.prog.info? 28).map (fun i => (i.zero, i.size, i.bytes)) = some (some (.agg #[.string ⟨#[]⟩, .int .i64 0, .bool false, .int .i64 0]), 4, 40) := by kernel_rfl
theorem pt_flat (L : List PtT) (p : PtT) : (L.map ptC).flatten ++ ptC p = ((L ++ [p]).map ptC).flatten := by simp
theorem pts_one (L : List PtT) : ∀ u ∈ (L.map ptC).flatten, u.oneCell' = true := fun u hu => by
  obtain ⟨r, hr, hu⟩ := List.mem_flatten.1 hu
  obtain ⟨p, _, rfl⟩ := List.mem_map.1 hr
  exact ptC_one p u hu
set_option maxRecDepth 10000 in
set_option maxHeartbeats 4000000 in
theorem parts_any (sz : Int) (sg : Bool) (A : Option Addr) (n c : Nat) (L : List ByteArray) (w : World) (h : RdS w w.heap.size A n c L) (hn : n ≤ 1000) :
    Calls Try.prog 122 #[.int .i64 sz, .bool sg, .slice A n c] w (RetP (mkP sz sg L) w) := by
  have hll := h.len
  have hmx := h.2.2.2.1
  have hle := h.2.2.1
  unfold maxLen at hmx
  obtain ⟨i1, hi1⟩ := info_parts pt_info
  have Hi1 := Lib.hid hi1
  have Hll := Lib.hid hll
  clear hll hi1
  go_enter Try.func122, Try.ntmps122
  go_wp2_with fail
  go_loopw [7, 12] (fun o i wr => ∃ (k c3 : Nat) (A3 : Option Addr), k ≤ n ∧ i = .int .i64 k ∧ o = .slice A3 k c3 ∧ Below w.heap.size w wr ∧ wr.ownsRow w.heap.size 28 4 (.slice A3 k c3) k ((mkP sz sg (L.take k)).map ptC).flatten) (fun _ i _ => n - (intOf i).toNat)
  case atStart => exact ⟨0, 0, none, by omega, rfl, rfl, Below.refl _ _, World.ownsRow_nil _ _ _ _⟩
  case round =>
    obtain ⟨k, c3, A3, hk, rfl, rfl, hb, own3⟩ := hrel
    by_cases hlt : k < n
    · have hlt' : (k : Int) < (n : Int) := by omega
      obtain ⟨g, off, s, rfl, hg, hx, hc⟩ := RdS.at_ h hlt
      have hcw := (hb.cell (p := ⟨g, off + k, none⟩) hg).trans hc
      have Htx := Lib.hid (take_succ hx)
      have hbn : Below wr.heap.size wr (wr.alloc (.cells #[.string s, .int .i64 sz, .bool sg, .int .i64 0] 28)) := (Below.refl _ _).alloc (Nat.le_refl _) _
      have hrd : Rd _ _ 4 _ 1 1 (ptC ⟨s, sz, sg, 0⟩) := RdR.rd (RdR.lit (size := 4) (e := 28) wr [ptC ⟨s, sz, sg, 0⟩] #[.string s, .int .i64 sz, .bool sg, .int .i64 0] rfl (by intro r hr; rw [List.mem_singleton.1 hr]; rfl) (by simp [maxLen]) 1 rfl) (by omega)
      have hb4 := bnx hb hbn
      have own4 := own_up own3 hbn (Nat.le_refl _)
      clear hx hc hb own3 hbn
      go_wp2_with (at_builtin; refine stop_ ?_)
      generalize (wr.alloc (.cells #[.string s, .int .i64 sz, .bool sg, .int .i64 0] 28)) = w4 at *
      refine go_ (wpList_appG (base := w.heap.size) (n := k) Try.underlying22 Hi1.out rfl (by omega) own4 rfl hrd rfl (ptC_one _) (k := k + 1) (ys := ((mkP sz sg (L.take (k + 1))).map ptC).flatten) rfl (by rw [Htx.out]; unfold mkP; rw [List.map_append]; exact pt_flat _ _) (by unfold maxLen; omega) (by omega) hb4.size ?_)
      clear hcw
      intro A5 c5 w5 own5 hgr hob
      have hb5 := Below.grown hb4 hgr hb4.size (fun j hj => (own_blk own4 hj).1)
      clear hgr hob own4 hrd hb4
      go_wp2
      go_roundw
      case rel => exact ⟨k + 1, c5, A5, by omega, by go_num, rfl, hb5, own5⟩
      case measure => simp [intOf]; omega
    · obtain rfl : k = n := by omega
      rw [List.take_of_length_le (by rw [Hll.out]; exact Nat.le_refl _)] at own3
      go_wp2
      go_ret
      exact ⟨A3, k, c3, rfl, by unfold mkP; rw [List.length_map, Hll.out], own3, hb⟩
theorem u8_any (A : Option Addr) (n c : Nat) (L : List ByteArray) (w : World) (h : RdS w w.heap.size A n c L) (hn : n ≤ 1000) :
    Calls Try.prog 101 #[.slice A n c] w (RetP (mkP 1 false L) w) := by
  go_enter Try.func101, Try.ntmps101
  go_wp2_with fail
  go_fit (parts_any 1 false A n c L w h hn)
  unfold RetP
  rintro e w1 ⟨A1, n1, c1, rfl, hl, own, hb⟩
  have Hl := Lib.hid hl
  clear hl
  go_wp2
  go_ret
  exact ⟨A1, n1, c1, rfl, Hl.out, own, hb⟩
theorem u16_any (A : Option Addr) (n c : Nat) (L : List ByteArray) (w : World) (h : RdS w w.heap.size A n c L) (hn : n ≤ 1000) :
    Calls Try.prog 103 #[.slice A n c] w (RetP (mkP 2 false L) w) := by
  go_enter Try.func103, Try.ntmps103
  go_wp2_with fail
  go_fit (parts_any 2 false A n c L w h hn)
  unfold RetP
  rintro e w1 ⟨A1, n1, c1, rfl, hl, own, hb⟩
  have Hl := Lib.hid hl
  clear hl
  go_wp2
  go_ret
  exact ⟨A1, n1, c1, rfl, Hl.out, own, hb⟩
theorem u32_any (A : Option Addr) (n c : Nat) (L : List ByteArray) (w : World) (h : RdS w w.heap.size A n c L) (hn : n ≤ 1000) :
    Calls Try.prog 102 #[.slice A n c] w (RetP (mkP 4 false L) w) := by
  go_enter Try.func102, Try.ntmps102
  go_wp2_with fail
  go_fit (parts_any 4 false A n c L w h hn)
  unfold RetP
  rintro e w1 ⟨A1, n1, c1, rfl, hl, own, hb⟩
  have Hl := Lib.hid hl
  clear hl
  go_wp2
  go_ret
  exact ⟨A1, n1, c1, rfl, Hl.out, own, hb⟩
theorem u64_any (A : Option Addr) (n c : Nat) (L : List ByteArray) (w : World) (h : RdS w w.heap.size A n c L) (hn : n ≤ 1000) :
    Calls Try.prog 106 #[.slice A n c] w (RetP (mkP 8 false L) w) := by
  go_enter Try.func106, Try.ntmps106
  go_wp2_with fail
  go_fit (parts_any 8 false A n c L w h hn)
  unfold RetP
  rintro e w1 ⟨A1, n1, c1, rfl, hl, own, hb⟩
  have Hl := Lib.hid hl
  clear hl
  go_wp2
  go_ret
  exact ⟨A1, n1, c1, rfl, Hl.out, own, hb⟩
theorem i8_any (A : Option Addr) (n c : Nat) (L : List ByteArray) (w : World) (h : RdS w w.heap.size A n c L) (hn : n ≤ 1000) :
    Calls Try.prog 105 #[.slice A n c] w (RetP (mkP 1 true L) w) := by
  go_enter Try.func105, Try.ntmps105
  go_wp2_with fail
  go_fit (parts_any 1 true A n c L w h hn)
  unfold RetP
  rintro e w1 ⟨A1, n1, c1, rfl, hl, own, hb⟩
  have Hl := Lib.hid hl
  clear hl
  go_wp2
  go_ret
  exact ⟨A1, n1, c1, rfl, Hl.out, own, hb⟩
theorem i16_any (A : Option Addr) (n c : Nat) (L : List ByteArray) (w : World) (h : RdS w w.heap.size A n c L) (hn : n ≤ 1000) :
    Calls Try.prog 104 #[.slice A n c] w (RetP (mkP 2 true L) w) := by
  go_enter Try.func104, Try.ntmps104
  go_wp2_with fail
  go_fit (parts_any 2 true A n c L w h hn)
  unfold RetP
  rintro e w1 ⟨A1, n1, c1, rfl, hl, own, hb⟩
  have Hl := Lib.hid hl
  clear hl
  go_wp2
  go_ret
  exact ⟨A1, n1, c1, rfl, Hl.out, own, hb⟩
theorem i32_any (A : Option Addr) (n c : Nat) (L : List ByteArray) (w : World) (h : RdS w w.heap.size A n c L) (hn : n ≤ 1000) :
    Calls Try.prog 108 #[.slice A n c] w (RetP (mkP 4 true L) w) := by
  go_enter Try.func108, Try.ntmps108
  go_wp2_with fail
  go_fit (parts_any 4 true A n c L w h hn)
  unfold RetP
  rintro e w1 ⟨A1, n1, c1, rfl, hl, own, hb⟩
  have Hl := Lib.hid hl
  clear hl
  go_wp2
  go_ret
  exact ⟨A1, n1, c1, rfl, Hl.out, own, hb⟩
theorem i64_any (A : Option Addr) (n c : Nat) (L : List ByteArray) (w : World) (h : RdS w w.heap.size A n c L) (hn : n ≤ 1000) :
    Calls Try.prog 107 #[.slice A n c] w (RetP (mkP 8 true L) w) := by
  go_enter Try.func107, Try.ntmps107
  go_wp2_with fail
  go_fit (parts_any 8 true A n c L w h hn)
  unfold RetP
  rintro e w1 ⟨A1, n1, c1, rfl, hl, own, hb⟩
  have Hl := Lib.hid hl
  clear hl
  go_wp2
  go_ret
  exact ⟨A1, n1, c1, rfl, Hl.out, own, hb⟩
theorem own_g4 {w : World} {base : Nat} {e : TypeId} {size n : Nat} {A : Option Addr} {c : Nat} {xs : List Value} (h : w.ownsRow base e size (.slice A n c) n xs) (hn : 0 < n) : ∃ g, A = some ⟨g, 0, none⟩ ∧ base ≤ g := by
  obtain ⟨g, cap, hv, hg, _⟩ := h.form hn
  injection hv with h1 _ _
  exact ⟨g, h1, hg⟩
def setM (m : Int) (p : PtT) : PtT := { p with mn := m }
theorem flat_setM (m : Int) (A B : List PtT) (p : PtT) (k : Nat) (hk : A.length = k) : ((A ++ p :: B).map ptC).flatten.set (k * 4 + 3) (.int .i64 m) = (((A ++ [setM m p]) ++ B).map ptC).flatten := by
  have hl : ((A.map ptC).flatten).length = k * 4 := by rw [flat_len _ (ptC_len A), List.length_map, hk]
  rw [List.map_append, List.flatten_append, List.map_cons, List.flatten_cons, List.set_append_right (h := by omega), hl, show k * 4 + 3 - k * 4 = 3 by omega]
  simp [ptC, setM]
set_option maxRecDepth 10000 in
set_option maxHeartbeats 4000000 in
theorem array_any (m : Int) (A : Option Addr) (n c : Nat) (L : List ByteArray) (w : World) (h : RdS w w.heap.size A n c L) (hn : n ≤ 1000) :
    Calls Try.prog 109 #[.int .i64 m, .slice A n c] w (RetP ((mkP 1 false L).map (setM m)) w) := by
  have hu8 := u8_any A n c L w h hn
  have hML : (mkP 1 false L).length ≤ 1000 := by unfold mkP; rw [List.length_map, h.len]; exact hn
  generalize mkP 1 false L = M at *
  have Hu8 := Lib.hid hu8
  clear hu8
  go_enter Try.func109, Try.ntmps109
  go_wp2_with fail
  go_fit Hu8.out
  unfold RetP
  rintro e w1 ⟨A1, n1, c1, rfl, hl, own, hb⟩
  have hn1 : n1 ≤ 1000 := by rw [hl]; exact hML
  have Hl := Lib.hid hl
  clear hl Hu8
  go_wp2_with fail
  go_loopw [11] (fun i wr => ∃ (k : Nat), k ≤ n1 ∧ i = .int .i64 k ∧ Below w.heap.size w wr ∧ wr.ownsRow w.heap.size 28 4 (.slice A1 n1 c1) n1 ((((M.take k).map (setM m)) ++ M.drop k).map ptC).flatten) (fun i _ => n1 - (intOf i).toNat)
  case atStart => exact ⟨0, by omega, rfl, hb, by simpa using own⟩
  case round =>
    clear own hb w1
    obtain ⟨k, hk, rfl, hb, own⟩ := hrel
    by_cases hlt : k < n1
    · have hlt' : (k : Int) < (n1 : Int) := by omega
      have hkM : k < M.length := by rw [← Hl.out]; exact hlt
      have hg := own_g4 own (by omega)
      obtain ⟨g, rfl, hgB⟩ := hg
      have hfz : wr.frozen? ⟨g, k * 4 + 3, none⟩ = false := own.frozenAt (k * 4 + 3)
      have hcl : ∃ u, wr.cell? ⟨g, k * 4 + 3, none⟩ = some u := by
        have := own.cellAt (k * 4 + 3) (by omega)
        rw [List.getElem?_eq_getElem (by rw [own.1]; omega)] at this
        exact ⟨_, this⟩
      obtain ⟨u, hcl⟩ := hcl
      have hst := own.stored (k * 4 + 3) (Value.int .i64 m)
      have hdr : M.drop k = M[k] :: M.drop (k + 1) := List.drop_eq_getElem_cons hkM
      have hfl := flat_setM m ((M.take k).map (setM m)) (M.drop (k + 1)) M[k] k (by rw [List.length_map, List.length_take]; omega)
      rw [← hdr] at hfl
      rw [hfl] at hst
      have htk : (M.take k).map (setM m) ++ [setM m M[k]] = (M.take (k + 1)).map (setM m) := by rw [take_succ (List.getElem?_eq_getElem hkM), List.map_append]; rfl
      rw [htk] at hst
      have hst1 := hst.1
      have hb' := hb.setCell (p := ⟨g, k * 4 + 3, none⟩) hgB (Value.int .i64 m)
      clear hdr hfl htk hst own hkM
      go_wp2
      go_roundw
      case rel => exact ⟨k + 1, by omega, by go_num, hb', hst1⟩
      case measure => simp [intOf]; omega
    · obtain rfl : k = n1 := by omega
      rw [List.take_of_length_le (by rw [← Hl.out]; exact Nat.le_refl _), List.drop_eq_nil_of_le (by rw [← Hl.out]; exact Nat.le_refl _), List.append_nil] at own
      go_wp2
      go_ret
      exact ⟨A1, k, c1, rfl, by rw [List.length_map]; exact Hl.out, own, hb⟩
theorem aw_setRowS {w : World} (g : Nat) (cs : Array Value) : Aw (fun k => k = g) w (w.setRow g cs) :=
  ⟨setRow_os w _ _, setRow_tape w _ _, setRow_output w _ _, by rw [setRow_size]; exact Nat.le_refl _, fun k _ hu => setRow_other w _ k _ hu⟩
/-- A row of slices of parts. -/
structure RwT where
  A : Option Addr
  n : Nat
  c : Nat
  L : List PtT
def rwC (r : RwT) : List Value := [.slice r.A r.n r.c]
def RdRw (w : World) (B : Nat) (A : Option Addr) (n c : Nat) (T : List RwT) : Prop := RdR w B 1 A n c (T.map rwC) ∧ ∀ r ∈ T, RdP w B r.A r.n r.c r.L ∧ r.n ≤ 100
set_option maxRecDepth 10000 in
set_option maxHeartbeats 4000000 in
theorem of_any (nm : ByteArray) (A : Option Addr) (n c : Nat) (T : List RwT) (w : World) (h : RdRw w w.heap.size A n c T) (hn : n ≤ 100) :
    Calls Try.prog 100 #[.string nm, .slice A n c] w (RetFm (nm, T.flatMap RwT.L) w) := by
  obtain ⟨h, hT⟩ := h
  have hll : T.length = n := by have := h.1; rwa [List.length_map] at this
  have hmx := h.2.2.2.1
  have hle := h.2.2.1
  unfold maxLen at hmx
  obtain ⟨i1, hi1⟩ := info_parts pt_info
  have Hi1 := Lib.hid hi1
  have Hll := Lib.hid hll
  obtain ⟨a0, a1, hs, hb⟩ := al2 w (.cells #[.string ⟨#[]⟩, .slice none 0 0] 65) (.cells #[.string nm, .slice none 0 0] 65)
  clear hll hi1
  go_enter Try.func100, Try.ntmps100
  go_wp2_with fail
  go_loopw [12] (fun i wr => ∃ (k n3 c3 : Nat) (A3 : Option Addr), k ≤ n ∧ n3 ≤ 100 * k ∧ i = .int .i64 k ∧ wr.heap[w.heap.size]? = some (.cells #[.string ⟨#[]⟩, .slice none 0 0] 65) ∧ wr.heap[w.heap.size + 1]? = some (.cells #[.string nm, .slice A3 n3 c3] 65) ∧ Below w.heap.size w wr ∧ wr.ownsRow (w.heap.size + 2) 28 4 (.slice A3 n3 c3) n3 (((T.take k).flatMap RwT.L).map ptC).flatten ∧ Hid (((T.take k).flatMap RwT.L).length = n3)) (fun i _ => n - (intOf i).toNat)
  case atStart => exact ⟨0, 0, 0, none, by omega, by omega, rfl, a0, a1, hb, World.ownsRow_nil _ _ _ _, Lib.hid rfl⟩
  case round =>
    clear a0 a1 hb hs
    obtain ⟨k, n3, c3, A3, hk, hn3, rfl, a0, a1, hb, own3, Hl3⟩ := hrel
    have k1 := blk_cell (i := 1) (v := .slice A3 n3 c3) a1 rfl
    have hl1 := blk_lt a1
    by_cases hlt : k < n
    · have hlt' : (k : Int) < (n : Int) := by omega
      obtain ⟨g, off, r, hA, hg, hx, hrl, hr⟩ := RdR.at_ h hlt
      rw [List.getElem?_map] at hx
      obtain ⟨x, hxT⟩ : ∃ x, T[k]? = some x := ⟨_, List.getElem?_eq_getElem (by rw [Hll.out]; exact hlt)⟩
      rw [hxT] at hx
      injection hx with hx
      subst hx
      subst hA
      obtain ⟨hxr, hx100⟩ := hT x (List.mem_of_getElem? hxT)
      have hxl := hxr.len
      have hc := (hb.cell (p := ⟨g, off + k * 1 + 0, none⟩) hg).trans (hr 0 _ rfl)
      rw [Nat.mul_one, Nat.add_zero] at hc
      have Hts := Lib.hid (take_succ hxT)
      have hxw : RdP wr wr.heap.size x.A x.n x.c x.L := RdR.more (RdR.up hxr hb) hb.size
      have Hfl := Lib.hid (show (((T.take k).flatMap RwT.L).map ptC).flatten ++ (x.L.map ptC).flatten = (((T.take (k + 1)).flatMap RwT.L).map ptC).flatten by rw [Hts.out]; simp)
      have Hl4 := Lib.hid (show ((T.take (k + 1)).flatMap RwT.L).length = n3 + x.n by rw [Hts.out, List.flatMap_append, List.length_append, Hl3.out]; simp [hxl])
      have hlt3 : ∀ j, (Value.slice A3 n3 c3).ownBlock = some j → w.heap.size + 2 ≤ j := fun j hj => (own_blk own3 hj).1
      clear hr hrl hxT hxr hxl
      go_wp2_with (at_builtin; refine stop_ ?_)
      refine go_ (wpList_appG (base := w.heap.size + 2) (n := n3) Try.underlying22 Hi1.out rfl (by omega) own3 rfl (RdR.rd hxw (by omega)) rfl (pts_one _) (k := n3 + x.n) rfl Hfl.out (by unfold maxLen; omega) (by omega) (by omega) ?_)
      intro A5 c5 w5 own5 hgr hob
      have haw := Aw.of_grown hgr
      have b0 := haw.keep a0 (fun hu => by have := hlt3 _ hu; omega)
      have b1 := haw.keep a1 (fun hu => by have := hlt3 _ hu; omega)
      have hb5 := Below.grown hb hgr hb.size (fun j hj => by have := hlt3 j hj; omega)
      have s1 := blk_cell (i := 1) (v := .slice A3 n3 c3) b1 rfl
      have s2 := blk_free (i := 1) b1
      have hA8 : Aw (fun k => k = w.heap.size + 1) w5 (w5.setCell ⟨w.heap.size + 1, 1, none⟩ (.slice A5 (n3 + x.n) c5)) := (Aw.refl _ _).set _ rfl
      have m0 := hA8.keep b0 (by omega)
      have m1 := blk_set (i := 1) b1 (.slice A5 (n3 + x.n) c5)
      have m3 := own_aw own5 hA8 (fun j hj hu => by have := (own_blk own5 hj).1; omega)
      have m5 := hb5.setCell (p := ⟨w.heap.size + 1, 1, none⟩) (by show w.heap.size ≤ w.heap.size + 1; omega) (.slice A5 (n3 + x.n) c5)
      clear hgr hob own3 hxw haw b0 own5 hA8 hb5 hc k1 a0 a1
      go_wp2
      go_roundw
      case rel => exact ⟨k + 1, n3 + x.n, c5, A5, by omega, by omega, by go_num, m0, m1, m5, m3, Hl4⟩
      case measure => simp [intOf]; omega
    · obtain rfl : k = n := by omega
      have htk : T.take k = T := List.take_of_length_le (by rw [Hll.out]; exact Nat.le_refl _)
      rw [htk] at own3 Hl3
      have k0 := blk_cell (i := 0) (v := .string nm) a1 rfl
      have hb' := below_setRow hb (Nat.le_refl _) (#[.string nm, .slice A3 n3 c3] : Array Value)
      have b0 := setRow_heap _ _ _ (#[.string nm, .slice A3 n3 c3] : Array Value) _ _ a0
      have own8 := own_aw own3 (aw_setRowS w.heap.size (#[.string nm, .slice A3 n3 c3] : Array Value)) (fun j hj hu => by have := (own_blk own3 hj).1; omega)
      go_wp2_with (first | (with_reducible refine stop_storeT 65 ?_))
      refine go_ (wpList_store_row rfl _ _ _ rfl w.heap.size #[.string nm, .slice A3 n3 c3] rfl rfl _ _ a0 (by kernel_rfl) rfl (by kernel_rfl) ?_)
      generalize (wr.setRow w.heap.size #[.string nm, .slice A3 n3 c3]) = w9 at *
      have e0 := blk_cell (i := 0) (v := .string nm) b0 rfl
      have e1 := blk_cell (i := 1) (v := .slice A3 n3 c3) b0 rfl
      have hrp : RdP w9 w9.heap.size A3 n3 c3 (T.flatMap RwT.L) := RdP.own own8 Hl3.out
      clear own3 own8 a0 a1 k0 k1 b0 hb
      go_wp2
      refine bodyPost_ret (v := .agg #[.string nm, .slice A3 n3 c3]) (by simp [results, go_sem, e0, e1]) rfl ⟨A3, n3, c3, rfl, hrp, hb'⟩

end Go.Proofs.Ytonejdjhdjckjaa

/-
  inertial walked (printed by gen_sch3.py).
-/
set_option linter.unusedSimpArgs false
set_option linter.unusedVariables false
namespace Go.Proofs.Ytonejdjhdjckjaa
open Go.RowKit NumLaw
attribute [local go_sem] Addr.add_mid

theorem stop_buildF (t : TypeId) {P : Program} {w : World} {ops : Array Oper} {rest : List Oper} {a : Act} {Q : Exit → Act → World → Prop} {d : Option Tmp} {ty : TypeId} {pos : String} {af : Array Edge}
    (h : Stop (wpList P ops Q (⟨d, .build t #[], ty, pos, af, none⟩ :: rest) a w)) : wpList P ops Q (⟨d, .build t #[], ty, pos, af, none⟩ :: rest) a w := h
/-- Parts lie in rows of four cells: a block of two is none of theirs. -/
theorem rdP_set {w : World} {A : Option Addr} {n c g : Nat} {L : List PtT} {t : TypeId} {x y : Value} (h : RdP w w.heap.size A n c L) (hg : w.heap[g]? = some (.cells #[x, y] t)) (cs' : Array Value) : RdP (w.setRow g cs') (w.setRow g cs').heap.size A n c L := by
  unfold RdP at h ⊢
  refine ⟨h.1, h.2.1, h.2.2.1, h.2.2.2.1, fun hn => ?_⟩
  obtain ⟨g', off, e, hlt, hr⟩ := h.2.2.2.2 hn
  have hne : g' ≠ g := fun he => by
    subst he
    have hl : 0 < (L.map ptC).length := by have := h.1; omega
    have hr0 := hr 0 _ (List.getElem?_eq_getElem hl)
    have h14 := h.2.1 _ (List.getElem_mem hl)
    have h13 := hr0 3 _ (List.getElem?_eq_getElem (by rw [h14]; decide))
    simp [World.cell?, hg] at h13
  refine ⟨g', off, e, by rw [setRow_size]; exact hlt, fun k r hk j v hv => ?_⟩
  have := hr k r hk j v hv
  rw [World.cell?] at this ⊢
  rw [show (⟨g', off + k * 4 + j, none⟩ : Addr).block = g' from rfl] at this ⊢
  rw [setRow_other w _ g' _ hne]
  exact this
theorem strs_lit (w : World) (L : List ByteArray) (cs : Array Value) (hcs : cs = (L.map Value.string).toArray) (n : Nat) (hn : L.length = n) (hm : n ≤ 1000) : RdS (w.alloc (.cells cs 9)) (w.alloc (.cells cs 9)).heap.size (some ⟨w.heap.size, 0, none⟩) n n L := by
  have h := RdR.lit (size := 1) (e := 9) w (L.map fun s => [Value.string s]) cs (by
    rw [hcs]
    congr 1
    induction L generalizing cs n with
    | nil => rfl
    | cons s L ih => exact congrArg (List.cons (Value.string s)) (ih _ rfl _ rfl (by simp at hn; omega))) (fun r hr => by obtain ⟨s, _, rfl⟩ := List.mem_map.1 hr; rfl) (by rw [List.length_map, hn]; unfold maxLen; omega) n (by rw [List.length_map, hn])
  have e : (w.alloc (.cells cs 9)).heap.size = w.heap.size + 1 := World.size_alloc _ _
  unfold RdS
  rw [e]
  exact h
set_option maxRecDepth 20000 in
theorem inertial_any (w : World) : Calls Try.prog 110 #[] w (RetP (mkP 2 true [⟨#[120, 97, 99, 99]⟩, ⟨#[121, 97, 99, 99]⟩, ⟨#[122, 97, 99, 99]⟩, ⟨#[120, 103, 121, 114, 111]⟩, ⟨#[121, 103, 121, 114, 111]⟩, ⟨#[122, 103, 121, 114, 111]⟩, ⟨#[120, 109, 97, 103]⟩, ⟨#[121, 109, 97, 103]⟩, ⟨#[122, 109, 97, 103]⟩]) w) := by
  have hS := strs_lit w [⟨#[120, 97, 99, 99]⟩, ⟨#[121, 97, 99, 99]⟩, ⟨#[122, 97, 99, 99]⟩, ⟨#[120, 103, 121, 114, 111]⟩, ⟨#[121, 103, 121, 114, 111]⟩, ⟨#[122, 103, 121, 114, 111]⟩, ⟨#[120, 109, 97, 103]⟩, ⟨#[121, 109, 97, 103]⟩, ⟨#[122, 109, 97, 103]⟩] #[.string ⟨#[120, 97, 99, 99]⟩, .string ⟨#[121, 97, 99, 99]⟩, .string ⟨#[122, 97, 99, 99]⟩, .string ⟨#[120, 103, 121, 114, 111]⟩, .string ⟨#[121, 103, 121, 114, 111]⟩, .string ⟨#[122, 103, 121, 114, 111]⟩, .string ⟨#[120, 109, 97, 103]⟩, .string ⟨#[121, 109, 97, 103]⟩, .string ⟨#[122, 109, 97, 103]⟩] rfl 9 rfl (by omega)
  have hbs := (Below.refl w.heap.size w).alloc (Nat.le_refl _) (.cells #[.string ⟨#[120, 97, 99, 99]⟩, .string ⟨#[121, 97, 99, 99]⟩, .string ⟨#[122, 97, 99, 99]⟩, .string ⟨#[120, 103, 121, 114, 111]⟩, .string ⟨#[121, 103, 121, 114, 111]⟩, .string ⟨#[122, 103, 121, 114, 111]⟩, .string ⟨#[120, 109, 97, 103]⟩, .string ⟨#[121, 109, 97, 103]⟩, .string ⟨#[122, 109, 97, 103]⟩] 9)
  have HS := Lib.hid hS
  clear hS
  go_enter Try.func110, Try.ntmps110
  go_wp2_with fail
  go_fit (i16_any (some ⟨w.heap.size, 0, none⟩) 9 9 [⟨#[120, 97, 99, 99]⟩, ⟨#[121, 97, 99, 99]⟩, ⟨#[122, 97, 99, 99]⟩, ⟨#[120, 103, 121, 114, 111]⟩, ⟨#[121, 103, 121, 114, 111]⟩, ⟨#[122, 103, 121, 114, 111]⟩, ⟨#[120, 109, 97, 103]⟩, ⟨#[121, 109, 97, 103]⟩, ⟨#[122, 109, 97, 103]⟩] _ HS.out (by omega))
  unfold RetP
  rintro e w1 ⟨A1, n1, c1, rfl, hl, own, hb⟩
  have own' := own_mono own hbs.size
  have hb' := bnx hbs hb
  have Hl := Lib.hid hl
  clear own hb HS hbs hl
  go_wp2
  go_ret
  exact ⟨A1, n1, c1, rfl, Hl.out, own', hb'⟩

end Go.Proofs.Ytonejdjhdjckjaa
