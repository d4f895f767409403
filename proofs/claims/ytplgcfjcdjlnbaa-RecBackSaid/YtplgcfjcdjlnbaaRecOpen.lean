/-
  A record that came in, opened.
-/
import Derived.OpenShut
import Derived.Test.YtplgcfjcdjlnbaaOpenRow
import Derived.Test.YtplgcfjcdjlnbaaRecLaw
set_option linter.unusedSimpArgs false
set_option linter.unusedVariables false
namespace Go.Proofs.Ytplgcfjcdjlnbaa
open Go.RowKit Go.ChangeShapes Go.WideShapes Go.ChangeAt

/-- A record as cells. -/
def rcC (t : Nat) (V : List Int) : List Value := .int .u32 (t : Int) :: V.map (Value.int .i32)
theorem ints_of {k : IntKind} {Q : Int → Prop} : ∀ (cs : List Value), (∀ i, i < cs.length → ∃ z, cs[i]? = some (.int k z) ∧ Q z) → ∃ V : List Int, cs = V.map (Value.int k) ∧ ∀ x ∈ V, Q x
  | [], _ => ⟨[], rfl, by simp⟩
  | c :: cs, h => by
    obtain ⟨z, hz, hq⟩ := h 0 (by simp)
    obtain ⟨V, hV, hQ⟩ := ints_of cs (fun i hi => by
      have := h (i + 1) (by simp; omega)
      simpa using this)
    simp at hz
    subst hz hV
    refine ⟨z :: V, rfl, fun x hx => ?_⟩
    rcases List.mem_cons.1 hx with rfl | hx
    · exact hq
    · exact hQ x hx
section
variable {H : Type} {enc : TypeId × Value → H} {W : World}
set_option maxRecDepth 10000 in
theorem rec_of (m : Nat) (cs : List Value) (y : DataW H × List MemPlace) (hl : cs.length = 13) (h : DataW.trod enc Try.prog W 0 (fun _ => true) true m 25 cs = some y) :
    ∃ (t : Nat) (V : List Int), t < 4294967296 ∧ V.length = 12 ∧ (∀ x ∈ V, in32 x) ∧ cs = rcC t V := by
  match cs, hl with
  | c0 :: cs, hl =>
    have hl : cs.length = 12 := by simpa using hl
    obtain ⟨xs, k, _, _, _, hxl, hfs⟩ := DataW.trod_struct Try.underlying25 h
    have hxl : xs.length = 2 := hxl
    have t0 := hfs 0 _ rfl
    rw [List.getElem?_eq_getElem (by omega)] at t0
    have t0 : DataW.trod enc Try.prog W 0 (fun _ => true) true k 22 [c0] = some xs[0] := t0
    obtain ⟨z0, e0, _, w0⟩ := DataW.trod_int Try.underlying22 t0
    injection e0 with e0
    subst e0
    have t1 := hfs 1 _ rfl
    rw [List.getElem?_eq_getElem (by omega)] at t1
    have t1 : DataW.trod enc Try.prog W 0 (fun _ => true) true k 23 (cs.take 12) = some xs[1] := t1
    rw [List.take_of_length_le (by omega)] at t1
    obtain ⟨ys, k2, _, _, _, hyl, hel⟩ := DataW.trod_array Try.underlying23 t1
    have hu := bounds_u32 w0
    obtain ⟨V, rfl, hV⟩ := ints_of (k := .i32) (Q := in32) cs (fun i hi => by
      have hi : i < 12 := by omega
      have ti := hel i hi
      rw [List.getElem?_eq_getElem (by omega)] at ti
      have e1 : (cs.drop i).take 1 = [cs[i]] := by rw [List.drop_eq_getElem_cons (by omega)]; rfl
      have ti : DataW.trod enc Try.prog W 0 (fun _ => true) true k2 21 ((cs.drop (i * 1)).take 1) = some ys[i] := ti
      rw [Nat.mul_one, e1] at ti
      obtain ⟨z, e, _, wz⟩ := DataW.trod_int Try.underlying21 ti
      injection e with e
      exact ⟨z, by rw [List.getElem?_eq_getElem (by omega), e], bounds_i32 wz⟩)
    refine ⟨z0.toNat, V, by omega, by simpa using hl, hV, ?_⟩
    unfold rcC
    rw [show ((z0.toNat : Nat) : Int) = z0 by omega]
set_option maxRecDepth 10000 in
theorem open_rec {b0 : Nat} {v : Value} {d : DataW H} {p : List MemPlace} (hv : Value.okWide Try.prog W .any b0 25 v) (h : DataW.Trod enc Try.prog W 0 (fun _ => true) true 25 v d p) :
    ∃ (t : Nat) (V : List Int), v = .agg (rcC t V).toArray ∧ t < 4294967296 ∧ V.length = 12 ∧ ∀ x ∈ V, in32 x := by
  obtain ⟨cs, rfl, hs⟩ := okWide_struct Try.underlying25 hv
  obtain ⟨fuel, hf⟩ := h
  have hs : cs.size = 13 := hs
  obtain ⟨t, V, h1, h2, h3, h4⟩ := rec_of fuel cs.toList (d, p) (by simpa using hs) hf
  exact ⟨t, V, by rw [← h4], h1, h2, h3⟩
end

end Go.Proofs.Ytplgcfjcdjlnbaa
