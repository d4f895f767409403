/-
  A block, and a record's entry, that came in, opened.
-/
import Derived.Test.YtplgcfjcdjlnbaaKGB
import Derived.Test.YtplgcfjcdjlnbaaKGP
set_option linter.unusedSimpArgs false
set_option linter.unusedVariables false
namespace Go.Proofs.Ytplgcfjcdjlnbaa
open Go.RowKit Go.ChangeShapes Go.WideShapes Go.ChangeAt

section
variable {H : Type} {enc : TypeId × Value → H} {W : World}
set_option maxRecDepth 10000 in
theorem en_of (m : Nat) (cs : List Value) (y : DataW H × List MemPlace) (hl : cs.length = 14) (h : DataW.trod enc Try.prog W 0 (fun _ => true) true m 46 cs = some y) :
    ∃ x : En, EnQ x ∧ cs = enC x := by
  match cs, hl with
  | c0 :: cs, hl =>
    have hl3 : cs.length = 13 := by simpa using hl
    obtain ⟨xs, k, _, _, _, hxl, hfs⟩ := DataW.trod_struct Try.underlying46 h
    have hxl : xs.length = 2 := hxl
    have t0 := hfs 0 _ rfl
    rw [List.getElem?_eq_getElem (by omega)] at t0
    have t0 : DataW.trod enc Try.prog W 0 (fun _ => true) true k 4 [c0] = some xs[0] := t0
    obtain ⟨b, e0, _⟩ := DataW.trod_bool Try.underlying4 t0
    injection e0 with e0
    subst e0
    have t1 := hfs 1 _ rfl
    rw [List.getElem?_eq_getElem (by omega)] at t1
    have t1 : DataW.trod enc Try.prog W 0 (fun _ => true) true k 25 (cs.take 13) = some xs[1] := t1
    rw [List.take_of_length_le (by omega)] at t1
    obtain ⟨t, V, h1, h2, h3, rfl⟩ := rec_of k cs xs[1] hl3 t1
    exact ⟨⟨b, t, V⟩, ⟨h1, h2, h3⟩, rfl⟩
set_option maxRecDepth 10000 in
theorem open_block {b0 : Nat} {v : Value} {d : DataW H} {p : List MemPlace} (hv : Value.okWide Try.prog W .any b0 41 v) (h : DataW.Trod enc Try.prog W 0 (fun _ => true) true 41 v d p) :
    ∃ (no : Nat) (A : Option Addr) (n c : Nat) (L : List En), v = .agg #[.int .u32 (no : Int), .slice A n c] ∧ RdE W W.heap.size A n c L ∧ no < 4294967296 ∧ ∀ x ∈ L, EnQ x := by
  obtain ⟨cs, rfl, hs, hat⟩ := open_row Try.underlying41 (by kernel_rfl) (by kernel_rfl) hv h
  obtain ⟨u0, m0, y0, c0, t0⟩ := hat 0 _ rfl
  obtain ⟨u1, m1, y1, c1, t1⟩ := hat 1 _ rfl
  obtain ⟨z0, e0, _, w0⟩ := DataW.trod_int Try.underlying22 t0
  obtain ⟨A, n, c, rfl, hn, hc, hel⟩ := cell_els Try.underlying39 Try.underlying46 (sz := 14) (by kernel_rfl) (by omega) t1
  injection e0 with e0
  subst e0
  obtain ⟨L, hr, hq⟩ := rows_of (C := enC) (Q := EnQ) (fun x => by
    by_cases hx : EnQ x
    · exact .inl (enC_len x hx.2.1)
    · exact .inr hx) hn hc (fun m cs y hl ht => en_of m cs y hl ht) hel
  have hu := bounds_u32 w0
  refine ⟨z0.toNat, A, n, c, L, ?_, hr, by omega, hq⟩
  have hs2 : cs.size = 2 := hs
  rw [show ((z0.toNat : Nat) : Int) = z0 by omega]
  congr 1
  apply Array.ext
  · simpa using hs2
  · intro i h1 h2
    have h2 : i < 2 := by simpa using h2
    match i, h2 with
    | 0, _ => simpa [Array.getElem?_eq_getElem h1] using c0
    | 1, _ => simpa [Array.getElem?_eq_getElem h1] using c1
end

end Go.Proofs.Ytplgcfjcdjlnbaa
