/-
  Changes (a place, a byte) as rows; how they are opened.
-/
import Derived.Test.YtplgcfjcdjlnbaaKGT
set_option linter.unusedSimpArgs false
set_option linter.unusedVariables false
namespace Go.Proofs.Ytplgcfjcdjlnbaa
open Go.ChangeShapes Go.WideShapes Go.ChangeAt Go.RowKit

def chC (x : Int × UInt8) : List Value := [.int .i64 x.1, .int .u8 (x.2.toNat : Int)]
def ChQ (x : Int × UInt8) : Prop := -9223372036854775808 ≤ x.1 ∧ x.1 ≤ 9223372036854775807
def RdCh (w : World) (B : Nat) (A : Option Addr) (n c : Nat) (L : List (Int × UInt8)) : Prop := RdR w B 2 A n c (L.map chC)
theorem RdCh.at_ {w : World} {B : Nat} {A : Option Addr} {n c : Nat} {L : List (Int × UInt8)} (h : RdCh w B A n c L) {k : Nat} (hk : k < n) : ∃ g off x, A = some ⟨g, off, none⟩ ∧ g < B ∧ L[k]? = some x ∧ w.rangeAt g (off + k * 2) (chC x) := by
  obtain ⟨g, off, r, h1, h2, h3, h4, h5⟩ := RdR.at_ h hk
  rw [List.getElem?_map] at h3
  cases hx : L[k]? with
  | none => rw [hx] at h3; cases h3
  | some x =>
    rw [hx] at h3
    injection h3 with h3
    subst h3
    exact ⟨g, off, x, h1, h2, rfl, h5⟩
section
variable {H : Type} {enc : TypeId × Value → H} {W : World}
set_option maxRecDepth 10000 in
theorem ch_of (m : Nat) (cs : List Value) (y : DataW H × List MemPlace) (hl : cs.length = 2) (h : DataW.trod enc Try.prog W 0 (fun _ => true) true m 89 cs = some y) :
    ∃ x : Int × UInt8, ChQ x ∧ cs = chC x := by
  match cs, hl with
  | [c0, c1], _ =>
    obtain ⟨xs, k, _, _, _, hxl, hfs⟩ := DataW.trod_struct Try.underlying89 h
    have hxl : xs.length = 2 := hxl
    have t0 := hfs 0 _ rfl
    rw [List.getElem?_eq_getElem (by omega)] at t0
    have t0 : DataW.trod enc Try.prog W 0 (fun _ => true) true k 3 [c0] = some xs[0] := t0
    obtain ⟨z0, e0, _, w0⟩ := DataW.trod_int Try.underlying3 t0
    injection e0 with e0
    subst e0
    have t1 := hfs 1 _ rfl
    rw [List.getElem?_eq_getElem (by omega)] at t1
    have t1 : DataW.trod enc Try.prog W 0 (fun _ => true) true k 5 [c1] = some xs[1] := t1
    obtain ⟨z1, e1, _, w1⟩ := DataW.trod_int Try.underlying5 t1
    injection e1 with e1
    subst e1
    obtain ⟨b, rfl, hb⟩ := wf_u8 w1
    refine ⟨(z0, UInt8.ofNat b), bounds_i64 w0, ?_⟩
    unfold chC
    rw [show ((UInt8.ofNat b).toNat : Int) = (b : Int) by rw [UInt8.toNat_ofNat']; omega]
set_option maxRecDepth 10000 in
theorem open_chs {b0 : Nat} {v : Value} {d : DataW H} {p : List MemPlace} (hv : Value.okWide Try.prog W .any b0 87 v) (h : DataW.Trod enc Try.prog W 0 (fun _ => true) true 87 v d p) :
    ∃ (A : Option Addr) (n c : Nat) (L : List (Int × UInt8)), v = .slice A n c ∧ RdCh W W.heap.size A n c L ∧ ∀ x ∈ L, ChQ x := by
  obtain ⟨A, n, c, rfl, hn, hc, hel⟩ := open_elems Try.underlying87 Try.underlying89 (sz := 2) (by kernel_rfl) (by omega) hv h
  obtain ⟨L, hr, hq⟩ := rows_of (C := chC) (Q := ChQ) (fun x => .inl rfl) hn hc (fun m cs y hl ht => ch_of m cs y hl ht) hel
  exact ⟨A, n, c, L, rfl, hr, hq⟩
end

end Go.Proofs.Ytplgcfjcdjlnbaa
