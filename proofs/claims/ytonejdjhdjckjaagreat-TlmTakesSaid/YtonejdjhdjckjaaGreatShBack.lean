/-
  The law ShapeBack walked. (Its last part is printed by gen_shback.py.)
-/
import Derived.Test.YtonejdjhdjckjaaGreatShapeLaw
import Derived.Test.YtonejdjhdjckjaaGreatOpen
set_option linter.unusedSimpArgs false
set_option linter.unusedVariables false
namespace Go.Proofs.YtonejdjhdjckjaaGreat
open Go.RowKit NumLaw Go.ChangeShapes Go.WideShapes Go.ChangeAt

theorem list_of' {β : Type} {R : Nat → β → Prop} (n : Nat) (h : ∀ i, i < n → ∃ x, R i x) : ∃ l : List β, l.length = n ∧ ∀ i x, l[i]? = some x → R i x := by
  induction n with
  | zero => exact ⟨[], rfl, fun i x hx => by simp at hx⟩
  | succ n ih =>
    obtain ⟨l, hl, hr⟩ := ih (fun i hi => h i (by omega))
    obtain ⟨x, hx⟩ := h n (by omega)
    refine ⟨l ++ [x], by simp [hl], fun i y hy => ?_⟩
    rcases Nat.lt_or_ge i l.length with hi | hi
    · rw [List.getElem?_append_left hi] at hy
      exact hr i y hy
    · rw [List.getElem?_append_right hi] at hy
      rcases Nat.eq_or_lt_of_le hi with he | he
      · rw [← he] at hy
        simp at hy
        subst hy
        rw [← he, hl]
        exact hx
      · rw [List.getElem?_eq_none (by simp; omega)] at hy; cases hy
section
variable {H : Type} {enc : TypeId × Value → H} {W : World}
set_option maxRecDepth 10000 in
theorem open_frows {b0 : Nat} {v : Value} {d : DataW H} {p : List MemPlace} (hv : Value.okWide Tryz.prog W .any b0 60 v) (h : DataW.Trod enc Tryz.prog W 0 (fun _ => true) true 60 v d p) :
    ∃ (A : Option Addr) (n c : Nat) (l : List FieldV), v = .slice A n c ∧ RdF W W.heap.size A n c l := by
  obtain ⟨A, n, c, rfl, hn, hc, hat⟩ := open_rows Tryz.underlying60 Tryz.underlying85 (by kernel_rfl) (by kernel_rfl) (Nat.succ_pos 3) hv h
  rcases Nat.eq_zero_or_pos n with rfl | hpos
  · exact ⟨A, 0, c, [], rfl, rfl, hn, hc, fun h => absurd h (Nat.lt_irrefl _)⟩
  obtain ⟨g, off, rfl, hlt, hel⟩ := hat hpos
  have := list_of' (R := fun i o => FieldAt W g (off + i * 4) o) n (fun i hi => by
    obtain ⟨u0, m0, y0, c0, t0⟩ := hel i hi 0 _ rfl
    obtain ⟨u1, m1, y1, c1, t1⟩ := hel i hi 1 _ rfl
    obtain ⟨u2, m2, y2, c2, t2⟩ := hel i hi 2 _ rfl
    obtain ⟨u3, m3, y3, c3, t3⟩ := hel i hi 3 _ rfl
    obtain ⟨z0, e0, _, w0⟩ := DataW.trod_int Tryz.underlying3 t0
    obtain ⟨z1, e1, _⟩ := DataW.trod_bool Tryz.underlying4 t1
    obtain ⟨z2, e2, _, w2⟩ := DataW.trod_int Tryz.underlying2 t2
    obtain ⟨z3, e3, _, w3⟩ := DataW.trod_int Tryz.underlying2 t3
    injection e0 with e0; injection e1 with e1; injection e2 with e2; injection e3 with e3
    subst e0; subst e1; subst e2; subst e3
    exact ⟨⟨z0, z1, z2, z3⟩, by simpa using c0, c1, c2, c3, bounds_i64 w0, bounds_i64 w2, bounds_i64 w3⟩)
  obtain ⟨l, hl, ho⟩ := this
  exact ⟨_, n, c, l, rfl, hl, hn, hc, fun _ => ⟨g, off, rfl, hlt, ho⟩⟩
end
theorem RdF.bounds {w : World} {B n c : Nat} {A : Option Addr} {l : List FieldV} (h : RdF w B A n c l) : ∀ f ∈ l, (-9223372036854775808 ≤ f.lo ∧ f.lo ≤ 9223372036854775807) ∧ (-9223372036854775808 ≤ f.hi ∧ f.hi ≤ 9223372036854775807) := by
  intro f hf
  obtain ⟨k, hk⟩ := List.mem_iff_getElem?.1 hf
  have hkl : k < n := by have := (List.getElem?_eq_some_iff.1 hk).1; rw [h.1] at this; exact this
  obtain ⟨g, off, f', _, _, hx, _, _, _, _, _, h6, h7⟩ := h.at_ hkl
  rw [hk] at hx
  injection hx with hx
  subst hx
  exact ⟨h6, h7⟩

end Go.Proofs.YtonejdjhdjckjaaGreat
