/-
  A slice of structs that came in, of whatever depth: the cells of each element.
-/
import Derived.Test.YtonejdjhdjckjaaGreatOpen
set_option linter.unusedSimpArgs false
set_option linter.unusedVariables false
namespace Go.Proofs.YtonejdjhdjckjaaGreat
open Go.RowKit Go.ChangeShapes Go.WideShapes Go.ChangeAt

section
variable {H : Type} {enc : TypeId × Value → H} {P : Program} {W : World}
theorem open_elems {t e : TypeId} {fs : Array Field} {sz : Nat} {b0 : Nat} {v : Value} {d : DataW H} {p : List MemPlace} (ht : P.underlying t = some (.slice e)) (he : P.underlying e = some (.struct fs)) (hC : P.cellsOf e = sz) (hpos : 0 < sz)
    (hv : Value.okWide P W .any b0 t v) (h : DataW.Trod enc P W 0 (fun _ => true) true t v d p) :
    ∃ (A : Option Addr) (n c : Nat), v = .slice A n c ∧ n ≤ c ∧ c ≤ maxLen ∧ (0 < n → ∃ g off, A = some ⟨g, off, none⟩ ∧ g < W.heap.size ∧
      ∀ i, i < n → ∃ (cs : List Value) (m : Nat) (y : _), cs.length = sz ∧ DataW.trod enc P W 0 (fun _ => true) true m e cs = some y ∧ ∀ j u, cs[j]? = some u → W.cell? ⟨g, off + i * sz + j, none⟩ = some u) := by
  obtain ⟨A, n, c, rfl⟩ := okWide_slice ht hv
  obtain ⟨fuel, hf⟩ := h
  rcases Go.Deep.open_slice ht hf with ⟨hcs, _⟩ | ⟨a, len, cap, m, n', D, Pl, hcs, _, hl, hm, hmm, _, hi⟩
  · simp [Value.cells] at hcs
    obtain ⟨rfl, rfl, rfl⟩ := hcs
    exact ⟨none, 0, 0, rfl, Nat.le_refl _, Nat.zero_le _, fun h => absurd h (Nat.lt_irrefl _)⟩
  · simp [Value.cells] at hcs
    obtain ⟨rfl, rfl, rfl⟩ := hcs
    refine ⟨_, n, c, rfl, hl, hm, fun hn => ?_⟩
    have hmc : n ≤ m := by rw [hmm]; simp; omega
    have one : ∀ i, i < n → ∃ (cs : List Value) (k : Nat) (y : _), cs.length = sz ∧ DataW.trod enc P W 0 (fun _ => true) true k e cs = some y ∧ ∀ j u, cs[j]? = some u → W.cell? (a.add (i * sz + j)) = some u := by
      intro i hin
      obtain ⟨cs, hc, htr⟩ := hi i (by omega)
      rw [hC] at hc
      obtain ⟨_, hlen, hat⟩ := World.cells?_some hc
      refine ⟨cs, _, _, hlen, htr, fun j u hj => ?_⟩
      have hjl : j < sz := by have := (List.getElem?_eq_some_iff.1 hj).1; omega
      rw [← addr_add, hat j hjl, hj]
    obtain ⟨cs0, _, _, hl0, _, hu0⟩ := one 0 hn
    have hu0 := hu0 0 cs0[0] (List.getElem?_eq_getElem (by omega))
    rw [Nat.zero_mul, Nat.zero_add, addr_zero] at hu0
    have hsp := World.cell?_spot hu0
    have hlt := World.block_lt_of_cell? W _ hu0
    obtain ⟨g, off, sp⟩ := a
    simp only at hsp
    subst hsp
    refine ⟨g, off, rfl, hlt, fun i hin => ?_⟩
    obtain ⟨cs, k, y, h0, h1, h2⟩ := one i hin
    refine ⟨cs, k, y, h0, h1, fun j u hj => ?_⟩
    have := h2 j u hj
    rwa [Addr.add_mid, ← Nat.add_assoc] at this
end

end Go.Proofs.YtonejdjhdjckjaaGreat
