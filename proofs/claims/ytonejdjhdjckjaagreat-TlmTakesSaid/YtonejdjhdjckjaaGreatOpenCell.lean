/-
  A cell that holds a slice of structs, opened; a slice of structs whose cells all are numbers.
-/
import Derived.Test.YtonejdjhdjckjaaGreatOpenEls
import Derived.Test.YtonejdjhdjckjaaGreatOpenRow
import Derived.Test.YtonejdjhdjckjaaGreatShBack
import Derived.Test.YtonejdjhdjckjaaGreatRowR
set_option linter.unusedSimpArgs false
set_option linter.unusedVariables false
namespace Go.Proofs.YtonejdjhdjckjaaGreat
open Go.RowKit Go.ChangeShapes Go.WideShapes Go.ChangeAt

section
variable {H : Type} {enc : TypeId × Value → H} {P : Program} {W : World}
theorem cell_els {t e : TypeId} {fs : Array Field} {sz : Nat} {fuel : Nat} {u : Value} {x : DataW H × List MemPlace} (ht : P.underlying t = some (.slice e)) (he : P.underlying e = some (.struct fs)) (hC : P.cellsOf e = sz) (hpos : 0 < sz)
    (h : DataW.trod enc P W 0 (fun _ => true) true fuel t [u] = some x) :
    ∃ (A : Option Addr) (n c : Nat), u = .slice A n c ∧ n ≤ c ∧ c ≤ maxLen ∧ (0 < n → ∃ g off, A = some ⟨g, off, none⟩ ∧ g < W.heap.size ∧
      ∀ i, i < n → ∃ (cs : List Value) (m : Nat) (y : _), cs.length = sz ∧ DataW.trod enc P W 0 (fun _ => true) true m e cs = some y ∧ ∀ j u, cs[j]? = some u → W.cell? ⟨g, off + i * sz + j, none⟩ = some u) := by
  rcases Go.Deep.open_slice ht h with ⟨hcs, _⟩ | ⟨a, len, cap, m, n', D, Pl, hcs, _, hl, hm, hmm, _, hi⟩
  · injection hcs with hcs
    subst hcs
    exact ⟨none, 0, 0, rfl, Nat.le_refl _, Nat.zero_le _, fun h => absurd h (Nat.lt_irrefl _)⟩
  · injection hcs with hcs
    subst hcs
    refine ⟨_, len, cap, rfl, hl, hm, fun hn => ?_⟩
    have hmc : len ≤ m := by rw [hmm]; simp; omega
    have one : ∀ i, i < len → ∃ (cs : List Value) (k : Nat) (y : _), cs.length = sz ∧ DataW.trod enc P W 0 (fun _ => true) true k e cs = some y ∧ ∀ j u, cs[j]? = some u → W.cell? (a.add (i * sz + j)) = some u := by
      intro i hin
      obtain ⟨cs, hc, htr⟩ := hi i (by omega)
      rw [hC] at hc
      obtain ⟨_, hlen, hat⟩ := World.cells?_some hc
      refine ⟨cs, _, _, hlen, htr, fun j u hj => ?_⟩
      have hjl : j < sz := by have := (List.getElem?_eq_some_iff.1 hj).1; omega
      rw [← addr_add, hat j hjl, hj]
    obtain ⟨cs0, _, _, hl0, _, hu0⟩ := one 0 hn
    have hu0 := hu0 0 cs0[0] (List.getElem?_eq_getElem (by omega))
    rw [Nat.zero_mul, Nat.zero_add, addr_zero] at hu0
    have hsp := World.cell?_spot hu0
    have hlt := World.block_lt_of_cell? W _ hu0
    obtain ⟨g, off, sp⟩ := a
    simp only at hsp
    subst hsp
    refine ⟨g, off, rfl, hlt, fun i hin => ?_⟩
    obtain ⟨cs, k, y, h0, h1, h2⟩ := one i hin
    refine ⟨cs, k, y, h0, h1, fun j u hj => ?_⟩
    have := h2 j u hj
    rwa [Addr.add_mid, ← Nat.add_assoc] at this
/-- Rows of a kind Rw: what each element's cells are. -/
theorem rows_of {sz : Nat} {e : TypeId} {β : Type} {C : β → List Value} {Q : β → Prop} {A : Option Addr} {n c : Nat} (hsz : ∀ x, (C x).length = sz ∨ ¬ Q x) (hn : n ≤ c) (hc : c ≤ maxLen)
    (hone : ∀ (m : Nat) (cs : List Value) (y : _), cs.length = sz → DataW.trod enc P W 0 (fun _ => true) true m e cs = some y → ∃ x, Q x ∧ cs = C x)
    (hat : 0 < n → ∃ g off, A = some ⟨g, off, none⟩ ∧ g < W.heap.size ∧
      ∀ i, i < n → ∃ (cs : List Value) (m : Nat) (y : _), cs.length = sz ∧ DataW.trod enc P W 0 (fun _ => true) true m e cs = some y ∧ ∀ j u, cs[j]? = some u → W.cell? ⟨g, off + i * sz + j, none⟩ = some u) :
    ∃ l : List β, RdR W W.heap.size sz A n c (l.map C) ∧ ∀ x ∈ l, Q x := by
  rcases Nat.eq_zero_or_pos n with h0 | hpos
  · subst h0
    exact ⟨[], ⟨rfl, by simp, hn, hc, fun h => absurd h (Nat.lt_irrefl _)⟩, by simp⟩
  obtain ⟨g, off, rfl, hlt, hel⟩ := hat hpos
  obtain ⟨l, hl, ho⟩ := list_of' (R := fun i x => Q x ∧ W.rangeAt g (off + i * sz) (C x)) n (fun i hi => by
    obtain ⟨cs, m, y, hlen, htr, hcell⟩ := hel i hi
    obtain ⟨x, hq, rfl⟩ := hone m cs y hlen htr
    exact ⟨x, hq, fun j v hv => hcell j v hv⟩)
  have hQ : ∀ x ∈ l, Q x := fun x hx => by
    obtain ⟨i, hi⟩ := List.getElem?_of_mem hx
    exact (ho i x hi).1
  refine ⟨l, ⟨by simp [hl], fun r hr => ?_, hn, hc, fun _ => ⟨g, off, rfl, hlt, fun k r hk => ?_⟩⟩, hQ⟩
  · obtain ⟨x, hx, rfl⟩ := List.mem_map.1 hr
    exact (hsz x).resolve_right (fun h => h (hQ x hx))
  · rw [List.getElem?_map] at hk
    cases hx : l[k]? with
    | none => rw [hx] at hk; cases hk
    | some x =>
      rw [hx] at hk
      injection hk with hk
      subst hk
      exact (ho k x hx).2
end

end Go.Proofs.YtonejdjhdjckjaaGreat
