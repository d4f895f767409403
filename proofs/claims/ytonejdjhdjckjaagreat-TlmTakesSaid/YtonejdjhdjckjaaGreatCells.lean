/-
  A struct laid cell by cell; what a message taken is.
-/
import Derived.Test.YtonejdjhdjckjaaGreatShapeLaw
import Derived.Laws.CopyOwn
import Derived.Laws.Tables
set_option linter.unusedSimpArgs false
set_option linter.unusedVariables false
namespace Go.Proofs.YtonejdjhdjckjaaGreat
open Go.RowKit NumLaw

/-- Cells of block g laid anew, from k on. -/
def stN (w : World) (g : Nat) : Nat → List Value → World
  | _, [] => w
  | k, v :: vs => stN (w.setCell ⟨g, k, none⟩ v) g (k + 1) vs
theorem stN_heap {g e : Nat} : ∀ (vs pre olds : List Value) (w : World), w.heap[g]? = some (.cells (pre ++ olds).toArray e) → olds.length = vs.length → (stN w g pre.length vs).heap[g]? = some (.cells (pre ++ vs).toArray e)
  | [], pre, olds, w, h, hl => by
    obtain rfl : olds = [] := List.eq_nil_of_length_eq_zero (by simpa using hl)
    exact h
  | v :: vs, pre, [], w, h, hl => by simp at hl
  | v :: vs, pre, o :: olds, w, h, hl => by
    have h1 := blk_set (i := pre.length) h v
    have e1 : (pre ++ o :: olds).toArray.setIfInBounds pre.length v = ((pre ++ [v]) ++ olds).toArray := by simp
    rw [e1] at h1
    have := stN_heap vs (pre ++ [v]) olds _ h1 (by simpa using hl)
    unfold stN
    simpa using this
theorem stN_below {B g : Nat} {a : World} : ∀ (vs : List Value) (k : Nat) (w : World), Below B a w → B ≤ g → Below B a (stN w g k vs)
  | [], _, _, h, _ => h
  | v :: vs, k, w, h, hg => stN_below vs (k + 1) _ (h.setCell (p := ⟨g, k, none⟩) hg v) hg
theorem stN_own {base : Nat} {e : TypeId} {size n : Nat} {v : Value} {xs : List Value} {g : Nat} : ∀ (vs : List Value) (k : Nat) (w : World), w.ownsRow base e size v n xs → g < base → (stN w g k vs).ownsRow base e size v n xs
  | [], _, _, h, _ => h
  | u :: vs, k, w, h, hg => stN_own vs (k + 1) _ (own_set h hg u) hg
/-- A row of the call's own: where its cells lie. -/
theorem own_at {w : World} {base : Nat} {e : TypeId} {n c : Nat} {A : Option Addr} {xs : List Value} (h : w.ownsRow base e 1 (.slice A n c) n xs) (hn : 0 < n) : ∃ g, A = some ⟨g, 0, none⟩ ∧ base ≤ g ∧ g < w.heap.size ∧ ∀ j u, xs[j]? = some u → w.cell? ⟨g, j, none⟩ = some u := by
  rcases h.2 with ⟨hv, h0⟩ | ⟨g, cap, cur, hv, hg, hh, h1, h2, h3, h4⟩
  · injection hv with e1 e2 e3; omega
  · have hcell := h.cells (g := g) (by rw [hv]; rfl)
    injection hv with e1 e2 e3
    refine ⟨g, e1, hg, blk_lt hh, fun j u hu => ?_⟩
    have := hcell j u hu
    rwa [show (⟨g, 0, none⟩ : Addr).add j = ⟨g, j, none⟩ by unfold Addr.add; split <;> simp_all] at this
/-- Halts the walk in front of a store. -/
theorem stop_store {P : Program} {w : World} {ops : Array Oper} {rest : List Oper} {a : Act} {Q : Exit → Act → World → Prop} {x y : Operand} {t ty : TypeId} {pos : String} {af : Array Edge}
    (h : Stop (wpList P ops Q (⟨none, .store t x y, ty, pos, af, none⟩ :: rest) a w)) : wpList P ops Q (⟨none, .store t x y, ty, pos, af, none⟩ :: rest) a w := h
/-- The numbers taken; none: zeros. -/
def takeD (l : List FieldV) (b : List UInt8) : List Int := if shTE l b = 0 then shT l b else List.replicate l.length 0

theorem takeD_there {l : List FieldV} {vs : List Int} (h : shE l vs = 0) : takeD l (shP l vs) = vs ∧ shTE l (shP l vs) = 0 := by
  obtain ⟨h1, h2, _⟩ := shape_there h
  exact ⟨by unfold takeD; rw [if_pos h1, h2], h1⟩
theorem takeD_back {l : List FieldV} {b : List UInt8} (h : shTE l b = 0) : shE l (takeD l b) = 0 ∧ shP l (takeD l b) = b := by
  obtain ⟨h1, h2, _⟩ := shape_back h
  unfold takeD
  rw [if_pos h]
  exact ⟨h1, h2⟩
theorem takeD_none {l : List FieldV} {b : List UInt8} (h : shTE l b ≠ 0) : takeD l b = List.replicate l.length 0 := by
  unfold takeD
  rw [if_neg h]
theorem shP_none {l : List FieldV} {vs : List Int} (h : shE l vs ≠ 0) : shP l vs = [] := by unfold shP; rw [if_neg h]
theorem takeD_bounds {l : List FieldV} {b : List UInt8} (hl : ∀ f ∈ l, (-9223372036854775808 ≤ f.lo ∧ f.lo ≤ 9223372036854775807) ∧ (-9223372036854775808 ≤ f.hi ∧ f.hi ≤ 9223372036854775807)) : ∀ z ∈ takeD l b, -9223372036854775808 ≤ z ∧ z ≤ 9223372036854775807 := by
  by_cases h : shTE l b = 0
  · have hT : takeD l b = takeV l b := by unfold takeD; rw [if_pos h]; unfold shT; rw [if_pos h]
    have hin : inAll l (takeV l b) = true := by
      unfold shTE at h
      split at h
      · split at h
        · cases h
        · split at h
          · cases h
          · split at h
            · rename_i h4; exact h4
            · cases h
      · cases h
    rw [hT]
    exact inAll_bounds hl (takeV_len l b) hin
  · rw [takeD_none h]
    intro z hz
    obtain ⟨_, rfl⟩ := List.mem_replicate.1 hz
    omega

end Go.Proofs.YtonejdjhdjckjaaGreat
