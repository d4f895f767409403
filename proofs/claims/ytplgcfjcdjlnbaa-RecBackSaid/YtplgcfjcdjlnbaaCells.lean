/-
  A struct laid cell by cell; what a message taken is.
-/
import Derived.Test.YtplgcfjcdjlnbaaGenW
import Derived.Laws.CopyOwn
import Derived.Laws.Tables
set_option linter.unusedSimpArgs false
set_option linter.unusedVariables false
namespace Go.Proofs.Ytplgcfjcdjlnbaa
open Go.RowKit NumLaw

/-- Cells of block g laid anew, from k on. -/
def stN (w : World) (g : Nat) : Nat → List Value → World
  | _, [] => w
  | k, v :: vs => stN (w.setCell ⟨g, k, none⟩ v) g (k + 1) vs
theorem stN_heap {g e : Nat} : ∀ (vs pre olds : List Value) (w : World), w.heap[g]? = some (.cells (pre ++ olds).toArray e) → olds.length = vs.length → (stN w g pre.length vs).heap[g]? = some (.cells (pre ++ vs).toArray e)
  | [], pre, olds, w, h, hl => by
    obtain rfl : olds = [] := List.eq_nil_of_length_eq_zero (by simpa using hl)
    exact h
  | v :: vs, pre, [], w, h, hl => by simp at hl
  | v :: vs, pre, o :: olds, w, h, hl => by
    have h1 := blk_set (i := pre.length) h v
    have e1 : (pre ++ o :: olds).toArray.setIfInBounds pre.length v = ((pre ++ [v]) ++ olds).toArray := by simp
    rw [e1] at h1
    have := stN_heap vs (pre ++ [v]) olds _ h1 (by simpa using hl)
    unfold stN
    simpa using this
theorem stN_below {B g : Nat} {a : World} : ∀ (vs : List Value) (k : Nat) (w : World), Below B a w → B ≤ g → Below B a (stN w g k vs)
  | [], _, _, h, _ => h
  | v :: vs, k, w, h, hg => stN_below vs (k + 1) _ (h.setCell (p := ⟨g, k, none⟩) hg v) hg
theorem stN_own {base : Nat} {e : TypeId} {size n : Nat} {v : Value} {xs : List Value} {g : Nat} : ∀ (vs : List Value) (k : Nat) (w : World), w.ownsRow base e size v n xs → g < base → (stN w g k vs).ownsRow base e size v n xs
  | [], _, _, h, _ => h
  | u :: vs, k, w, h, hg => stN_own vs (k + 1) _ (own_set h hg u) hg
/-- A row of the call's own: where its cells lie. -/
theorem own_at {w : World} {base : Nat} {e : TypeId} {n c : Nat} {A : Option Addr} {xs : List Value} (h : w.ownsRow base e 1 (.slice A n c) n xs) (hn : 0 < n) : ∃ g, A = some ⟨g, 0, none⟩ ∧ base ≤ g ∧ g < w.heap.size ∧ ∀ j u, xs[j]? = some u → w.cell? ⟨g, j, none⟩ = some u := by
  rcases h.2 with ⟨hv, h0⟩ | ⟨g, cap, cur, hv, hg, hh, h1, h2, h3, h4⟩
  · injection hv with e1 e2 e3; omega
  · have hcell := h.cells (g := g) (by rw [hv]; rfl)
    injection hv with e1 e2 e3
    refine ⟨g, e1, hg, blk_lt hh, fun j u hu => ?_⟩
    have := hcell j u hu
    rwa [show (⟨g, 0, none⟩ : Addr).add j = ⟨g, j, none⟩ by unfold Addr.add; split <;> simp_all] at this
/-- Halts the walk in front of a store. -/
theorem stop_store {P : Program} {w : World} {ops : Array Oper} {rest : List Oper} {a : Act} {Q : Exit → Act → World → Prop} {x y : Operand} {t ty : TypeId} {pos : String} {af : Array Edge}
    (h : Stop (wpList P ops Q (⟨none, .store t x y, ty, pos, af, none⟩ :: rest) a w)) : wpList P ops Q (⟨none, .store t x y, ty, pos, af, none⟩ :: rest) a w := h

end Go.Proofs.Ytplgcfjcdjlnbaa
