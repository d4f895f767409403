/-
  Small laws for seats without the shapes.
-/
import Derived.Laws.CopyOwn
import Derived.Laws.Tables
import Derived.Test.YtonejdjhdjckjaaGreatOctWr2
import Derived.Test.YtonejdjhdjckjaaGreatOctRef
set_option linter.unusedSimpArgs false
set_option linter.unusedVariables false
namespace Go.Proofs.YtonejdjhdjckjaaGreat
open Go.RowKit NumLaw

theorem wtr_belowG {w w' : World} {g : Nat} {v : Value} {l : List UInt8} {bad : Bool} (h : Wtr w g v l bad) (ha : Aw (Foot g v) w w') : Below g w w' :=
  ⟨ha.os, ha.tape, ha.output, ha.size, fun k hk => ha.block k (Nat.lt_trans hk h.lt) (fun hf => absurd (h.foot hf).1 (by omega))⟩
theorem below_awG {B : Nat} {a A' B' : World} {U : Nat → Prop} (h : Below B a A') (ha : Aw U A' B') (hu : ∀ k, U k → B ≤ k) (hB : B ≤ A'.heap.size) : Below B a B' :=
  ⟨ha.os.trans h.os, ha.tape.trans h.tape, ha.output.trans h.output, Nat.le_trans h.size ha.size, fun k hk => (ha.block k (by omega) (fun hU => by have := hu k hU; omega)).trans (h.block k hk)⟩
theorem rd_litG (w : World) (e : TypeId) (cs : List Value) (hm : cs.length ≤ maxLen) : Rd (w.alloc (.cells cs.toArray e)) (w.heap.size + 1) 1 (some ⟨w.heap.size, 0, none⟩) cs.length cs.length cs := by
  refine ⟨by simp, Nat.le_refl _, hm, fun _ => ⟨_, rfl, Nat.lt_succ_self _, fun j u hu => ?_⟩⟩
  have e1 : (⟨w.heap.size, 0, none⟩ : Addr).add j = ⟨w.heap.size, j, none⟩ := by unfold Addr.add; split <;> simp_all
  rw [e1, World.cell?, show (⟨w.heap.size, j, none⟩ : Addr).block = w.heap.size from rfl, heap_alloc_new w _]
  simpa using hu

end Go.Proofs.YtonejdjhdjckjaaGreat
