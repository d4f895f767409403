/-
  valset.Take walked (printed by gen_val6.py).
-/
import Derived.Test.YtmkidihcdljkiaaGreatKPGVB
set_option linter.unusedSimpArgs false
set_option linter.unusedVariables false
namespace Go.Proofs.YtmkidihcdljkiaaGreat
open Go.RowKit NumLaw
attribute [local go_sem] Addr.add_mid

theorem aw_setRow20 {w : World} (g : Nat) (cs : Array Value) : Aw (fun k => k = g) w (w.setRow g cs) :=
  ⟨setRow_os w g cs, setRow_tape w g cs, setRow_output w g cs, by rw [setRow_size]; exact Nat.le_refl _, fun k _ hu => setRow_other w g k cs hu⟩
theorem below_aw20 {B : Nat} {a A' B' : World} {U : Nat → Prop} (h : Below B a A') (ha : Aw U A' B') (hu : ∀ k, U k → B ≤ k) (hB : B ≤ A'.heap.size) : Below B a B' :=
  ⟨ha.os.trans h.os, ha.tape.trans h.tape, ha.output.trans h.output, Nat.le_trans h.size ha.size, fun k hk => (ha.block k (by omega) (fun hU => by have := hu k hU; omega)).trans (h.block k hk)⟩
theorem pair_info : (Tryz.prog.info? 103).map (fun i => (i.zero, i.size, i.bytes)) = some (some (.agg #[.int .i64 0, .int .i64 0]), 2, 16) := by kernel_rfl
theorem prC_one (p : Int × Int) : ∀ u ∈ prC p, u.oneCell' = true := by
  intro u hu
  simp only [prC, List.mem_cons, List.not_mem_nil, or_false] at hu
  rcases hu with rfl | rfl <;> rfl
end Go.Proofs.YtmkidihcdljkiaaGreat
