/-
  The document's answer for layer 4 (landfallref04), its writer.
-/
import Derived.Test.YtonejdjhdjckjaaGreatOctWr2
import Derived.Test.YtonejdjhdjckjaaGreatOctRef
set_option linter.unusedSimpArgs false
set_option linter.unusedVariables false
namespace Go.Proofs.YtonejdjhdjckjaaGreat
open Go.RowKit NumLaw

theorem ret_bool {a b : Bool} (h : a = b) : Ending.returned (.bool a) = .returned (.bool b) := by rw [h]

/- Bytes -/
/- FitsU -/
theorem half_two (n : Nat) (h : 1 ≤ n) : 2 * (128 * 256 ^ (n - 1)) = 256 ^ n := by
  obtain ⟨j, rfl⟩ : ∃ j, n = j + 1 := ⟨n - 1, by omega⟩
  simp only [Nat.add_sub_cancel, Nat.pow_succ]; omega
/- FitsI -/
/-- A writer as a plain value: its bytes in new memory (or none). -/
def RetPW (w : World) (l : List UInt8) (bad : Bool) (e : Ending) (w' : World) : Prop :=
  ∃ A n c, e = .returned (.agg #[.slice A n c, .bool bad]) ∧ w'.ownsRow w.heap.size 5 1 (.slice A n c) n (bv l) ∧ (bad = true → A = none ∧ n = 0 ∧ c = 0) ∧ Below w.heap.size w w'
/- PutRaw -/
/- PutU -/
/- PutI -/
end Go.Proofs.YtonejdjhdjckjaaGreat
