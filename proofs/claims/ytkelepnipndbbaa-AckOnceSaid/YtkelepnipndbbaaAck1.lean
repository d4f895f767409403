/-
  ack's fields, and the document's.
-/
import Derived.Test.YtkelepnipndbbaaFldRow
import Derived.Test.YtkelepnipndbbaaShRef5
set_option linter.unusedSimpArgs false
set_option linter.unusedVariables false
namespace Go.Proofs.Ytkelepnipndbbaa
open Go.RowKit NumLaw

def ackF : List FieldV := [⟨1, false, 0, 255⟩, ⟨1, false, 0, 255⟩]
theorem ackF_b : FB ackF := by intro f hf; simp [ackF] at hf; subst hf; simp
theorem any1_ : anyF 1 false = ⟨1, false, 0, 255⟩ := by simp [anyF, fitsF]
set_option maxRecDepth 10000 in
set_option maxHeartbeats 1000000 in
theorem ackfields_any (w : World) : Calls Try.prog 92 #[] w (RetF ackF w) := by
  have ha := fun w => shAny_any 1 false w
  rw [any1_] at ha
  have Ha := Lib.hid ha
  clear ha
  go_enter Try.func92, Try.ntmps92
  go_wp2_with fail
  go_fit (Ha.out _)
  rintro e w1 ⟨rfl, hb1⟩
  unfold fv
  go_wp2_with fail
  go_fit (Ha.out _)
  rintro e w2 ⟨rfl, hb2⟩
  unfold fv
  have hb := bnx hb1 hb2
  go_wp2
  go_ret
  exact ⟨_, 2, 2, rfl, by omega, by rw [World.size_alloc]; exact rdF_lit w2 80 ackF _ rfl (by simp [ackF, maxLen]) ackF_b, hb.alloc hb.size _⟩
set_option maxRecDepth 10000 in
set_option maxHeartbeats 1000000 in
theorem qackShape_any (w : World) : Calls Try.prog 94 #[] w (RetF ackF w) := by
  go_enter Try.func94, Try.ntmps94
  go_wp2
  go_ret
  exact ⟨_, 2, 2, rfl, by omega, by rw [World.size_alloc]; exact rdF_lit w 80 ackF _ rfl (by simp [ackF, maxLen]) ackF_b, (Below.refl _ _).alloc (Nat.le_refl _) _⟩

end Go.Proofs.Ytkelepnipndbbaa
