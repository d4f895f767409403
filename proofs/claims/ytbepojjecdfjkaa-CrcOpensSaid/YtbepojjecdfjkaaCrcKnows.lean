/-
  The statements' own example of the sum: it is as the document says.
-/
import Derived.Test.YtbepojjecdfjkaaCrcWalks
import Derived.Deep.DeepFit
set_option linter.unusedSimpArgs false
set_option linter.unusedVariables false
namespace Go.Proofs.Ytbepojjecdfjkaa
open Go.RowKit CrcLaw

set_option maxHeartbeats 400000 in
theorem knows05 (w : World) : Calls Try.prog 7 #[] w fun e w' => e = .returned (.bool true) ∧ Below w.heap.size w w' := by
  have h1 : Rd (w.alloc (.cells #[.int .u8 49, .int .u8 50, .int .u8 51, .int .u8 52, .int .u8 53, .int .u8 54, .int .u8 55, .int .u8 56, .int .u8 57] 5 (9, 10))) (w.heap.size + 1) 1 (some ⟨w.heap.size, 0, none⟩) 9 9 (bv [49, 50, 51, 52, 53, 54, 55, 56, 57]) :=
    rd_const w 5 [49, 50, 51, 52, 53, 54, 55, 56, 57] (9, 10) (by simp [maxLen])
  have h2 := RdL.lit1 (e := 23) (by simp) h1
  simp only [World.size_alloc] at h2
  have kc := fun (w : World) (C : Array Value) (n c : Nat) => Lib.run_convert_bytes_const (P := Try.prog) w 23 5 C n c Try.underlying23 Try.underlying5
  have hv : moreN 65535 [[49, 50, 51, 52, 53, 54, 55, 56, 57]].flatten = 28561 := by decide +kernel
  have Hc := Lib.hid (of_any _ _ _ _ _ _ h2 (by simp))
  have Hv := Lib.hid hv
  clear h1 h2 hv
  go_enter Try.func7, Try.ntmps7
  go_wp2_with fail
  go_fit Hc.out
  rintro e w1 ⟨rfl, hb1⟩
  rw [Hv.out]
  go_wp2
  go_ret
  exact ⟨rfl, (((Below.refl _ _).alloc (Nat.le_refl _) _).alloc (by simp) _).trans (hb1.mono (by simp; omega))⟩

end Go.Proofs.Ytbepojjecdfjkaa
