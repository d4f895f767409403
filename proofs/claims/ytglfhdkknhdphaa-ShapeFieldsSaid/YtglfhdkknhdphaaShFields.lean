/-
  The law ShapeFields walked.
-/
import Derived.Test.YtglfhdkknhdphaaShRef2
import Derived.Test.YtglfhdkknhdphaaShBack
import Derived.Laws.StructEq
set_option linter.unusedSimpArgs false
set_option linter.unusedVariables false
namespace Go.Proofs.Ytglfhdkknhdphaa
open Go.RowKit NumLaw

theorem field_held : Try.prog.stoodInHeld 77 = false := by kernel_rfl
theorem field_guard : Try.prog.eqGuardType Try.prog.depth 77 = false := by kernel_rfl
theorem field_same (a : Int) (b : Bool) (c d : Int) (w : World) : (binOp .eql 77 (.agg #[.int .i64 a, .bool b, .int .i64 c, .int .i64 d]) (.agg #[.int .i64 a, .bool b, .int .i64 c, .int .i64 d])).run Try.prog w = .ok (.bool true) w := by
  rw [run_eql_struct, run_equalIn_agg w 9999 _ _ _ (by simp only [Program.fieldsOf, Try.underlying77]) field_held]
  simp [Program.fieldsOf, Try.underlying77, Op.eqFields, part, run_equalIn_int w _ _ _ _ _ _ Try.underlying3, run_equalIn_int w _ _ _ _ _ _ Try.underlying2, run_equalIn_bool' w _ _ _ _ Try.underlying4]

set_option maxRecDepth 10000 in
set_option maxHeartbeats 2000000 in
theorem shfields_any (size lo hi : Int) (A : Option Addr) (n c : Nat) (l : List FieldV) (w : World) (h1 : -9223372036854775808 ≤ size ∧ size ≤ 9223372036854775807) (h2 : -9223372036854775808 ≤ lo ∧ lo ≤ 9223372036854775807) (h3 : -9223372036854775808 ≤ hi ∧ hi ≤ 9223372036854775807) (h : RdF w w.heap.size A n c l) :
    Calls Try.prog 11 #[.int .i64 size, .int .i64 lo, .int .i64 hi, .slice A n c] w fun e w' => e = .returned (.bool true) ∧ Below w.heap.size w w' := by
  by_cases g1 : 200 < n
  · go_enter Try.func11, Try.ntmps11
    go_wp2_with fail
    go_fit (knows14 _)
    rintro e w1 ⟨rfl, hb1⟩
    go_wp2
    go_ret
    exact ⟨rfl, hb1⟩
  obtain ⟨sg, hsg⟩ : ∃ sg : Bool, sg = decide (lo < 0) := ⟨_, rfl⟩
  have hA := fun w => shAny_any size sg w
  have hA' := fun w => qAny14_any size sg w
  have hU := fun w => shU_any size hi w
  have hU' := fun w => qU14_any size hi w
  have hI := fun w => shI_any size lo hi w
  have hI' := fun w => qI14_any size lo hi w
  obtain ⟨a0, a1, a2, a3, ha⟩ : ∃ a0 a1 a2 a3, anyF size sg = ⟨a0, a1, a2, a3⟩ := ⟨_, _, _, _, rfl⟩
  obtain ⟨b0, b1, b2, b3, hb⟩ : ∃ b0 b1 b2 b3, (if fitsF size = true then (⟨size, false, 0, hi⟩ : FieldV) else ⟨0, false, 0, 0⟩) = ⟨b0, b1, b2, b3⟩ := ⟨_, _, _, _, rfl⟩
  obtain ⟨c0, c1, c2, c3, hc⟩ : ∃ c0 c1 c2 c3, (if fitsF size = true then (⟨size, true, lo, hi⟩ : FieldV) else ⟨0, false, 0, 0⟩) = ⟨c0, c1, c2, c3⟩ := ⟨_, _, _, _, rfl⟩
  rw [ha] at hA hA'
  rw [hb] at hU hU'
  rw [hc] at hI hI'
  clear ha hb hc
  unfold fv at hA hA' hU hU' hI hI'
  simp only at hA hA' hU hU' hI hI'
  rw [hsg] at hA hA'
  have HA := Lib.hid hA
  have HA' := Lib.hid hA'
  have HU := Lib.hid hU
  have HU' := Lib.hid hU'
  have HI := Lib.hid hI
  have HI' := Lib.hid hI'
  clear hA hA' hU hU' hI hI' hsg
  have q1 := field_same a0 a1 a2 a3
  have q2 := field_same b0 b1 b2 b3
  have q3 := field_same c0 c1 c2 c3
  have qg := field_guard
  go_enter Try.func11, Try.ntmps11
  go_wp2_with fail
  go_fit (knows14 _)
  rintro e w1 ⟨rfl, hb1⟩
  go_wp2_with fail
  go_fit (HA.out _)
  rintro e w2 ⟨rfl, hb⟩
  replace hb1 := bnx hb1 hb
  go_wp2_with fail
  go_fit (HA'.out _)
  rintro e w3 ⟨rfl, hb⟩
  replace hb1 := bnx hb1 hb
  go_wp2_with fail
  go_fit (HU.out _)
  rintro e w4 ⟨rfl, hb⟩
  replace hb1 := bnx hb1 hb
  go_wp2_with fail
  go_fit (HU'.out _)
  rintro e w5 ⟨rfl, hb⟩
  replace hb1 := bnx hb1 hb
  go_wp2_with fail
  go_fit (HI.out _)
  rintro e w6 ⟨rfl, hb⟩
  replace hb1 := bnx hb1 hb
  go_wp2_with fail
  go_fit (HI'.out _)
  rintro e w7 ⟨rfl, hb⟩
  replace hb1 := bnx hb1 hb
  go_wp2_with fail
  go_fit (shRight_any A n c w.heap.size l _ (h.up hb1) hb1.size)
  rintro e w8 ⟨rfl, hb⟩
  replace hb1 := bnx hb1 hb
  go_wp2_with fail
  go_fit (qRight_any A n c w.heap.size l _ (h.up hb1) hb1.size)
  rintro e w9 ⟨rfl, hb⟩
  replace hb1 := bnx hb1 hb
  go_wp2_with fail
  go_fit (shWidth_any A n c w.heap.size l _ (h.up hb1) hb1.size (by omega))
  rintro e w10 ⟨rfl, hb⟩
  replace hb1 := bnx hb1 hb
  go_wp2_with fail
  go_fit (qWidth_any A n c w.heap.size l _ (h.up hb1) hb1.size (by omega))
  rintro e w11 ⟨rfl, hb⟩
  replace hb1 := bnx hb1 hb
  go_wp2
  go_ret
  exact ⟨by simp, hb1⟩

end Go.Proofs.Ytglfhdkknhdphaa
