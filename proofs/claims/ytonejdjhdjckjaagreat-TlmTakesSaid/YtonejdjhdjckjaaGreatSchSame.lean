/-
  Two parts compared.
-/
import Derived.Test.YtonejdjhdjckjaaGreatSch1
import Derived.Laws.StructEq
set_option linter.unusedSimpArgs false
set_option linter.unusedVariables false
namespace Go.Proofs.YtonejdjhdjckjaaGreat
open Go.RowKit NumLaw

instance : DecidableEq PtT := fun a b => decidable_of_iff (a.nm = b.nm ∧ a.sz = b.sz ∧ a.sg = b.sg ∧ a.mn = b.mn) (by cases a; cases b; simp)
theorem pt_held : Tryz.prog.stoodInHeld 71 = false := by kernel_rfl
theorem pt_guard : Tryz.prog.eqGuardType Tryz.prog.depth 71 = false := by kernel_rfl
theorem toList_beq (a b : ByteArray) : (a.toList == b.toList) = decide (a = b) := by
  rw [ByteArray.toList_eq, ByteArray.toList_eq, Bool.eq_iff_iff, beq_iff_eq, decide_eq_true_iff]
  obtain ⟨⟨x⟩⟩ := a
  obtain ⟨⟨y⟩⟩ := b
  simp
theorem pt_eq (d : Nat) (x y : PtT) (w : World) : (Op.equalIn (d + 3) 71 (.agg (ptC x).toArray) (.agg (ptC y).toArray)).run Tryz.prog w = .ok (decide (x = y)) w := by
  obtain ⟨s, z, g, m⟩ := x
  obtain ⟨s', z', g', m'⟩ := y
  rw [run_equalIn_agg w (d + 2) _ _ _ (by simp only [Program.fieldsOf, Tryz.underlying71]) pt_held]
  simp only [Program.fieldsOf, Tryz.underlying71, Op.eqFields]
  have q0 : (Op.equalIn (d + 2) 9 (.string s) (.string s')).run Tryz.prog w = .ok (decide (s = s')) w := by rw [run_equalIn_string w (d + 1) _ _ _ Tryz.underlying9, toList_beq]
  have q1 : (Op.equalIn (d + 2) 3 (.int .i64 z) (.int .i64 z')).run Tryz.prog w = .ok (z == z') w := run_equalIn_int w (d + 1) _ .i64 .i64 _ _ Tryz.underlying3
  have q2 : (Op.equalIn (d + 2) 4 (.bool g) (.bool g')).run Tryz.prog w = .ok (g == g') w := run_equalIn_bool' w (d + 1) _ _ _ Tryz.underlying4
  have q3 : (Op.equalIn (d + 2) 3 (.int .i64 m) (.int .i64 m')).run Tryz.prog w = .ok (m == m') w := run_equalIn_int w (d + 1) _ .i64 .i64 _ _ Tryz.underlying3
  have p0 : ∀ (p : PtT), (part 9 (ptC p).toArray 0).run Tryz.prog w = .ok (.string p.nm) w := fun p => by simp [part, isAgg, run_underlying Tryz.underlying9, ptC]
  have p1 : ∀ (p : PtT), (part 3 (ptC p).toArray 1).run Tryz.prog w = .ok (.int .i64 p.sz) w := fun p => by simp [part, isAgg, run_underlying Tryz.underlying3, ptC]
  have p2 : ∀ (p : PtT), (part 4 (ptC p).toArray 2).run Tryz.prog w = .ok (.bool p.sg) w := fun p => by simp [part, isAgg, run_underlying Tryz.underlying4, ptC]
  have p3 : ∀ (p : PtT), (part 3 (ptC p).toArray 3).run Tryz.prog w = .ok (.int .i64 p.mn) w := fun p => by simp [part, isAgg, run_underlying Tryz.underlying3, ptC]
  have e : decide ((⟨s, z, g, m⟩ : PtT) = ⟨s', z', g', m'⟩) = (decide (s = s') && ((z == z') && ((g == g') && (m == m')))) := by
    rw [Bool.eq_iff_iff]; simp
  rw [e]
  simp only [ne_eq, show ¬ ("Name" = "_") by decide, show ¬ ("Size" = "_") by decide, show ¬ ("Signed" = "_") by decide, show ¬ ("Many" = "_") by decide, not_false_eq_true, if_true]
  generalize decide (s = s') = b0 at *
  generalize (z == z') = b1 at *
  generalize (g == g') = b2 at *
  generalize (m == m') = b3 at *
  simp only [Sem.run_bind, p0, q0, Result.andThen_ok]
  cases b0
  · rfl
  simp only [Bool.not_true, Bool.false_eq_true, if_false, Sem.run_bind, p1, q1, Result.andThen_ok]
  cases b1
  · rfl
  simp only [Bool.not_true, Bool.false_eq_true, if_false, Sem.run_bind, p2, q2, Result.andThen_ok]
  cases b2
  · rfl
  simp only [Bool.not_true, Bool.false_eq_true, if_false, Sem.run_bind, p3, q3, Result.andThen_ok]
  cases b3 <;> rfl
theorem pt_neq (x y : PtT) (w : World) : (binOp .neq 71 (.agg (ptC x).toArray) (.agg (ptC y).toArray)).run Tryz.prog w = .ok (.bool (!decide (x = y))) w := by
  rw [run_neq_struct, pt_eq 9997 x y w]
  rfl

end Go.Proofs.YtonejdjhdjckjaaGreat
