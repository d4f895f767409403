/-
  Several texts in one: Sch5 SchSame StbP Sch6 Sch7 Sch8.
-/
import Derived.Test.YtonejdjhdjckjaaKGG
import Derived.Test.YtonejdjhdjckjaaKGH
import Derived.Test.YtonejdjhdjckjaaKGF
import Derived.Laws.StructEq
import Derived.Test.YtonejdjhdjckjaaKGE
import Derived.Test.YtonejdjhdjckjaaKGA
/-
  the document's Parts and Name walked (printed by gen_sch4.py).
-/
set_option linter.unusedSimpArgs false
set_option linter.unusedVariables false
namespace Go.Proofs.Ytonejdjhdjckjaa
open Go.RowKit NumLaw
attribute [local go_sem] Addr.add_mid

theorem frm_at (id : Int) : (id = 0 ∧ frm id = fm0) ∨ (id = 1 ∧ frm id = fm1) ∨ (id = 2 ∧ frm id = fm2) ∨ (id = 4 ∧ frm id = fm4) ∨ (id = 24 ∧ frm id = fm24) ∨ (id = 25 ∧ frm id = fm25) ∨ (id = 26 ∧ frm id = fm26) ∨ (id = 27 ∧ frm id = fm27) ∨ (id = 28 ∧ frm id = fm28) ∨ (id = 33 ∧ frm id = fm33) ∨ (id = 35 ∧ frm id = fm35) ∨ (id = 36 ∧ frm id = fm36) ∨ (id = 42 ∧ frm id = fm42) ∨ (id = 44 ∧ frm id = fm44) ∨ (id = 47 ∧ frm id = fm47) ∨ (id = 66 ∧ frm id = fm66) ∨ (id = 77 ∧ frm id = fm77) ∨ (id = 111 ∧ frm id = fm111) ∨ (id = 125 ∧ frm id = fm125) ∨ (id = 200 ∧ frm id = fm200) ∨ (id = 201 ∧ frm id = fm201) ∨ (id = 202 ∧ frm id = fm202) ∨ (frm id = fmNone ∧ ¬ id = 0 ∧ ¬ id = 1 ∧ ¬ id = 2 ∧ ¬ id = 4 ∧ ¬ id = 24 ∧ ¬ id = 25 ∧ ¬ id = 26 ∧ ¬ id = 27 ∧ ¬ id = 28 ∧ ¬ id = 33 ∧ ¬ id = 35 ∧ ¬ id = 36 ∧ ¬ id = 42 ∧ ¬ id = 44 ∧ ¬ id = 47 ∧ ¬ id = 66 ∧ ¬ id = 77 ∧ ¬ id = 111 ∧ ¬ id = 125 ∧ ¬ id = 200 ∧ ¬ id = 201 ∧ ¬ id = 202) := by
  by_cases h0 : id = 0
  · subst h0
    exact (.inl ⟨rfl, by rfl⟩)
  by_cases h1 : id = 1
  · subst h1
    exact .inr ((.inl ⟨rfl, by rfl⟩))
  by_cases h2 : id = 2
  · subst h2
    exact .inr (.inr ((.inl ⟨rfl, by rfl⟩)))
  by_cases h4 : id = 4
  · subst h4
    exact .inr (.inr (.inr ((.inl ⟨rfl, by rfl⟩))))
  by_cases h24 : id = 24
  · subst h24
    exact .inr (.inr (.inr (.inr ((.inl ⟨rfl, by rfl⟩)))))
  by_cases h25 : id = 25
  · subst h25
    exact .inr (.inr (.inr (.inr (.inr ((.inl ⟨rfl, by rfl⟩))))))
  by_cases h26 : id = 26
  · subst h26
    exact .inr (.inr (.inr (.inr (.inr (.inr ((.inl ⟨rfl, by rfl⟩)))))))
  by_cases h27 : id = 27
  · subst h27
    exact .inr (.inr (.inr (.inr (.inr (.inr (.inr ((.inl ⟨rfl, by rfl⟩))))))))
  by_cases h28 : id = 28
  · subst h28
    exact .inr (.inr (.inr (.inr (.inr (.inr (.inr (.inr ((.inl ⟨rfl, by rfl⟩)))))))))
  by_cases h33 : id = 33
  · subst h33
    exact .inr (.inr (.inr (.inr (.inr (.inr (.inr (.inr (.inr ((.inl ⟨rfl, by rfl⟩))))))))))
  by_cases h35 : id = 35
  · subst h35
    exact .inr (.inr (.inr (.inr (.inr (.inr (.inr (.inr (.inr (.inr ((.inl ⟨rfl, by rfl⟩)))))))))))
  by_cases h36 : id = 36
  · subst h36
    exact .inr (.inr (.inr (.inr (.inr (.inr (.inr (.inr (.inr (.inr (.inr ((.inl ⟨rfl, by rfl⟩))))))))))))
  by_cases h42 : id = 42
  · subst h42
    exact .inr (.inr (.inr (.inr (.inr (.inr (.inr (.inr (.inr (.inr (.inr (.inr ((.inl ⟨rfl, by rfl⟩)))))))))))))
  by_cases h44 : id = 44
  · subst h44
    exact .inr (.inr (.inr (.inr (.inr (.inr (.inr (.inr (.inr (.inr (.inr (.inr (.inr ((.inl ⟨rfl, by rfl⟩))))))))))))))
  by_cases h47 : id = 47
  · subst h47
    exact .inr (.inr (.inr (.inr (.inr (.inr (.inr (.inr (.inr (.inr (.inr (.inr (.inr (.inr ((.inl ⟨rfl, by rfl⟩)))))))))))))))
  by_cases h66 : id = 66
  · subst h66
    exact .inr (.inr (.inr (.inr (.inr (.inr (.inr (.inr (.inr (.inr (.inr (.inr (.inr (.inr (.inr ((.inl ⟨rfl, by rfl⟩))))))))))))))))
  by_cases h77 : id = 77
  · subst h77
    exact .inr (.inr (.inr (.inr (.inr (.inr (.inr (.inr (.inr (.inr (.inr (.inr (.inr (.inr (.inr (.inr ((.inl ⟨rfl, by rfl⟩)))))))))))))))))
  by_cases h111 : id = 111
  · subst h111
    exact .inr (.inr (.inr (.inr (.inr (.inr (.inr (.inr (.inr (.inr (.inr (.inr (.inr (.inr (.inr (.inr (.inr ((.inl ⟨rfl, by rfl⟩))))))))))))))))))
  by_cases h125 : id = 125
  · subst h125
    exact .inr (.inr (.inr (.inr (.inr (.inr (.inr (.inr (.inr (.inr (.inr (.inr (.inr (.inr (.inr (.inr (.inr (.inr ((.inl ⟨rfl, by rfl⟩)))))))))))))))))))
  by_cases h200 : id = 200
  · subst h200
    exact .inr (.inr (.inr (.inr (.inr (.inr (.inr (.inr (.inr (.inr (.inr (.inr (.inr (.inr (.inr (.inr (.inr (.inr (.inr ((.inl ⟨rfl, by rfl⟩))))))))))))))))))))
  by_cases h201 : id = 201
  · subst h201
    exact .inr (.inr (.inr (.inr (.inr (.inr (.inr (.inr (.inr (.inr (.inr (.inr (.inr (.inr (.inr (.inr (.inr (.inr (.inr (.inr ((.inl ⟨rfl, by rfl⟩)))))))))))))))))))))
  by_cases h202 : id = 202
  · subst h202
    exact .inr (.inr (.inr (.inr (.inr (.inr (.inr (.inr (.inr (.inr (.inr (.inr (.inr (.inr (.inr (.inr (.inr (.inr (.inr (.inr (.inr ((.inl ⟨rfl, by rfl⟩))))))))))))))))))))))
  refine .inr (.inr (.inr (.inr (.inr (.inr (.inr (.inr (.inr (.inr (.inr (.inr (.inr (.inr (.inr (.inr (.inr (.inr (.inr (.inr (.inr ((.inr ⟨?_, h0, h1, h2, h4, h24, h25, h26, h27, h28, h33, h35, h36, h42, h44, h47, h66, h77, h111, h125, h200, h201, h202⟩))))))))))))))))))))))
  unfold frm frmS frmN frmA frmO
  simp only [h0, h1, h2, h4, h24, h25, h26, h27, h28, h33, h35, h36, h42, h44, h47, h66, h77, h111, h125, h200, h201, h202, if_false]
  rfl
theorem frq_eq (id : Int) : (if id < 30 then frqL id else frqH id) = frm id := by
  rcases frm_at id with ⟨rfl, hf⟩ | ⟨rfl, hf⟩ | ⟨rfl, hf⟩ | ⟨rfl, hf⟩ | ⟨rfl, hf⟩ | ⟨rfl, hf⟩ | ⟨rfl, hf⟩ | ⟨rfl, hf⟩ | ⟨rfl, hf⟩ | ⟨rfl, hf⟩ | ⟨rfl, hf⟩ | ⟨rfl, hf⟩ | ⟨rfl, hf⟩ | ⟨rfl, hf⟩ | ⟨rfl, hf⟩ | ⟨rfl, hf⟩ | ⟨rfl, hf⟩ | ⟨rfl, hf⟩ | ⟨rfl, hf⟩ | ⟨rfl, hf⟩ | ⟨rfl, hf⟩ | ⟨rfl, hf⟩ | ⟨hf, h0, h1, h2, h4, h24, h25, h26, h27, h28, h33, h35, h36, h42, h44, h47, h66, h77, h111, h125, h200, h201, h202⟩
  · rw [hf]; rfl
  · rw [hf]; rfl
  · rw [hf]; rfl
  · rw [hf]; rfl
  · rw [hf]; rfl
  · rw [hf]; rfl
  · rw [hf]; rfl
  · rw [hf]; rfl
  · rw [hf]; rfl
  · rw [hf]; rfl
  · rw [hf]; rfl
  · rw [hf]; rfl
  · rw [hf]; rfl
  · rw [hf]; rfl
  · rw [hf]; rfl
  · rw [hf]; rfl
  · rw [hf]; rfl
  · rw [hf]; rfl
  · rw [hf]; rfl
  · rw [hf]; rfl
  · rw [hf]; rfl
  · rw [hf]; rfl
  · rw [hf]
    unfold frqL frqH
    simp only [h0, h1, h2, h4, h24, h25, h26, h27, h28, h33, h35, h36, h42, h44, h47, h66, h77, h111, h125, h200, h201, h202, if_false, ite_self]
set_option maxRecDepth 10000 in
theorem qparts_any (id : Int) (w : World) : Calls Try.prog 18 #[.int .i64 id] w (RetPt (frm id).2 w) := by
  rw [← frq_eq id]
  by_cases h : id < 30
  · rw [if_pos h]
    go_enter Try.func18, Try.ntmps18
    go_wp2_with fail
    go_fit (low_any id w)
    unfold RetPt
    rintro e w1 ⟨A, n, c, rfl, hr, hb⟩
    go_wp2
    go_ret
    exact ⟨A, n, c, rfl, hr, hb⟩
  · rw [if_neg h]
    go_enter Try.func18, Try.ntmps18
    go_wp2_with fail
    go_fit (high_any id w)
    unfold RetPt
    rintro e w1 ⟨A, n, c, rfl, hr, hb⟩
    go_wp2
    go_ret
    exact ⟨A, n, c, rfl, hr, hb⟩
set_option maxRecDepth 20000 in
set_option maxHeartbeats 8000000 in
theorem qname_any (id : Int) (w : World) : Calls Try.prog 16 #[.int .i64 id] w fun e w' => e = .returned (.string (frm id).1) ∧ w = w' := by
  rcases frm_at id with ⟨rfl, hf⟩ | ⟨rfl, hf⟩ | ⟨rfl, hf⟩ | ⟨rfl, hf⟩ | ⟨rfl, hf⟩ | ⟨rfl, hf⟩ | ⟨rfl, hf⟩ | ⟨rfl, hf⟩ | ⟨rfl, hf⟩ | ⟨rfl, hf⟩ | ⟨rfl, hf⟩ | ⟨rfl, hf⟩ | ⟨rfl, hf⟩ | ⟨rfl, hf⟩ | ⟨rfl, hf⟩ | ⟨rfl, hf⟩ | ⟨rfl, hf⟩ | ⟨rfl, hf⟩ | ⟨rfl, hf⟩ | ⟨rfl, hf⟩ | ⟨rfl, hf⟩ | ⟨rfl, hf⟩ | ⟨hf, h0, h1, h2, h4, h24, h25, h26, h27, h28, h33, h35, h36, h42, h44, h47, h66, h77, h111, h125, h200, h201, h202⟩
  · rw [hf]
    go_enter Try.func16, Try.ntmps16
    go_wp2
    go_ret
    exact ⟨rfl, rfl⟩
  · rw [hf]
    go_enter Try.func16, Try.ntmps16
    go_wp2
    go_ret
    exact ⟨rfl, rfl⟩
  · rw [hf]
    go_enter Try.func16, Try.ntmps16
    go_wp2
    go_ret
    exact ⟨rfl, rfl⟩
  · rw [hf]
    go_enter Try.func16, Try.ntmps16
    go_wp2
    go_ret
    exact ⟨rfl, rfl⟩
  · rw [hf]
    go_enter Try.func16, Try.ntmps16
    go_wp2
    go_ret
    exact ⟨rfl, rfl⟩
  · rw [hf]
    go_enter Try.func16, Try.ntmps16
    go_wp2
    go_ret
    exact ⟨rfl, rfl⟩
  · rw [hf]
    go_enter Try.func16, Try.ntmps16
    go_wp2
    go_ret
    exact ⟨rfl, rfl⟩
  · rw [hf]
    go_enter Try.func16, Try.ntmps16
    go_wp2
    go_ret
    exact ⟨rfl, rfl⟩
  · rw [hf]
    go_enter Try.func16, Try.ntmps16
    go_wp2
    go_ret
    exact ⟨rfl, rfl⟩
  · rw [hf]
    go_enter Try.func16, Try.ntmps16
    go_wp2
    go_ret
    exact ⟨rfl, rfl⟩
  · rw [hf]
    go_enter Try.func16, Try.ntmps16
    go_wp2
    go_ret
    exact ⟨rfl, rfl⟩
  · rw [hf]
    go_enter Try.func16, Try.ntmps16
    go_wp2
    go_ret
    exact ⟨rfl, rfl⟩
  · rw [hf]
    go_enter Try.func16, Try.ntmps16
    go_wp2
    go_ret
    exact ⟨rfl, rfl⟩
  · rw [hf]
    go_enter Try.func16, Try.ntmps16
    go_wp2
    go_ret
    exact ⟨rfl, rfl⟩
  · rw [hf]
    go_enter Try.func16, Try.ntmps16
    go_wp2
    go_ret
    exact ⟨rfl, rfl⟩
  · rw [hf]
    go_enter Try.func16, Try.ntmps16
    go_wp2
    go_ret
    exact ⟨rfl, rfl⟩
  · rw [hf]
    go_enter Try.func16, Try.ntmps16
    go_wp2
    go_ret
    exact ⟨rfl, rfl⟩
  · rw [hf]
    go_enter Try.func16, Try.ntmps16
    go_wp2
    go_ret
    exact ⟨rfl, rfl⟩
  · rw [hf]
    go_enter Try.func16, Try.ntmps16
    go_wp2
    go_ret
    exact ⟨rfl, rfl⟩
  · rw [hf]
    go_enter Try.func16, Try.ntmps16
    go_wp2
    go_ret
    exact ⟨rfl, rfl⟩
  · rw [hf]
    go_enter Try.func16, Try.ntmps16
    go_wp2
    go_ret
    exact ⟨rfl, rfl⟩
  · rw [hf]
    go_enter Try.func16, Try.ntmps16
    go_wp2
    go_ret
    exact ⟨rfl, rfl⟩
  · rw [hf]
    have q0 : (id == 0) = false := by rw [beq_eq_false_iff_ne]; exact h0
    have q1 : (id == 1) = false := by rw [beq_eq_false_iff_ne]; exact h1
    have q2 : (id == 2) = false := by rw [beq_eq_false_iff_ne]; exact h2
    have q4 : (id == 4) = false := by rw [beq_eq_false_iff_ne]; exact h4
    have q24 : (id == 24) = false := by rw [beq_eq_false_iff_ne]; exact h24
    have q25 : (id == 25) = false := by rw [beq_eq_false_iff_ne]; exact h25
    have q26 : (id == 26) = false := by rw [beq_eq_false_iff_ne]; exact h26
    have q27 : (id == 27) = false := by rw [beq_eq_false_iff_ne]; exact h27
    have q28 : (id == 28) = false := by rw [beq_eq_false_iff_ne]; exact h28
    have q33 : (id == 33) = false := by rw [beq_eq_false_iff_ne]; exact h33
    have q35 : (id == 35) = false := by rw [beq_eq_false_iff_ne]; exact h35
    have q36 : (id == 36) = false := by rw [beq_eq_false_iff_ne]; exact h36
    have q42 : (id == 42) = false := by rw [beq_eq_false_iff_ne]; exact h42
    have q44 : (id == 44) = false := by rw [beq_eq_false_iff_ne]; exact h44
    have q47 : (id == 47) = false := by rw [beq_eq_false_iff_ne]; exact h47
    have q66 : (id == 66) = false := by rw [beq_eq_false_iff_ne]; exact h66
    have q77 : (id == 77) = false := by rw [beq_eq_false_iff_ne]; exact h77
    have q111 : (id == 111) = false := by rw [beq_eq_false_iff_ne]; exact h111
    have q125 : (id == 125) = false := by rw [beq_eq_false_iff_ne]; exact h125
    have q200 : (id == 200) = false := by rw [beq_eq_false_iff_ne]; exact h200
    have q201 : (id == 201) = false := by rw [beq_eq_false_iff_ne]; exact h201
    have q202 : (id == 202) = false := by rw [beq_eq_false_iff_ne]; exact h202
    go_enter Try.func16, Try.ntmps16
    go_wp2
    go_ret
    exact ⟨rfl, rfl⟩

end Go.Proofs.Ytonejdjhdjckjaa

/-
  Two parts compared.
-/
set_option linter.unusedSimpArgs false
set_option linter.unusedVariables false
namespace Go.Proofs.Ytonejdjhdjckjaa
open Go.RowKit NumLaw

instance : DecidableEq PtT := fun a b => decidable_of_iff (a.nm = b.nm ∧ a.sz = b.sz ∧ a.sg = b.sg ∧ a.mn = b.mn) (by cases a; cases b; simp)
theorem pt_held : Try.prog.stoodInHeld 28 = false := by kernel_rfl
theorem pt_guard : Try.prog.eqGuardType Try.prog.depth 28 = false := by kernel_rfl
theorem toList_beq (a b : ByteArray) : (a.toList == b.toList) = decide (a = b) := by
  rw [ByteArray.toList_eq, ByteArray.toList_eq, Bool.eq_iff_iff, beq_iff_eq, decide_eq_true_iff]
  obtain ⟨⟨x⟩⟩ := a
  obtain ⟨⟨y⟩⟩ := b
  simp
theorem pt_eq (d : Nat) (x y : PtT) (w : World) : (Op.equalIn (d + 3) 28 (.agg (ptC x).toArray) (.agg (ptC y).toArray)).run Try.prog w = .ok (decide (x = y)) w := by
  obtain ⟨s, z, g, m⟩ := x
  obtain ⟨s', z', g', m'⟩ := y
  rw [run_equalIn_agg w (d + 2) _ _ _ (by simp only [Program.fieldsOf, Try.underlying28]) pt_held]
  simp only [Program.fieldsOf, Try.underlying28, Op.eqFields]
  have q0 : (Op.equalIn (d + 2) 9 (.string s) (.string s')).run Try.prog w = .ok (decide (s = s')) w := by rw [run_equalIn_string w (d + 1) _ _ _ Try.underlying9, toList_beq]
  have q1 : (Op.equalIn (d + 2) 3 (.int .i64 z) (.int .i64 z')).run Try.prog w = .ok (z == z') w := run_equalIn_int w (d + 1) _ .i64 .i64 _ _ Try.underlying3
  have q2 : (Op.equalIn (d + 2) 4 (.bool g) (.bool g')).run Try.prog w = .ok (g == g') w := run_equalIn_bool' w (d + 1) _ _ _ Try.underlying4
  have q3 : (Op.equalIn (d + 2) 3 (.int .i64 m) (.int .i64 m')).run Try.prog w = .ok (m == m') w := run_equalIn_int w (d + 1) _ .i64 .i64 _ _ Try.underlying3
  have p0 : ∀ (p : PtT), (part 9 (ptC p).toArray 0).run Try.prog w = .ok (.string p.nm) w := fun p => by simp [part, isAgg, run_underlying Try.underlying9, ptC]
  have p1 : ∀ (p : PtT), (part 3 (ptC p).toArray 1).run Try.prog w = .ok (.int .i64 p.sz) w := fun p => by simp [part, isAgg, run_underlying Try.underlying3, ptC]
  have p2 : ∀ (p : PtT), (part 4 (ptC p).toArray 2).run Try.prog w = .ok (.bool p.sg) w := fun p => by simp [part, isAgg, run_underlying Try.underlying4, ptC]
  have p3 : ∀ (p : PtT), (part 3 (ptC p).toArray 3).run Try.prog w = .ok (.int .i64 p.mn) w := fun p => by simp [part, isAgg, run_underlying Try.underlying3, ptC]
  have e : decide ((⟨s, z, g, m⟩ : PtT) = ⟨s', z', g', m'⟩) = (decide (s = s') && ((z == z') && ((g == g') && (m == m')))) := by
    rw [Bool.eq_iff_iff]; simp
  rw [e]
  simp only [ne_eq, show ¬ ("Name" = "_") by decide, show ¬ ("Size" = "_") by decide, show ¬ ("Signed" = "_") by decide, show ¬ ("Many" = "_") by decide, not_false_eq_true, if_true]
  generalize decide (s = s') = b0 at *
  generalize (z == z') = b1 at *
  generalize (g == g') = b2 at *
  generalize (m == m') = b3 at *
  simp only [Sem.run_bind, p0, q0, Result.andThen_ok]
  cases b0
  · rfl
  simp only [Bool.not_true, Bool.false_eq_true, if_false, Sem.run_bind, p1, q1, Result.andThen_ok]
  cases b1
  · rfl
  simp only [Bool.not_true, Bool.false_eq_true, if_false, Sem.run_bind, p2, q2, Result.andThen_ok]
  cases b2
  · rfl
  simp only [Bool.not_true, Bool.false_eq_true, if_false, Sem.run_bind, p3, q3, Result.andThen_ok]
  cases b3 <;> rfl
theorem pt_neq (x y : PtT) (w : World) : (binOp .neq 28 (.agg (ptC x).toArray) (.agg (ptC y).toArray)).run Try.prog w = .ok (.bool (!decide (x = y))) w := by
  rw [run_neq_struct, pt_eq 9997 x y w]
  rfl

end Go.Proofs.Ytonejdjhdjckjaa

/-
  stable at parts, greater, Wire walked (printed by gen_stb.py).
-/
set_option linter.unusedSimpArgs false
set_option linter.unusedVariables false
namespace Go.Proofs.Ytonejdjhdjckjaa
open Go.RowKit NumLaw
attribute [local go_sem] Addr.add_mid

theorem swap_rows {α : Type} (p s r : List α) (x y : α) (q j : Nat) (hq : q = j + 1) (hj : p.length = j) : (((p ++ [y]) ++ x :: s ++ r).set q y).set j x = p ++ x :: (y :: s) ++ r := by
  subst hq
  rw [show p ++ [y] ++ x :: s ++ r = p ++ (y :: x :: (s ++ r)) by simp, List.set_append_right (h := by omega), hj, show j + 1 - j = 1 by omega, List.set_append_right (h := by omega), hj, Nat.sub_self]
  simp
theorem RW.drew {w : World} {g : Nat} {t : TypeId} {rows : List (List Value)} (h : RW w g t rows) : RW w.drew g t rows := h
theorem h4set {size : Nat} {rows : List (List Value)} (ha : ∀ r ∈ rows, r.length = size) {k : Nat} {r' : List Value} (hr : r'.length = size) : ∀ r ∈ rows.set k r', r.length = size := fun r h => by
  rcases List.mem_or_eq_of_mem_set h with h | rfl
  · exact ha r h
  · exact hr
theorem greater_any (a b : PtT) (w : World) : Calls Try.prog 44 #[.agg (ptC a).toArray, .agg (ptC b).toArray] w fun e w' => e = .returned (.bool (decide (b.sz < a.sz))) ∧ Below w.heap.size w w' := by
  obtain ⟨s1, z1, g1, m1⟩ := a
  obtain ⟨s2, z2, g2, m2⟩ := b
  obtain ⟨a0, a1, hs, hb⟩ := al2 w (.cells #[.string s1, .int .i64 z1, .bool g1, .int .i64 m1] 28) (.cells #[.string s2, .int .i64 z2, .bool g2, .int .i64 m2] 28)
  have k0 := blk_cell (i := 1) (v := .int .i64 z1) a0 rfl
  have k1 := blk_cell (i := 1) (v := .int .i64 z2) a1 rfl
  show Calls _ _ #[.agg #[.string s1, .int .i64 z1, .bool g1, .int .i64 m1], .agg #[.string s2, .int .i64 z2, .bool g2, .int .i64 m2]] _ _
  go_enter Try.func44, Try.ntmps44
  go_wp2
  go_ret
  exact ⟨rfl, hb⟩
set_option maxRecDepth 20000 in
set_option maxHeartbeats 16000000 in
theorem stableP_any (A : Option Addr) (n c : Nat) (L : List PtT) (w : World) (h : RdR w w.heap.size 4 A n c (L.map ptC)) (hn : n ≤ 1000) :
    Calls Try.prog 43 #[.slice A n c, .func (.func 44) #[] #[]] w fun e w' => ∃ (A' : Option Addr) (c' : Nat), e = .returned (.slice A' n c') ∧ RdR w' w'.heap.size 4 A' n c' ((stb PtT.sz L).map ptC) ∧ Below w.heap.size w w' := by
  have hll : L.length = n := by have := h.1; rwa [List.length_map] at this
  have hmx := h.2.2.2.1
  have hle := h.2.2.1
  unfold maxLen at hmx
  obtain ⟨i1, hi1⟩ := info_parts pt_info
  have Hi1 := Lib.hid hi1
  have Hll := Lib.hid hll
  have Hha := Lib.hid greater_any
  have h4 : ∀ (M : List PtT), ∀ r ∈ M.map ptC, r.length = 4 := fun M r hr => by obtain ⟨p, _, rfl⟩ := List.mem_map.1 hr; rfl
  have H4 := Lib.hid h4
  have hone : ∀ u ∈ (L.map ptC).flatten, u.oneCell' = true := fun u hu => by
    obtain ⟨r, hr, hu⟩ := List.mem_flatten.1 hu
    obtain ⟨p, _, rfl⟩ := List.mem_map.1 hr
    exact ptC_one p u hu
  have Hone := Lib.hid hone
  have Hsl := Lib.hid (stb_len PtT.sz)
  clear hll hi1 h4 hone
  go_enter Try.func43, Try.ntmps43
  go_wp2_with (with_reducible refine stop_makeR ?_)
  refine go_ (wpList_make_full w rfl _ _ _ rfl w.heap.size 28 i1 (.agg #[.string ⟨#[]⟩, .int .i64 0, .bool false, .int .i64 0]) 4 Try.underlying22 Hi1.out.1 Hi1.out.2.1 Hi1.out.2.2.1 .i64 .i64 _ _ n rfl rfl rfl rfl (by rw [Hi1.out.2.2.2]; omega) (by unfold maxLen; omega) (Nat.le_refl _) ?_)
  intro w1 own1 hgr
  have hb1 : Below w.heap.size w w1 := Below.grown (Below.refl _ _) hgr (Nat.le_refl _) (fun j hj => by cases hj)
  obtain ⟨cur, hg1, hcs, _⟩ := own_full own1
  have hr1 := RdR.up h hb1
  clear own1 hgr
  go_wp2_with (with_reducible refine stop_copyR ?_)
  obtain ⟨w2, hrun, hrw, hbq⟩ := run_copy_RW (P := Try.prog) (ty := 3) (dT := 22) (sT := 22) (dCap := n) Try.underlying22 Hi1.out.1 Hi1.out.2.2.1 (by omega) hg1 hcs hr1 Hone.out
  have hb2 := hbq _ _ hb1 (Nat.le_refl _)
  refine go_ (wpList_copy_run' rfl rfl hrun ?_)
  obtain ⟨g, hgg⟩ : ∃ g, g = w.heap.size := ⟨_, rfl⟩
  have Hg := Lib.hid hgg
  rw [← hgg] at hrw ⊢
  clear hrun hbq hg1 hcs hr1 hb1 hgg w1
  go_wp2_with fail
  go_loopw [16] (fun t wr => ∃ i : Nat, i ≤ n ∧ t = .int .i64 i ∧ Hid (RW wr g 28 ((stb PtT.sz (L.take i) ++ L.drop i).map ptC)) ∧ Below w.heap.size w wr) (fun t _ => n - (intOf t).toNat)
  case atStart => exact ⟨0, by omega, rfl, Lib.hid (by simpa [stb_nil] using hrw), hb2⟩
  case round =>
    clear hrw hb2 w2
    obtain ⟨i, hi, rfl, hrw, hb⟩ := hrel
    by_cases hlt : i < n
    · have hlt' : (i : Int) < (n : Int) := by omega
      obtain ⟨x, hx⟩ : ∃ x, L[i]? = some x := ⟨_, List.getElem?_eq_getElem (by rw [Hll.out]; exact hlt)⟩
      have hdr : L.drop i = x :: L.drop (i + 1) := by
        have h1 := List.drop_eq_getElem_cons (l := L) (i := i) (by rw [Hll.out]; exact hlt)
        rw [List.getElem?_eq_getElem (by rw [Hll.out]; exact hlt)] at hx
        injection hx with hx
        rw [h1, hx]
      have Htx := Lib.hid (take_succ hx)
      have hrw0 := hrw.out
      rw [hdr] at hrw0
      have Hrw0 := Lib.hid hrw0
      have hsl0 : (stb PtT.sz (L.take i)).length = i := by rw [Hsl.out, List.length_take, Hll.out]; omega
      have Hsl0 := Lib.hid hsl0
      clear hx hdr hrw hrw0 hsl0
      go_wp2_with fail
      go_loopw [7] (fun k wr => ∃ (q : Nat) (p s : List PtT), q ≤ i ∧ k = .int .i64 q ∧ Hid (p.length = q) ∧ Hid (stb PtT.sz (L.take i) = p ++ s ∧ ∀ y ∈ s, PtT.sz y < PtT.sz x) ∧ Hid (RW wr g 28 ((p ++ x :: s ++ L.drop (i + 1)).map ptC)) ∧ Below w.heap.size w wr) (fun k _ => (intOf k).toNat)
      case atStart => exact ⟨i, stb PtT.sz (L.take i), [], by omega, rfl, Hsl0, Lib.hid ⟨by simp, by simp⟩, Lib.hid (by simpa using Hrw0.out), hb⟩
      case round =>
        clear hb Hrw0
        obtain ⟨q, p, s, hq, rfl, Hp, Hs, Hrw, hb⟩ := hrel
        have hgw : g < wr.heap.size := blk_lt Hrw.out
        by_cases hq0 : q = 0
        · subst hq0
          have hp0 : p = [] := List.eq_nil_of_length_eq_zero Hp.out
          have hst := stb_at PtT.sz Hs.out.1 Hs.out.2 (.inl hp0)
          have Hst := Lib.hid (show RW wr g 28 ((stb PtT.sz (L.take (i + 1)) ++ L.drop (i + 1)).map ptC) by rw [Htx.out, hst]; exact Hrw.out)
          clear hp0 hst
          rw [show ((0 : Nat) : Int) = 0 from rfl]
          go_wp2_with fail
          refine Ord.region_ (fun w' => Below wr.heap.size wr w') false [] (by kernel_rfl) (by kernel_rfl) (Below.refl _ _).drew ?_
          have hS : Below wr.heap.size wr wr.drew := (Below.refl _ _).drew
          generalize wr.drew = wd at *
          ((with_reducible refine Ord.e_p (v := ?_) ?_ ?_ ?_ ?_); rotate_left; (· exact rfl); (· kernel_rfl); (· intro w2; go_simp; try with_reducible rfl))
          (try simp only [Act.put, List.setIfInBounds_toArray, List.set_cons_zero, List.set_cons_succ])
          ((with_reducible refine Ord.e_p (v := ?_) ?_ ?_ ?_ ?_); rotate_left; (· exact rfl); (· kernel_rfl); (· intro w2; go_simp; try with_reducible rfl))
          (try simp only [Act.put, List.setIfInBounds_toArray, List.set_cons_zero, List.set_cons_succ])
          ((with_reducible refine Ord.e_p (v := ?_) ?_ ?_ ?_ ?_); rotate_left; (· exact rfl); (· kernel_rfl); (· intro w2; go_simp; try with_reducible rfl))
          (try simp only [Act.put, List.setIfInBounds_toArray, List.set_cons_zero, List.set_cons_succ])
          ((with_reducible refine Ord.e_u ?_ ?_); (· kernel_rfl))
          (try simp only [Act.put, List.setIfInBounds_toArray, List.set_cons_zero, List.set_cons_succ])
          ((with_reducible refine Ord.e_u ?_ ?_); (· kernel_rfl))
          (try simp only [Act.put, List.setIfInBounds_toArray, List.set_cons_zero, List.set_cons_succ])
          ((with_reducible refine Ord.e_u ?_ ?_); (· kernel_rfl))
          (try simp only [Act.put, List.setIfInBounds_toArray, List.set_cons_zero, List.set_cons_succ])
          ((with_reducible refine Ord.e_u ?_ ?_); (· kernel_rfl))
          (try simp only [Act.put, List.setIfInBounds_toArray, List.set_cons_zero, List.set_cons_succ])
          ((with_reducible refine Ord.e_u ?_ ?_); (· kernel_rfl))
          (try simp only [Act.put, List.setIfInBounds_toArray, List.set_cons_zero, List.set_cons_succ])
          ((with_reducible refine Ord.e_u ?_ ?_); (· kernel_rfl))
          (try simp only [Act.put, List.setIfInBounds_toArray, List.set_cons_zero, List.set_cons_succ])
          ((with_reducible refine Ord.e_u ?_ ?_); (· kernel_rfl))
          (try simp only [Act.put, List.setIfInBounds_toArray, List.set_cons_zero, List.set_cons_succ])
          ((with_reducible refine Ord.e_u ?_ ?_); (· kernel_rfl))
          (try simp only [Act.put, List.setIfInBounds_toArray, List.set_cons_zero, List.set_cons_succ])
          ((with_reducible refine Ord.e_u ?_ ?_); (· kernel_rfl))
          (try simp only [Act.put, List.setIfInBounds_toArray, List.set_cons_zero, List.set_cons_succ])
          ((with_reducible refine Ord.e_u ?_ ?_); (· kernel_rfl))
          (try simp only [Act.put, List.setIfInBounds_toArray, List.set_cons_zero, List.set_cons_succ])
          ((with_reducible refine Ord.e_u ?_ ?_); (· kernel_rfl))
          (try simp only [Act.put, List.setIfInBounds_toArray, List.set_cons_zero, List.set_cons_succ])
          ((with_reducible refine Ord.e_p (v := ?_) ?_ ?_ ?_ ?_); rotate_left; (· exact rfl); (· kernel_rfl); (· intro w2; go_simp; try with_reducible rfl))
          (try simp only [Act.put, List.setIfInBounds_toArray, List.set_cons_zero, List.set_cons_succ])
          refine Ord.e_nil ?_
          have hbf := bnx hb hS
          have Hst2 := Lib.hid (Hst.out.old hS hgw)
          clear Hst hb hS
          go_wp2
          go_roundw
          case rel => exact ⟨i + 1, by omega, by go_num, Hst2, hbf⟩
          case measure => simp [intOf]; omega
        · obtain ⟨j, hj⟩ : ∃ j, q = j + 1 := ⟨q - 1, by omega⟩
          have Hj := Lib.hid hj
          obtain ⟨y, hy⟩ : ∃ y, p[j]? = some y := ⟨_, List.getElem?_eq_getElem (by rw [Hp.out]; omega)⟩
          have hpy : p = p.take j ++ [y] := by
            have := take_succ hy
            rwa [List.take_of_length_le (by rw [Hp.out]; omega)] at this
          obtain ⟨p', hp'⟩ : ∃ p', p' = p.take j := ⟨_, rfl⟩
          rw [← hp'] at hpy
          have hpl' : p'.length = j := by have := Hp.out; rw [hpy, List.length_append] at this; simp at this; omega
          have hRW := Hrw.out
          rw [hpy] at hRW
          have hk1 : (((p' ++ [y]) ++ x :: s ++ L.drop (i + 1)).map ptC)[q]? = some (ptC x) := by
            rw [List.getElem?_map, List.append_assoc, List.getElem?_append_right (by rw [List.length_append, hpl']; simp; omega), List.length_append, hpl', hj]; simp
          have hk2 : (((p' ++ [y]) ++ x :: s ++ L.drop (i + 1)).map ptC)[j]? = some (ptC y) := by
            rw [List.getElem?_map, List.append_assoc, List.append_assoc, List.getElem?_append_right (by omega), hpl']; simp
          have hlen : q < (((p' ++ [y]) ++ x :: s ++ L.drop (i + 1)).map ptC).length := (List.getElem?_eq_some_iff.1 hk1).1
          have Hk := Lib.hid (And.intro hk1 hk2)
          have HRW := Lib.hid hRW
          have Hpp := Lib.hid (And.intro hpy hpl')
          have Hlen := Lib.hid hlen
          have hqn : (q : Int) < (n : Int) := by omega
          have hjn : (j : Int) < (n : Int) := by omega
          have h0q : (0 : Int) < (q : Int) := by omega
          have hdt : decide ((0 : Int) < (q : Int)) = true := decide_eq_true h0q
          have hdt2 : decide (0 < q) = true := decide_eq_true (by omega)
          have hw0 : IntKind.i64.wrap ((q : Int) - 1) = (j : Int) := by have := Hj.out; rw [IntWalk.i64_in _ (by omega)]; omega
          have Hrx := Lib.hid (show ∀ w', Below wr.heap.size wr w' → w'.rangeAt g (q * 4) (ptC x) from fun w' hb' => (HRW.out.old hb' hgw).at_ (H4.out _) hk1)
          have Hry := Lib.hid (show ∀ w', Below wr.heap.size wr w' → w'.rangeAt g (j * 4) (ptC y) from fun w' hb' => (HRW.out.old hb' hgw).at_ (H4.out _) hk2)
          have Hahc := Lib.hid (fun w => Hha.out x y w)
          clear hj hy hpy hp' hpl' hRW hk1 hk2 hlen hq0
          go_wp2_with fail
          refine Ord.region_ (fun w' => Below wr.heap.size wr w') false [] (by kernel_rfl) (by kernel_rfl) (Below.refl _ _).drew ?_
          have hS : Below wr.heap.size wr wr.drew := (Below.refl _ _).drew
          generalize wr.drew = wd at *
          ((with_reducible refine Ord.e_p (v := ?_) ?_ ?_ ?_ ?_); rotate_left; (· exact rfl); (· kernel_rfl); (· intro w2; go_simp; try with_reducible rfl))
          (try simp only [Act.put, List.setIfInBounds_toArray, List.set_cons_zero, List.set_cons_succ])
          ((with_reducible refine Ord.e_p (v := ?_) ?_ ?_ ?_ ?_); rotate_left; (· exact rfl); (· kernel_rfl); (· intro w2; go_simp; try with_reducible rfl))
          (try simp only [Act.put, List.setIfInBounds_toArray, List.set_cons_zero, List.set_cons_succ])
          ((with_reducible refine Ord.e_p (v := ?_) ?_ ?_ ?_ ?_); rotate_left; (· exact rfl); (· kernel_rfl); (· intro w2; go_simp; try with_reducible rfl))
          (try simp only [Act.put, List.setIfInBounds_toArray, List.set_cons_zero, List.set_cons_succ])
          ((with_reducible refine Ord.e_p (v := ?_) ?_ ?_ ?_ ?_); rotate_left; (· exact rfl); (· kernel_rfl); (· intro w2; go_simp; try with_reducible rfl))
          (try simp only [Act.put, List.setIfInBounds_toArray, List.set_cons_zero, List.set_cons_succ])
          ((with_reducible refine Ord.e_p (v := ?_) ?_ ?_ ?_ ?_); rotate_left; (· exact rfl); (· kernel_rfl); (· intro w2; go_simp; try with_reducible rfl))
          (try simp only [Act.put, List.setIfInBounds_toArray, List.set_cons_zero, List.set_cons_succ])
          ((with_reducible refine Ord.e_p (v := ?_) ?_ ?_ ?_ ?_); rotate_left; (· exact rfl); (· kernel_rfl); (· intro w2; go_simp; try with_reducible rfl))
          (try simp only [Act.put, List.setIfInBounds_toArray, List.set_cons_zero, List.set_cons_succ])
          ((with_reducible refine Ord.e_p (v := ?_) ?_ ?_ ?_ ?_); rotate_left; (· exact rfl); (· kernel_rfl); (· intro w2; go_simp; try with_reducible rfl))
          (try simp only [Act.put, List.setIfInBounds_toArray, List.set_cons_zero, List.set_cons_succ])
          refine Ord.e_rowS (cs := ptC x) (b := g) (o := q * 4) Try.underlying28 rfl (by kernel_rfl) rfl (by simp [ptC]) (fun w' hS => (Hrx.out w' hS)) hS (by kernel_rfl) ?_
          (try simp only [Act.put, List.setIfInBounds_toArray, List.set_cons_zero, List.set_cons_succ])
          ((with_reducible refine Ord.e_p (v := ?_) ?_ ?_ ?_ ?_); rotate_left; (· exact rfl); (· kernel_rfl); (· intro w2; go_simp; try with_reducible rfl))
          (try simp only [Act.put, List.setIfInBounds_toArray, List.set_cons_zero, List.set_cons_succ])
          ((with_reducible refine Ord.e_p (v := ?_) ?_ ?_ ?_ ?_); rotate_left; (· exact rfl); (· kernel_rfl); (· intro w2; go_simp; try with_reducible rfl))
          (try simp only [Act.put, List.setIfInBounds_toArray, List.set_cons_zero, List.set_cons_succ])
          ((with_reducible refine Ord.e_p (v := ?_) ?_ ?_ ?_ ?_); rotate_left; (· exact rfl); (· kernel_rfl); (· intro w2; go_simp; try with_reducible rfl))
          (try simp only [Act.put, List.setIfInBounds_toArray, List.set_cons_zero, List.set_cons_succ])
          ((with_reducible refine Ord.e_p (v := ?_) ?_ ?_ ?_ ?_); rotate_left; (· exact rfl); (· kernel_rfl); (· intro w2; go_simp; try with_reducible rfl))
          (try simp only [Act.put, List.setIfInBounds_toArray, List.set_cons_zero, List.set_cons_succ])
          refine Ord.e_rowS (cs := ptC y) (b := g) (o := j * 4) Try.underlying28 rfl (by kernel_rfl) rfl (by simp [ptC]) (fun w' hS => (Hry.out w' hS)) hS (by kernel_rfl) ?_
          (try simp only [Act.put, List.setIfInBounds_toArray, List.set_cons_zero, List.set_cons_succ])
          refine Ord.e_x rfl (by kernel_rfl) ?_
          go_wp2_with fail
          go_fit (Hahc.out wd)
          rintro e we ⟨rfl, hbx⟩
          replace hS := bnx hS hbx
          go_wp2_with fail
          refine Ord.Seg.go hS (fun h => by cases h) ?_
          (try simp only [Act.put, List.setIfInBounds_toArray, List.set_cons_zero, List.set_cons_succ])
          clear hbx Hahc
          have hbf := bnx hb hS
          have hgw2 : g < we.heap.size := Nat.lt_of_lt_of_le hgw hS.size
          have HRW2 := Lib.hid (HRW.out.old hS hgw)
          have hrx := Hrx.out we hS
          have hry := Hry.out we hS
          by_cases hyx : PtT.sz y < PtT.sz x
          · rw [decide_eq_true hyx]
            ((with_reducible refine Ord.e_p (v := ?_) ?_ ?_ ?_ ?_); rotate_left; (· exact rfl); (· kernel_rfl); (· intro w2; go_simp; try with_reducible rfl))
            (try simp only [Act.put, List.setIfInBounds_toArray, List.set_cons_zero, List.set_cons_succ])
            refine Ord.e_nil ?_
            have hoy := all_oneCell_toArray (ptC_one y)
            have hox := all_oneCell_toArray (ptC_one x)
            have hrws := HRW2.out
            clear hS hgw hgw2 HRW2
            go_wp2_with fail
            refine Ord.region_ (fun _ => True) false [46, 50] (by kernel_rfl) (by kernel_rfl) trivial ?_
            replace hrx : we.drew.rangeAt g (q * 4) (ptC x) := hrx
            replace hry : we.drew.rangeAt g (j * 4) (ptC y) := hry
            replace hrws := hrws.drew
            replace hbf : Below w.heap.size w we.drew := hbf.drew
            generalize we.drew = wf at *
            have hset1 := hrws.set (H4.out _) (k := q) (r' := ptC y) (by exact Hlen.out) rfl
            have hl2 := h4set (H4.out (((p' ++ [y]) ++ x :: s ++ L.drop (i + 1)))) (k := q) (r' := ptC y) rfl
            have hset2 := hset1.set hl2 (k := j) (r' := ptC x) (by rw [List.length_set]; have := Hlen.out; have := Hj.out; omega) rfl
            have hsw : ((((p' ++ [y]) ++ x :: s ++ L.drop (i + 1)).map ptC).set q (ptC y)).set j (ptC x) = ((p' ++ x :: (y :: s) ++ L.drop (i + 1)).map ptC) := by
              rw [← List.map_set, ← List.map_set, swap_rows p' s (L.drop (i + 1)) x y q j Hj.out Hpp.out.2]
            rw [hsw] at hset2
            have Hset := Lib.hid hset2
            have Hs2 := Lib.hid (show stb PtT.sz (L.take i) = p' ++ (y :: s) ∧ ∀ z ∈ (y :: s), PtT.sz z < PtT.sz x from ⟨by rw [Hs.out.1, Hpp.out.1]; simp, fun z hz => by
              rcases List.mem_cons.1 hz with rfl | hz
              · exact hyx
              · exact Hs.out.2 z hz⟩)
            have hth1 := hrws.there (H4.out _) Hk.out.1 (n := 4) rfl
            have hth2 := hset1.there hl2 (k := j) (r := ptC y) (by rw [List.getElem?_set_ne (by have := Hj.out; omega)]; exact Hk.out.2) (n := 4) rfl
            have hbs1 := below_setCells (g := g) (by rw [← Hg.out]; exact Nat.le_refl _) (ptC y) (q * 4) wf hbf
            have hbs2 := below_setCells (g := g) (by rw [← Hg.out]; exact Nat.le_refl _) (ptC x) (j * 4) _ hbs1
            clear hset2 hsw hl2 hset1
            ((with_reducible refine Ord.e_p (v := ?_) ?_ ?_ ?_ ?_); rotate_left; (· exact rfl); (· kernel_rfl); (· intro w2; go_simp; try with_reducible rfl))
            (try simp only [Act.put, List.setIfInBounds_toArray, List.set_cons_zero, List.set_cons_succ])
            ((with_reducible refine Ord.e_p (v := ?_) ?_ ?_ ?_ ?_); rotate_left; (· exact rfl); (· kernel_rfl); (· intro w2; go_simp; try with_reducible rfl))
            (try simp only [Act.put, List.setIfInBounds_toArray, List.set_cons_zero, List.set_cons_succ])
            ((with_reducible refine Ord.e_p (v := ?_) ?_ ?_ ?_ ?_); rotate_left; (· exact rfl); (· kernel_rfl); (· intro w2; go_simp; try with_reducible rfl))
            (try simp only [Act.put, List.setIfInBounds_toArray, List.set_cons_zero, List.set_cons_succ])
            ((with_reducible refine Ord.e_p (v := ?_) ?_ ?_ ?_ ?_); rotate_left; (· exact rfl); (· kernel_rfl); (· intro w2; go_simp; try with_reducible rfl))
            (try simp only [Act.put, List.setIfInBounds_toArray, List.set_cons_zero, List.set_cons_succ])
            ((with_reducible refine Ord.e_p (v := ?_) ?_ ?_ ?_ ?_); rotate_left; (· exact rfl); (· kernel_rfl); (· intro w2; go_simp; try with_reducible rfl))
            (try simp only [Act.put, List.setIfInBounds_toArray, List.set_cons_zero, List.set_cons_succ])
            ((with_reducible refine Ord.e_p (v := ?_) ?_ ?_ ?_ ?_); rotate_left; (· exact rfl); (· kernel_rfl); (· intro w2; go_simp; try with_reducible rfl))
            (try simp only [Act.put, List.setIfInBounds_toArray, List.set_cons_zero, List.set_cons_succ])
            ((with_reducible refine Ord.e_p (v := ?_) ?_ ?_ ?_ ?_); rotate_left; (· exact rfl); (· kernel_rfl); (· intro w2; go_simp; try with_reducible rfl))
            (try simp only [Act.put, List.setIfInBounds_toArray, List.set_cons_zero, List.set_cons_succ])
            ((with_reducible refine Ord.e_p (v := ?_) ?_ ?_ ?_ ?_); rotate_left; (· exact rfl); (· kernel_rfl); (· intro w2; go_simp; try with_reducible rfl))
            (try simp only [Act.put, List.setIfInBounds_toArray, List.set_cons_zero, List.set_cons_succ])
            ((with_reducible refine Ord.e_p (v := ?_) ?_ ?_ ?_ ?_); rotate_left; (· exact rfl); (· kernel_rfl); (· intro w2; go_simp; try with_reducible rfl))
            (try simp only [Act.put, List.setIfInBounds_toArray, List.set_cons_zero, List.set_cons_succ])
            refine Ord.e_row (cs := ptC y) (b := g) (o := j * 4) Try.underlying28 rfl (by kernel_rfl) rfl hry (by kernel_rfl) (by kernel_rfl) ?_
            (try simp only [Act.put, List.setIfInBounds_toArray, List.set_cons_zero, List.set_cons_succ])
            ((with_reducible refine Ord.e_p (v := ?_) ?_ ?_ ?_ ?_); rotate_left; (· exact rfl); (· kernel_rfl); (· intro w2; go_simp; try with_reducible rfl))
            (try simp only [Act.put, List.setIfInBounds_toArray, List.set_cons_zero, List.set_cons_succ])
            ((with_reducible refine Ord.e_p (v := ?_) ?_ ?_ ?_ ?_); rotate_left; (· exact rfl); (· kernel_rfl); (· intro w2; go_simp; try with_reducible rfl))
            (try simp only [Act.put, List.setIfInBounds_toArray, List.set_cons_zero, List.set_cons_succ])
            ((with_reducible refine Ord.e_p (v := ?_) ?_ ?_ ?_ ?_); rotate_left; (· exact rfl); (· kernel_rfl); (· intro w2; go_simp; try with_reducible rfl))
            (try simp only [Act.put, List.setIfInBounds_toArray, List.set_cons_zero, List.set_cons_succ])
            refine Ord.e_row (cs := ptC x) (b := g) (o := q * 4) Try.underlying28 rfl (by kernel_rfl) rfl hrx (by kernel_rfl) (by kernel_rfl) ?_
            (try simp only [Act.put, List.setIfInBounds_toArray, List.set_cons_zero, List.set_cons_succ])
            ((with_reducible refine Ord.e_p (v := ?_) ?_ ?_ ?_ ?_); rotate_left; (· exact rfl); (· kernel_rfl); (· intro w2; go_simp; try with_reducible rfl))
            (try simp only [Act.put, List.setIfInBounds_toArray, List.set_cons_zero, List.set_cons_succ])
            refine Ord.e_x rfl (by kernel_rfl) ?_
            refine wpList_store_mid rfl _ _ _ rfl g (q * 4) (ptC y).toArray rfl rfl hth1 (by kernel_rfl) hoy ?_
            go_wp2_with fail
            refine Ord.Seg.go trivial (fun h => by cases h) ?_
            (try simp only [Act.put, List.setIfInBounds_toArray, List.set_cons_zero, List.set_cons_succ])
            ((with_reducible refine Ord.e_p (v := ?_) ?_ ?_ ?_ ?_); rotate_left; (· exact rfl); (· kernel_rfl); (· intro w2; go_simp; try with_reducible rfl))
            (try simp only [Act.put, List.setIfInBounds_toArray, List.set_cons_zero, List.set_cons_succ])
            refine Ord.e_x rfl (by kernel_rfl) ?_
            refine wpList_store_mid rfl _ _ _ rfl g (j * 4) (ptC x).toArray rfl rfl hth2 (by kernel_rfl) hox ?_
            go_wp2_with fail
            refine Ord.Seg.go trivial (fun h => by cases h) ?_
            (try simp only [Act.put, List.setIfInBounds_toArray, List.set_cons_zero, List.set_cons_succ])
            refine Ord.e_nil ?_
            clear hrx hry hrws hth1 hth2 hbf hbs1
            go_wp2
            go_roundw
            case rel => exact ⟨j, p', y :: s, by have := Hj.out; omega, by go_num, Lib.hid Hpp.out.2, Hs2, Hset, hbs2⟩
            case measure => simp [intOf]; have := Hj.out; omega
          · rw [decide_eq_false hyx]
            ((with_reducible refine Ord.e_p (v := ?_) ?_ ?_ ?_ ?_); rotate_left; (· exact rfl); (· kernel_rfl); (· intro w2; go_simp; try with_reducible rfl))
            (try simp only [Act.put, List.setIfInBounds_toArray, List.set_cons_zero, List.set_cons_succ])
            refine Ord.e_nil ?_
            have hst := stb_at PtT.sz Hs.out.1 Hs.out.2 (.inr ⟨p', y, Hpp.out.1, hyx⟩)
            have Hst := Lib.hid (show RW we g 28 ((stb PtT.sz (L.take (i + 1)) ++ L.drop (i + 1)).map ptC) by rw [Htx.out, hst, Hpp.out.1]; exact HRW2.out)
            clear hst hrx hry hS
            go_wp2
            go_roundw
            case rel => exact ⟨i + 1, by omega, by go_num, Hst, hbf⟩
            case measure => simp [intOf]; omega
    · obtain rfl : i = n := by omega
      have hfin := hrw.out
      rw [List.take_of_length_le (by rw [Hll.out]; exact Nat.le_refl _), List.drop_eq_nil_of_le (by rw [Hll.out]; exact Nat.le_refl _), List.append_nil] at hfin
      have hrd := hfin.rd (n := i) (H4.out _) (by rw [List.length_map, Hsl.out]; exact Hll.out) (by unfold maxLen; omega)
      clear hfin
      go_wp2
      go_ret
      exact ⟨some ⟨g, 0, none⟩, i, rfl, hrd, hb⟩
theorem wire31_any (A : Option Addr) (n c : Nat) (L : List PtT) (w : World) (h : RdP w w.heap.size A n c L) (hn : n ≤ 1000) :
    Calls Try.prog 12 #[.slice A n c] w fun e w' => ∃ (A' : Option Addr) (c' : Nat), e = .returned (.slice A' n c') ∧ RdP w' w'.heap.size A' n c' (stb PtT.sz L) ∧ Below w.heap.size w w' := by
  go_enter Try.func12, Try.ntmps12
  go_wp2_with fail
  go_fit (stableP_any A n c L w h hn)
  rintro e w1 ⟨A1, c1, rfl, hr, hb⟩
  go_wp2
  go_ret
  exact ⟨A1, c1, rfl, hr, hb⟩

end Go.Proofs.Ytonejdjhdjckjaa

/-
  Same, sized, numbers, Width's step walked (printed by gen_sch6.py).
-/
set_option linter.unusedSimpArgs false
set_option linter.unusedVariables false
namespace Go.Proofs.Ytonejdjhdjckjaa
open Go.RowKit NumLaw
attribute [local go_sem] Addr.add_mid
attribute [-go_sem] run_eql_struct run_neq_struct

theorem takeP_ne {α : Type} {L L' : List α} {k : Nat} {x y : α} (hx : L[k]? = some x) (hy : L'[k]? = some y) (h : ¬ x = y) : ¬ L = L' := fun e => h (by rw [e, hy] at hx; injection hx with hx; exact hx.symm)
set_option maxRecDepth 10000 in
set_option maxHeartbeats 4000000 in
theorem qsame31_any (A : Option Addr) (n c : Nat) (A' : Option Addr) (n' c' : Nat) (L L' : List PtT) (w : World) (h : RdP w w.heap.size A n c L) (h' : RdP w w.heap.size A' n' c' L') :
    Calls Try.prog 13 #[.slice A n c, .slice A' n' c'] w fun e w' => e = .returned (.bool (decide (L = L'))) ∧ Below w.heap.size w w' := by
  have hl := h.len
  have hl' := h'.len
  have hmx := h.2.2.2.1
  have hle := h.2.2.1
  have hmx' := h'.2.2.2.1
  have hle' := h'.2.2.1
  unfold maxLen at hmx hmx'
  have Hl := Lib.hid hl
  have Hl' := Lib.hid hl'
  clear hl hl'
  by_cases hn : n = n'
  case neg =>
    have hd : decide (L = L') = false := decide_eq_false (fun e => hn (by rw [← Hl.out, ← Hl'.out, e]))
    have Hd := Lib.hid hd
    have hn' : ¬ (n : Int) = (n' : Int) := by omega
    have hnq : ((n : Int) != (n' : Int)) = true := by simp; omega
    clear hd
    go_enter Try.func13, Try.ntmps13
    go_wp2
    go_ret
    exact ⟨by rw [Hd.out]; rfl, Below.refl _ _⟩
  subst hn
  have hnn : ((n : Int) != (n : Int)) = false := by simp
  have qg := pt_guard
  go_enter Try.func13, Try.ntmps13
  go_wp2_with fail
  go_loopw [5] (fun i wr => ∃ k : Nat, k ≤ n ∧ i = .int .i64 k ∧ Below w.heap.size w wr ∧ Hid (L.take k = L'.take k)) (fun i _ => n - (intOf i).toNat)
  case atStart => exact ⟨0, by omega, rfl, Below.refl _ _, Lib.hid rfl⟩
  case round =>
    obtain ⟨k, hk, rfl, hb, ht⟩ := hrel
    by_cases hlt : k < n
    · have hlt' : (k : Int) < (n : Int) := by omega
      obtain ⟨g, off, x, rfl, hg, hx, hr⟩ := RdP.at_ h hlt
      obtain ⟨g', off', y, rfl, hg', hy, hr'⟩ := RdP.at_ h' hlt
      have Hr := Lib.hid (show ∀ wq, Below w.heap.size w wq → wq.rangeAt g (off + k * 4) (ptC x) from fun wq hbq j v hv => (hbq.cell (p := ⟨g, off + k * 4 + j, none⟩) hg).trans (hr j v hv))
      have Hr' := Lib.hid (show ∀ wq, Below w.heap.size w wq → wq.rangeAt g' (off' + k * 4) (ptC y) from fun wq hbq j v hv => (hbq.cell (p := ⟨g', off' + k * 4 + j, none⟩) hg').trans (hr' j v hv))
      have hq := fun w => pt_neq x y w
      have Hne := Lib.hid (takeP_ne hx hy)
      have Htx := Lib.hid (take_succ hx)
      have Hty := Lib.hid (take_succ hy)
      clear hx hy hr hr'
      go_wp2_with fail
      refine Ord.region_ (fun w' => Below w.heap.size w w') false [] (by kernel_rfl) (by kernel_rfl) hb.drew ?_
      replace hb := hb.drew
      generalize wr.drew = wd at *
      ((with_reducible refine Ord.e_p (v := ?_) ?_ ?_ ?_ ?_); rotate_left; (· exact rfl); (· kernel_rfl); (· intro w2; go_simp; try with_reducible rfl))
      (try simp only [Act.put, List.setIfInBounds_toArray, List.set_cons_zero, List.set_cons_succ])
      ((with_reducible refine Ord.e_p (v := ?_) ?_ ?_ ?_ ?_); rotate_left; (· exact rfl); (· kernel_rfl); (· intro w2; go_simp; try with_reducible rfl))
      (try simp only [Act.put, List.setIfInBounds_toArray, List.set_cons_zero, List.set_cons_succ])
      ((with_reducible refine Ord.e_p (v := ?_) ?_ ?_ ?_ ?_); rotate_left; (· exact rfl); (· kernel_rfl); (· intro w2; go_simp; try with_reducible rfl))
      (try simp only [Act.put, List.setIfInBounds_toArray, List.set_cons_zero, List.set_cons_succ])
      refine Ord.e_rowS (cs := ptC x) (b := g) (o := off + k * 4) Try.underlying28 rfl (by kernel_rfl) rfl (by simp [ptC]) (fun w' hS => Hr.out w' hS) hb (by kernel_rfl) ?_
      (try simp only [Act.put, List.setIfInBounds_toArray, List.set_cons_zero, List.set_cons_succ])
      ((with_reducible refine Ord.e_p (v := ?_) ?_ ?_ ?_ ?_); rotate_left; (· exact rfl); (· kernel_rfl); (· intro w2; go_simp; try with_reducible rfl))
      (try simp only [Act.put, List.setIfInBounds_toArray, List.set_cons_zero, List.set_cons_succ])
      ((with_reducible refine Ord.e_p (v := ?_) ?_ ?_ ?_ ?_); rotate_left; (· exact rfl); (· kernel_rfl); (· intro w2; go_simp; try with_reducible rfl))
      (try simp only [Act.put, List.setIfInBounds_toArray, List.set_cons_zero, List.set_cons_succ])
      ((with_reducible refine Ord.e_p (v := ?_) ?_ ?_ ?_ ?_); rotate_left; (· exact rfl); (· kernel_rfl); (· intro w2; go_simp; try with_reducible rfl))
      (try simp only [Act.put, List.setIfInBounds_toArray, List.set_cons_zero, List.set_cons_succ])
      refine Ord.e_rowS (cs := ptC y) (b := g') (o := off' + k * 4) Try.underlying28 rfl (by kernel_rfl) rfl (by simp [ptC]) (fun w' hS => Hr'.out w' hS) hb (by kernel_rfl) ?_
      (try simp only [Act.put, List.setIfInBounds_toArray, List.set_cons_zero, List.set_cons_succ])
      ((with_reducible refine Ord.e_p (v := ?_) ?_ ?_ ?_ ?_); rotate_left; (· exact rfl); (· kernel_rfl); (· intro w2; go_simp; try with_reducible rfl))
      (try simp only [Act.put, List.setIfInBounds_toArray, List.set_cons_zero, List.set_cons_succ])
      refine Ord.e_nil ?_
      by_cases hxy : x = y
      · subst hxy
        rw [show (!decide (x = x)) = false by simp]
        have Ht2 : Hid (L.take (k + 1) = L'.take (k + 1)) := Lib.hid (by rw [Htx.out, Hty.out, ht.out])
        clear hq
        go_wp2
        go_roundw
        case rel => exact ⟨k + 1, by omega, by go_num, hb, Ht2⟩
        case measure => simp [intOf]; omega
      · have hd : decide (L = L') = false := decide_eq_false (Hne.out hxy)
        have Hd := Lib.hid hd
        rw [show (!decide (x = y)) = true by simp [hxy]]
        clear hd hq hxy
        go_wp2
        go_ret
        exact ⟨by rw [Hd.out]; rfl, hb⟩
    · obtain rfl : k = n := by omega
      have hd : decide (L = L') = true := decide_eq_true (by
        have := ht.out
        rwa [List.take_of_length_le (by rw [Hl.out]; exact Nat.le_refl _), List.take_of_length_le (by rw [Hl'.out]; exact Nat.le_refl _)] at this)
      have Hd := Lib.hid hd
      clear hd
      go_wp2
      go_ret
      exact ⟨by rw [Hd.out]; rfl, hb⟩
set_option maxRecDepth 10000 in
set_option maxHeartbeats 4000000 in
theorem sized_any (A : Option Addr) (n c : Nat) (L : List PtT) (z : Int) (w : World) (h : RdP w w.heap.size A n c L) (hn : n ≤ 1000) :
    Calls Try.prog 14 #[.slice A n c, .int .i64 z] w (RetPt (byS PtT.sz z L) w) := by
  have hll := h.len
  have hmx := h.2.2.2.1
  have hle := h.2.2.1
  unfold maxLen at hmx
  obtain ⟨i1, hi1⟩ := info_parts pt_info
  have Hi1 := Lib.hid hi1
  have Hll := Lib.hid hll
  have Hsn := Lib.hid (fun l (x : PtT) => byS_snoc PtT.sz z l x)
  clear hll hi1
  go_enter Try.func14, Try.ntmps14
  go_wp2_with fail
  go_loopw [5, 6] (fun o i wr => ∃ (k n3 c3 : Nat) (A3 : Option Addr), k ≤ n ∧ n3 ≤ k ∧ i = .int .i64 k ∧ o = .slice A3 n3 c3 ∧ Below w.heap.size w wr ∧ wr.ownsRow w.heap.size 28 4 (.slice A3 n3 c3) n3 ((byS PtT.sz z (L.take k)).map ptC).flatten ∧ Hid ((byS PtT.sz z (L.take k)).length = n3)) (fun _ i _ => n - (intOf i).toNat)
  case atStart => exact ⟨0, 0, 0, none, by omega, by omega, rfl, rfl, Below.refl _ _, World.ownsRow_nil _ _ _ _, Lib.hid rfl⟩
  case round =>
    obtain ⟨k, n3, c3, A3, hk, hn3, rfl, rfl, hb, own3, Hl3⟩ := hrel
    by_cases hlt : k < n
    · have hlt' : (k : Int) < (n : Int) := by omega
      obtain ⟨g, off, x, rfl, hg, hx, hr⟩ := RdP.at_ h hlt
      have k0 := (hb.cell (p := ⟨g, off + k * 4 + 0, none⟩) hg).trans (hr 0 _ rfl)
      have k1 := (hb.cell (p := ⟨g, off + k * 4 + 1, none⟩) hg).trans (hr 1 _ rfl)
      have k2 := (hb.cell (p := ⟨g, off + k * 4 + 2, none⟩) hg).trans (hr 2 _ rfl)
      have k3 := (hb.cell (p := ⟨g, off + k * 4 + 3, none⟩) hg).trans (hr 3 _ rfl)
      rw [Nat.add_zero] at k0
      have Hts := Lib.hid (take_succ hx)
      obtain ⟨s, z1, g1, m1⟩ := x
      dsimp only at k0 k1 k2 k3
      clear hx hr
      by_cases hz : z1 = z
      · subst hz
        have hbn : Below wr.heap.size wr (wr.alloc (.cells #[.string s, .int .i64 z1, .bool g1, .int .i64 m1] 28)) := (Below.refl _ _).alloc (Nat.le_refl _) _
        have hrd : Rd _ _ 4 _ 1 1 (ptC ⟨s, z1, g1, m1⟩) := RdR.rd (RdR.lit (size := 4) (e := 28) wr [ptC ⟨s, z1, g1, m1⟩] #[.string s, .int .i64 z1, .bool g1, .int .i64 m1] rfl (by intro r hr; rw [List.mem_singleton.1 hr]; rfl) (by simp [maxLen]) 1 rfl) (by omega)
        have hb4 := bnx hb hbn
        have own4 := own_up own3 hbn (Nat.le_refl _)
        have Hfl := Lib.hid (show ((byS PtT.sz z1 (L.take k)).map ptC).flatten ++ ptC ⟨s, z1, g1, m1⟩ = ((byS PtT.sz z1 (L.take (k + 1))).map ptC).flatten by rw [Hts.out, Hsn.out, if_pos rfl]; exact pt_flat _ _)
        have Hl4 := Lib.hid (show (byS PtT.sz z1 (L.take (k + 1))).length = n3 + 1 by rw [Hts.out, Hsn.out, if_pos rfl, List.length_append, Hl3.out]; rfl)
        clear hb own3 hbn
        go_wp2_with (at_builtin; refine stop_ ?_)
        generalize (wr.alloc (.cells #[.string s, .int .i64 z1, .bool g1, .int .i64 m1] 28)) = w4 at *
        refine go_ (wpList_appG (base := w.heap.size) (n := n3) Try.underlying22 Hi1.out rfl (by omega) own4 rfl hrd rfl (ptC_one _) (k := n3 + 1) rfl Hfl.out (by unfold maxLen; omega) (by omega) hb4.size ?_)
        clear k0 k1 k2 k3
        intro A5 c5 w5 own5 hgr hob
        have hb5 := Below.grown hb4 hgr hb4.size (fun j hj => (own_blk own4 hj).1)
        clear hgr hob own4 hrd hb4
        go_wp2
        go_roundw
        case rel => exact ⟨k + 1, n3 + 1, c5, A5, by omega, by omega, by go_num, rfl, hb5, own5, Hl4⟩
        case measure => simp [intOf]; omega
      · have hzq : (z1 == z) = false := by rw [beq_eq_false_iff_ne]; exact hz
        have He := Lib.hid (show byS PtT.sz z (L.take (k + 1)) = byS PtT.sz z (L.take k) by rw [Hts.out, Hsn.out, if_neg hz])
        rw [← He.out] at own3
        have Hl4 := Lib.hid (show (byS PtT.sz z (L.take (k + 1))).length = n3 by rw [He.out]; exact Hl3.out)
        go_wp2
        go_roundw
        case rel => exact ⟨k + 1, n3, c3, A3, by omega, by omega, by go_num, rfl, hb, own3, Hl4⟩
        case measure => simp [intOf]; omega
    · obtain rfl : k = n := by omega
      have htk : L.take k = L := List.take_of_length_le (by rw [Hll.out]; exact Nat.le_refl _)
      rw [htk] at own3 Hl3
      have hrp := RdP.own own3 Hl3.out
      clear own3 htk
      go_wp2
      go_ret
      exact ⟨A3, n3, c3, rfl, hrp, hb⟩
theorem mx1_int (m : Int) : (if 1 > m then (1 : Int) else m) = (mx1 m : Int) := by
  unfold mx1
  by_cases h : m < 1
  · rw [if_pos h, if_pos (show 1 > m from h)]; rfl
  · rw [if_neg h, if_neg (show ¬ 1 > m from h)]; omega
theorem numbers_any (p : PtT) (w : World) : Calls Try.prog 50 #[.agg (ptC p).toArray] w fun e w' => e = .returned (.int .i64 (mx1 p.mn : Int)) ∧ Below w.heap.size w w' := by
  obtain ⟨s, z, g, m⟩ := p
  have hb := (Below.refl w.heap.size w).alloc (Nat.le_refl _) (.cells #[.string s, .int .i64 z, .bool g, .int .i64 m] 28)
  have a0 := heap_alloc_new w (.cells #[.string s, .int .i64 z, .bool g, .int .i64 m] 28)
  have k0 := blk_cell (i := 3) (v := .int .i64 m) a0 rfl
  have hm := mx1_int m
  show Calls _ _ #[.agg #[.string s, .int .i64 z, .bool g, .int .i64 m]] _ _
  have Hm := Lib.hid hm
  clear hm
  by_cases hc : m < 1
  · have hv : (mx1 m : Int) = 1 := by rw [← Hm.out, if_pos (show 1 > m from hc)]
    have Hv := Lib.hid hv
    clear hv
    go_enter Try.func50, Try.ntmps50
    go_wp2
    go_ret
    exact ⟨by show _ = Ending.returned (.int .i64 (mx1 m : Int)); rw [Hv.out]; rfl, hb⟩
  · have hv : (mx1 m : Int) = m := by rw [← Hm.out, if_neg (show ¬ 1 > m from hc)]
    have Hv := Lib.hid hv
    clear hv
    go_enter Try.func50, Try.ntmps50
    go_wp2
    go_ret
    exact ⟨by show _ = Ending.returned (.int .i64 (mx1 m : Int)); rw [Hv.out]; rfl, hb⟩
set_option maxRecDepth 10000 in
theorem width1_any (p : PtT) (hq : szQ p.sz) (hm : mx1 p.mn ≤ 1000) (w : World) : Calls Try.prog 52 #[.agg (ptC p).toArray] w fun e w' => e = .returned (.int .i64 ((p.sz.toNat * mx1 p.mn : Nat) : Int)) ∧ Below w.heap.size w w' := by
  have hnum := fun w => numbers_any p w
  obtain ⟨s, z, g, m⟩ := p
  have hq : szQ z := hq
  have hm : mx1 m ≤ 1000 := hm
  obtain ⟨zn, hzn⟩ : ∃ zn : Nat, z = zn := ⟨z.toNat, by rcases hq with rfl | rfl | rfl | rfl <;> rfl⟩
  have hz8 : zn ≤ 8 := by rcases hq with h | h | h | h <;> omega
  subst hzn
  obtain ⟨mm, hmm⟩ : ∃ v, v = mx1 m := ⟨_, rfl⟩
  have hnum2 : ∀ w, Calls Try.prog 50 #[.agg (ptC ⟨s, (zn : Int), g, m⟩).toArray] w fun e w' => e = .returned (.int .i64 (mm : Int)) ∧ Below w.heap.size w w' := fun w => by rw [hmm]; exact hnum w
  show Calls _ _ #[.agg #[.string s, .int .i64 (zn : Int), .bool g, .int .i64 m]] _ (fun e w' => e = .returned (.int .i64 ((zn * mx1 m : Nat) : Int)) ∧ Below w.heap.size w w')
  rw [← hmm] at hm ⊢
  have hmul : zn * mm ≤ 8000 := Nat.le_trans (Nat.mul_le_mul hz8 hm) (by omega)
  have Hnum := Lib.hid hnum2
  have hb := (Below.refl w.heap.size w).alloc (Nat.le_refl _) (.cells #[.string s, .int .i64 (zn : Int), .bool g, .int .i64 m] 28)
  have a0 := heap_alloc_new w (.cells #[.string s, .int .i64 (zn : Int), .bool g, .int .i64 m] 28)
  have hww : IntKind.i64.wrap ((zn : Int) * (mm : Int)) = ((zn * mm : Nat) : Int) := by
    rw [← Int.natCast_mul]
    generalize zn * mm = d at *
    exact IntWalk.i64_in _ (by omega)
  have Hww := Lib.hid hww
  clear hnum hnum2 hmm hq hmul hww
  go_enter Try.func52, Try.ntmps52
  go_wp2_with fail
  generalize (w.alloc (.cells #[.string s, .int .i64 (zn : Int), .bool g, .int .i64 m] 28)) = w1 at *
  have hlt := blk_lt a0
  refine Ord.region_ (fun w' => Below w1.heap.size w1 w') false [] (by kernel_rfl) (by kernel_rfl) (Below.refl _ _).drew ?_
  have hS : Below w1.heap.size w1 w1.drew := (Below.refl _ _).drew
  generalize w1.drew = wd at *
  have hrow : w1.rangeAt w.heap.size 0 (ptC ⟨s, (zn : Int), g, m⟩) := fun j v hv => blk_cell (i := 0 + j) a0 (by rw [Nat.zero_add]; simpa [ptC] using hv)
  have hat : ∀ w', Below w1.heap.size w1 w' → w'.rangeAt w.heap.size 0 (ptC ⟨s, (zn : Int), g, m⟩) := fun w' hb' j v hv => (hb'.cell (p := ⟨w.heap.size, 0 + j, none⟩) hlt).trans (hrow j v hv)
  have hat1 : ∀ w', Below w1.heap.size w1 w' → w'.cell? ⟨w.heap.size, 1, none⟩ = some (.int .i64 (zn : Int)) := fun w' hb' => hat w' hb' 1 _ rfl
  ((with_reducible refine Ord.e_p (v := ?_) ?_ ?_ ?_ ?_); rotate_left; (· exact rfl); (· kernel_rfl); (· intro w2; go_simp; try with_reducible rfl))
  (try simp only [Act.put, List.setIfInBounds_toArray, List.set_cons_zero, List.set_cons_succ])
  refine Ord.e_loadS (ad := ⟨w.heap.size, 1, none⟩) (v := .int .i64 (zn : Int)) Try.underlying3 rfl (fun w' hS => hat1 w' hS) hS rfl (by kernel_rfl) ?_
  (try simp only [Act.put, List.setIfInBounds_toArray, List.set_cons_zero, List.set_cons_succ])
  refine Ord.e_rowS (cs := ptC ⟨s, (zn : Int), g, m⟩) (b := w.heap.size) (o := 0) Try.underlying28 rfl (by kernel_rfl) rfl (by simp [ptC]) (fun w' hS => hat w' hS) hS (by kernel_rfl) ?_
  (try simp only [Act.put, List.setIfInBounds_toArray, List.set_cons_zero, List.set_cons_succ])
  refine Ord.e_x rfl (by kernel_rfl) ?_
  go_wp2_with fail
  go_fit (Hnum.out wd)
  rintro e w2 ⟨rfl, hbx⟩
  replace hS := bnx hS hbx
  go_wp2_with fail
  refine Ord.Seg.go hS (fun h => by cases h) ?_
  (try simp only [Act.put, List.setIfInBounds_toArray, List.set_cons_zero, List.set_cons_succ])
  have hww := Hww.out
  refine Ord.e_p (v := .int .i64 ((zn * mm : Nat) : Int)) rfl (by kernel_rfl) (fun w2 => by go_simp) ?_
  (try simp only [Act.put, List.setIfInBounds_toArray, List.set_cons_zero, List.set_cons_succ])
  clear hww
  ((with_reducible refine Ord.e_p (v := ?_) ?_ ?_ ?_ ?_); rotate_left; (· exact rfl); (· kernel_rfl); (· intro w2; go_simp; try with_reducible rfl))
  (try simp only [Act.put, List.setIfInBounds_toArray, List.set_cons_zero, List.set_cons_succ])
  refine Ord.e_nil ?_
  have hbf := bnx hb hS
  go_wp2
  go_ret
  exact ⟨rfl, hbf⟩

end Go.Proofs.Ytonejdjhdjckjaa

/-
  Ids, Count, Width walked (printed by gen_sch6.py).
-/
set_option linter.unusedSimpArgs false
set_option linter.unusedVariables false
namespace Go.Proofs.Ytonejdjhdjckjaa
open Go.RowKit NumLaw
attribute [local go_sem] Addr.add_mid
attribute [-go_sem] run_eql_struct run_neq_struct

/-- Parts of messages: sizes that a field may have, not too many numbers. -/
def PtN (L : List PtT) : Prop := (∀ p ∈ L, szQ p.sz) ∧ L.length ≤ 100 ∧ ∀ p ∈ L, mx1 p.mn ≤ 100
theorem sum_le (f : PtT → Nat) (b : Nat) : ∀ L : List PtT, (∀ p ∈ L, f p ≤ b) → (L.map f).foldl (· + ·) 0 ≤ b * L.length
  | [], _ => Nat.zero_le _
  | p :: L, h => by
    have ih := sum_le f b L (fun q hq => h q (List.mem_cons_of_mem _ hq))
    have hp := h p List.mem_cons_self
    rw [List.map_cons, List.foldl_cons, foldl_add0, List.length_cons, Nat.mul_succ]
    omega
theorem szQ_le {z : Int} (h : szQ z) : z.toNat ≤ 8 := by rcases h with rfl | rfl | rfl | rfl <;> decide
theorem wd_bd (L : List PtT) (h : PtN L) (k : Nat) : wdS (L.take k) ≤ 8000 * 100 := by
  have := sum_le (fun p => p.sz.toNat * mx1 p.mn) 8000 (L.take k) (fun p hp => by
    have hp := List.mem_of_mem_take hp
    exact Nat.le_trans (Nat.mul_le_mul (szQ_le (h.1 p hp)) (h.2.2 p hp)) (by omega))
  unfold wdS
  have hl : (L.take k).length ≤ 100 := by rw [List.length_take]; have := h.2.1; omega
  have := Nat.mul_le_mul_left 8000 hl
  omega
theorem cnt_bd (L : List PtT) (h : PtN L) (k : Nat) : cntS (L.take k) ≤ 8000 * 100 := by
  have := sum_le (fun p => mx1 p.mn) 100 (L.take k) (fun p hp => h.2.2 p (List.mem_of_mem_take hp))
  unfold cntS
  have hl : (L.take k).length ≤ 100 := by rw [List.length_take]; have := h.2.1; omega
  have := Nat.mul_le_mul_left 100 hl
  omega
theorem frm_n (id : Int) : PtN (frm id).2 := by
  have hN : ∀ L : List PtT, (L.all fun p => (p.sz == 8 || p.sz == 4 || p.sz == 2 || p.sz == 1) && decide (mx1 p.mn ≤ 100)) = true → L.length ≤ 100 → PtN L := fun L h hl => by
    rw [List.all_eq_true] at h
    refine ⟨fun p hp => ?_, hl, fun p hp => ?_⟩
    · have := h p hp
      simp only [Bool.and_eq_true, Bool.or_eq_true, beq_iff_eq] at this
      rcases this.1 with ((h | h) | h) | h
      · exact .inl h
      · exact .inr (.inl h)
      · exact .inr (.inr (.inl h))
      · exact .inr (.inr (.inr h))
    · have := h p hp
      simp only [Bool.and_eq_true, decide_eq_true_eq] at this
      exact this.2
  rcases frm_at id with ⟨_, hf⟩ | ⟨_, hf⟩ | ⟨_, hf⟩ | ⟨_, hf⟩ | ⟨_, hf⟩ | ⟨_, hf⟩ | ⟨_, hf⟩ | ⟨_, hf⟩ | ⟨_, hf⟩ | ⟨_, hf⟩ | ⟨_, hf⟩ | ⟨_, hf⟩ | ⟨_, hf⟩ | ⟨_, hf⟩ | ⟨_, hf⟩ | ⟨_, hf⟩ | ⟨_, hf⟩ | ⟨_, hf⟩ | ⟨_, hf⟩ | ⟨_, hf⟩ | ⟨_, hf⟩ | ⟨_, hf⟩ | ⟨hf, _⟩
  all_goals
    rw [hf]
    exact hN _ (by decide) (by decide)
def isId (k : Nat) : Bool := [0, 1, 2, 4, 24, 25, 26, 27, 28, 33, 35, 36, 42, 44, 47, 66, 77, 111, 125, 200, 201, 202].contains k
def idsTo (k : Nat) : List Nat := (List.range k).filter isId
def idsN : List Nat := [0, 1, 2, 4, 24, 25, 26, 27, 28, 33, 35, 36, 42, 44, 47, 66, 77, 111, 125, 200, 201, 202]
theorem idsTo_all : idsTo 256 = idsN := by decide +kernel
theorem isId_frm (k : Nat) : (frm (k : Int)).1.toList.isEmpty = !isId k := by
  have hne : ∀ (m : Nat) (p : FmT), k = m → isId m = true → ¬ p.1 = ⟨#[]⟩ → frm (k : Int) = p → (frm (k : Int)).1.toList.isEmpty = !isId k := fun m p hk hi hp hf => by
    rw [hf, ba_full hp, hk, hi]; rfl
  rcases frm_at (k : Int) with ⟨h, hf⟩ | ⟨h, hf⟩ | ⟨h, hf⟩ | ⟨h, hf⟩ | ⟨h, hf⟩ | ⟨h, hf⟩ | ⟨h, hf⟩ | ⟨h, hf⟩ | ⟨h, hf⟩ | ⟨h, hf⟩ | ⟨h, hf⟩ | ⟨h, hf⟩ | ⟨h, hf⟩ | ⟨h, hf⟩ | ⟨h, hf⟩ | ⟨h, hf⟩ | ⟨h, hf⟩ | ⟨h, hf⟩ | ⟨h, hf⟩ | ⟨h, hf⟩ | ⟨h, hf⟩ | ⟨h, hf⟩ | ⟨hf, h0, h1, h2, h4, h24, h25, h26, h27, h28, h33, h35, h36, h42, h44, h47, h66, h77, h111, h125, h200, h201, h202⟩
  · exact hne 0 fm0 (by omega) (by decide) (by intro h2; exact absurd (congrArg (fun b : ByteArray => b.data.size) h2) (by decide)) hf
  · exact hne 1 fm1 (by omega) (by decide) (by intro h2; exact absurd (congrArg (fun b : ByteArray => b.data.size) h2) (by decide)) hf
  · exact hne 2 fm2 (by omega) (by decide) (by intro h2; exact absurd (congrArg (fun b : ByteArray => b.data.size) h2) (by decide)) hf
  · exact hne 4 fm4 (by omega) (by decide) (by intro h2; exact absurd (congrArg (fun b : ByteArray => b.data.size) h2) (by decide)) hf
  · exact hne 24 fm24 (by omega) (by decide) (by intro h2; exact absurd (congrArg (fun b : ByteArray => b.data.size) h2) (by decide)) hf
  · exact hne 25 fm25 (by omega) (by decide) (by intro h2; exact absurd (congrArg (fun b : ByteArray => b.data.size) h2) (by decide)) hf
  · exact hne 26 fm26 (by omega) (by decide) (by intro h2; exact absurd (congrArg (fun b : ByteArray => b.data.size) h2) (by decide)) hf
  · exact hne 27 fm27 (by omega) (by decide) (by intro h2; exact absurd (congrArg (fun b : ByteArray => b.data.size) h2) (by decide)) hf
  · exact hne 28 fm28 (by omega) (by decide) (by intro h2; exact absurd (congrArg (fun b : ByteArray => b.data.size) h2) (by decide)) hf
  · exact hne 33 fm33 (by omega) (by decide) (by intro h2; exact absurd (congrArg (fun b : ByteArray => b.data.size) h2) (by decide)) hf
  · exact hne 35 fm35 (by omega) (by decide) (by intro h2; exact absurd (congrArg (fun b : ByteArray => b.data.size) h2) (by decide)) hf
  · exact hne 36 fm36 (by omega) (by decide) (by intro h2; exact absurd (congrArg (fun b : ByteArray => b.data.size) h2) (by decide)) hf
  · exact hne 42 fm42 (by omega) (by decide) (by intro h2; exact absurd (congrArg (fun b : ByteArray => b.data.size) h2) (by decide)) hf
  · exact hne 44 fm44 (by omega) (by decide) (by intro h2; exact absurd (congrArg (fun b : ByteArray => b.data.size) h2) (by decide)) hf
  · exact hne 47 fm47 (by omega) (by decide) (by intro h2; exact absurd (congrArg (fun b : ByteArray => b.data.size) h2) (by decide)) hf
  · exact hne 66 fm66 (by omega) (by decide) (by intro h2; exact absurd (congrArg (fun b : ByteArray => b.data.size) h2) (by decide)) hf
  · exact hne 77 fm77 (by omega) (by decide) (by intro h2; exact absurd (congrArg (fun b : ByteArray => b.data.size) h2) (by decide)) hf
  · exact hne 111 fm111 (by omega) (by decide) (by intro h2; exact absurd (congrArg (fun b : ByteArray => b.data.size) h2) (by decide)) hf
  · exact hne 125 fm125 (by omega) (by decide) (by intro h2; exact absurd (congrArg (fun b : ByteArray => b.data.size) h2) (by decide)) hf
  · exact hne 200 fm200 (by omega) (by decide) (by intro h2; exact absurd (congrArg (fun b : ByteArray => b.data.size) h2) (by decide)) hf
  · exact hne 201 fm201 (by omega) (by decide) (by intro h2; exact absurd (congrArg (fun b : ByteArray => b.data.size) h2) (by decide)) hf
  · exact hne 202 fm202 (by omega) (by decide) (by intro h2; exact absurd (congrArg (fun b : ByteArray => b.data.size) h2) (by decide)) hf
  · have hi : isId k = false := by
      unfold isId
      simp only [List.contains_eq_mem, List.mem_cons, List.not_mem_nil, or_false, decide_eq_false_iff_not]
      omega
    rw [hf, hi]
    exact ba_empty rfl
theorem idsTo_succ (k : Nat) : idsTo (k + 1) = if isId k = true then idsTo k ++ [k] else idsTo k := by
  unfold idsTo
  rw [List.range_succ, List.filter_append]
  by_cases h : isId k = true
  · rw [if_pos h, List.filter_cons_of_pos h]; rfl
  · rw [if_neg h, List.filter_cons_of_neg h]; simp
def RdN (w : World) (B : Nat) (A : Option Addr) (n c : Nat) (L : List Nat) : Prop := RdR w B 1 A n c (L.map fun k : Nat => [Value.int .i64 (k : Int)])
theorem RdN.at_ {w : World} {B : Nat} {A : Option Addr} {n c : Nat} {L : List Nat} (h : RdN w B A n c L) {k : Nat} (hk : k < n) : ∃ g off x, A = some ⟨g, off, none⟩ ∧ g < B ∧ L[k]? = some x ∧ w.cell? ⟨g, off + k, none⟩ = some (.int .i64 (x : Int)) := by
  obtain ⟨g, off, r, h1, h2, h3, h4, h5⟩ := RdR.at_ h hk
  rw [List.getElem?_map] at h3
  cases hx : L[k]? with
  | none => rw [hx] at h3; cases h3
  | some x =>
    rw [hx] at h3
    injection h3 with h3
    subst h3
    have := h5 0 _ rfl
    rw [Nat.mul_one, Nat.add_zero] at this
    exact ⟨g, off, x, h1, h2, rfl, this⟩
theorem RdN.len {w : World} {B : Nat} {A : Option Addr} {n c : Nat} {L : List Nat} (h : RdN w B A n c L) : L.length = n := by have := h.1; rwa [List.length_map] at this
theorem int_info31 : (Try.prog.info? 3).map (fun i => (i.zero, i.size, i.bytes)) = some (some (.int .i64 0), 1, 8) := by kernel_rfl
set_option maxRecDepth 10000 in
set_option maxHeartbeats 4000000 in
theorem ids_any (w : World) : Calls Try.prog 41 #[] w fun e w' => ∃ (A : Option Addr) (n c : Nat), e = .returned (.slice A n c) ∧ RdN w' w'.heap.size A n c idsN ∧ Below w.heap.size w w' := by
  obtain ⟨i1, hi1⟩ := info_parts int_info31
  have Hi1 := Lib.hid hi1
  clear hi1
  go_enter Try.func41, Try.ntmps41
  go_wp2_with fail
  go_loopw [1, 3] (fun o i wr => ∃ (k n3 c3 : Nat) (A3 : Option Addr), k ≤ 256 ∧ n3 ≤ k ∧ i = .int .i64 k ∧ o = .slice A3 n3 c3 ∧ Below w.heap.size w wr ∧ wr.ownsRow w.heap.size 3 1 (.slice A3 n3 c3) n3 ((idsTo k).map fun k : Nat => [Value.int .i64 (k : Int)]).flatten ∧ Hid ((idsTo k).length = n3)) (fun _ i _ => 256 - (intOf i).toNat)
  case atStart => exact ⟨0, 0, 0, none, by omega, by omega, rfl, rfl, Below.refl _ _, World.ownsRow_nil _ _ _ _, Lib.hid rfl⟩
  case round =>
    obtain ⟨k, n3, c3, A3, hk, hn3, rfl, rfl, hb, own3, Hl3⟩ := hrel
    by_cases hlt : k < 256
    · have hlt' : (k : Int) < 256 := by omega
      have hf := find_any (k : Int) wr
      have hem := isId_frm k
      generalize frm (k : Int) = p at *
      have Hf := Lib.hid hf
      have hsu := idsTo_succ k
      have Hsu := Lib.hid hsu
      have hfa := fun A n c w => form_at p.1 A n c w
      have hf0 := fun A n c w => (hfa A n c w).1
      clear hf hsu hfa
      go_wp2_with fail
      go_fit Hf.out
      unfold RetFm
      rintro e w1 ⟨A1, n1, c1, rfl, hr, hbx⟩
      have hb1 := bnx hb hbx
      have own1 := own_up own3 hbx (Nat.le_refl _)
      clear hbx hr hb own3 Hf
      cases hid : isId k with
      | true =>
        rw [hid] at hem
        have hem2 : p.1.toList.isEmpty = false := hem
        have hbn := (Below.refl w1.heap.size w1).alloc (Nat.le_refl _) (.cells #[.int .i64 (k : Int)] 3)
        have hrd := RdR.rd (RdR.lit (size := 1) (e := 3) w1 [[.int .i64 (k : Int)]] #[.int .i64 (k : Int)] rfl (by intro r hr; rw [List.mem_singleton.1 hr]; rfl) (by simp [maxLen]) 1 rfl) (by omega)
        have own4 := own_up own1 hbn (Nat.le_refl _)
        have hb4 := bnx hb1 hbn
        have Hfl := Lib.hid (show ((idsTo k).map fun k : Nat => [Value.int .i64 (k : Int)]).flatten ++ [[Value.int .i64 (k : Int)]].flatten = ((idsTo (k + 1)).map fun k : Nat => [Value.int .i64 (k : Int)]).flatten by rw [Hsu.out, if_pos hid]; simp)
        have Hl4 := Lib.hid (show (idsTo (k + 1)).length = n3 + 1 by rw [Hsu.out, if_pos hid, List.length_append, Hl3.out]; rfl)
        clear hem hid own1 hb1 hbn
        go_wp2_with (at_builtin; refine stop_ ?_)
        generalize (w1.alloc (.cells #[.int .i64 (k : Int)] 3)) = w4 at *
        refine go_ (wpList_appG (base := w.heap.size) (n := n3) Try.underlying60 Hi1.out (by kernel_rfl) (by omega) own4 rfl hrd rfl (by intro u hu; rw [List.mem_singleton.1 hu]; rfl) (k := n3 + 1) rfl Hfl.out (by unfold maxLen; omega) (by omega) hb4.size ?_)
        intro A5 c5 w5 own5 hgr hob
        have hb5 := Below.grown hb4 hgr hb4.size (fun j hj => (own_blk own4 hj).1)
        clear hgr hob own4 hrd hb4
        go_wp2
        go_roundw
        case rel => exact ⟨k + 1, n3 + 1, c5, A5, by omega, by omega, by go_num, rfl, hb5, own5, Hl4⟩
        case measure => simp [intOf]; omega
      | false =>
        rw [hid] at hem
        have hem2 : p.1.toList.isEmpty = true := hem
        have He := Lib.hid (show idsTo (k + 1) = idsTo k by rw [Hsu.out, if_neg (by rw [hid]; exact Bool.false_ne_true)])
        rw [← He.out] at own1
        have Hl4 := Lib.hid (show (idsTo (k + 1)).length = n3 by rw [He.out]; exact Hl3.out)
        clear hem hid
        go_wp2
        go_roundw
        case rel => exact ⟨k + 1, n3, c3, A3, by omega, by omega, by go_num, rfl, hb1, own1, Hl4⟩
        case measure => simp [intOf]; omega
    · obtain rfl : k = 256 := by omega
      rw [idsTo_all] at own3 Hl3
      have hrp : RdN wr wr.heap.size A3 n3 c3 idsN := RdR.own (ls := idsN.map fun k : Nat => [Value.int .i64 (k : Int)]) own3 (by rw [List.length_map]; exact Hl3.out) (fun r hr => by obtain ⟨k, _, rfl⟩ := List.mem_map.1 hr; rfl)
      clear own3
      go_wp2
      go_ret
      exact ⟨A3, n3, c3, rfl, hrp, hb⟩
set_option maxRecDepth 10000 in
theorem qids_any (w : World) : Calls Try.prog 42 #[] w fun e w' => ∃ (A : Option Addr) (n c : Nat), e = .returned (.slice A n c) ∧ RdN w' w'.heap.size A n c idsN ∧ Below w.heap.size w w' := by
  have hlit := RdR.lit (size := 1) (e := 3) w (idsN.map fun k : Nat => [Value.int .i64 (k : Int)]) #[.int .i64 0, .int .i64 1, .int .i64 2, .int .i64 4, .int .i64 24, .int .i64 25, .int .i64 26, .int .i64 27, .int .i64 28, .int .i64 33, .int .i64 35, .int .i64 36, .int .i64 42, .int .i64 44, .int .i64 47, .int .i64 66, .int .i64 77, .int .i64 111, .int .i64 125, .int .i64 200, .int .i64 201, .int .i64 202] rfl (fun r hr => by obtain ⟨k, _, rfl⟩ := List.mem_map.1 hr; rfl) (by simp [maxLen, idsN]) 22 rfl
  have hsz : (w.alloc (.cells #[.int .i64 0, .int .i64 1, .int .i64 2, .int .i64 4, .int .i64 24, .int .i64 25, .int .i64 26, .int .i64 27, .int .i64 28, .int .i64 33, .int .i64 35, .int .i64 36, .int .i64 42, .int .i64 44, .int .i64 47, .int .i64 66, .int .i64 77, .int .i64 111, .int .i64 125, .int .i64 200, .int .i64 201, .int .i64 202] 3)).heap.size = w.heap.size + 1 := World.size_alloc _ _
  rw [← hsz] at hlit
  have Hlit := Lib.hid hlit
  have hb := (Below.refl w.heap.size w).alloc (Nat.le_refl _) (.cells #[.int .i64 0, .int .i64 1, .int .i64 2, .int .i64 4, .int .i64 24, .int .i64 25, .int .i64 26, .int .i64 27, .int .i64 28, .int .i64 33, .int .i64 35, .int .i64 36, .int .i64 42, .int .i64 44, .int .i64 47, .int .i64 66, .int .i64 77, .int .i64 111, .int .i64 125, .int .i64 200, .int .i64 201, .int .i64 202] 3)
  clear hlit hsz
  go_enter Try.func42, Try.ntmps42
  go_wp2
  go_ret
  exact ⟨some ⟨w.heap.size, 0, none⟩, 22, 22, rfl, Hlit.out, hb⟩
set_option maxRecDepth 10000 in
set_option maxHeartbeats 4000000 in
theorem sumW_any (A : Option Addr) (n c : Nat) (L : List PtT) (w : World) (h : RdP w w.heap.size A n c L) (hn : n ≤ 1000) (hq : PtN L) :
    Calls Try.prog 49 #[.slice A n c, .func (.func 52) #[] #[]] w fun e w' => e = .returned (.int .i64 (wdS L : Int)) ∧ Below w.heap.size w w' := by
  have hll := h.len
  have hmx := h.2.2.2.1
  have hle := h.2.2.1
  unfold maxLen at hmx
  have Hll := Lib.hid hll
  have Hbd := Lib.hid (fun k => wd_bd L hq k)
  have Hsn := Lib.hid (fun (l : List PtT) (p : PtT) => wdS_snoc p l)
  have Hf := Lib.hid (fun (p : PtT) (hp : p ∈ L) (w : World) => width1_any p (hq.1 p hp) (Nat.le_trans (hq.2.2 p hp) (by omega)) w)
  clear hll hq
  go_enter Try.func49, Try.ntmps49
  go_wp2_with fail
  go_loopw [5, 10] (fun a i wr => ∃ k s : Nat, k ≤ n ∧ i = .int .i64 k ∧ a = .int .i64 (s : Int) ∧ Hid (s = wdS (L.take k)) ∧ s ≤ 8000 * 1000 ∧ Below w.heap.size w wr) (fun _ i _ => n - (intOf i).toNat)
  case atStart => exact ⟨0, 0, by omega, rfl, rfl, Lib.hid rfl, by omega, Below.refl _ _⟩
  case round =>
    obtain ⟨k, s, hk, rfl, rfl, Hs, hs8, hb⟩ := hrel
    by_cases hlt : k < n
    · have hlt' : (k : Int) < (n : Int) := by omega
      obtain ⟨g, off, x, rfl, hg, hx, hr⟩ := RdP.at_ h hlt
      have k0 := (hb.cell (p := ⟨g, off + k * 4 + 0, none⟩) hg).trans (hr 0 _ rfl)
      have k1 := (hb.cell (p := ⟨g, off + k * 4 + 1, none⟩) hg).trans (hr 1 _ rfl)
      have k2 := (hb.cell (p := ⟨g, off + k * 4 + 2, none⟩) hg).trans (hr 2 _ rfl)
      have k3 := (hb.cell (p := ⟨g, off + k * 4 + 3, none⟩) hg).trans (hr 3 _ rfl)
      rw [Nat.add_zero] at k0
      have hfx := fun w => Hf.out x (List.mem_of_getElem? hx) w
      have hsm := Hsn.out (L.take k) x
      rw [← take_succ hx, ← Hs.out] at hsm
      have hbd := Hbd.out (k + 1)
      obtain ⟨s1, z1, g1, m1⟩ := x
      dsimp only at k0 k1 k2 k3 hfx hsm
      obtain ⟨d, hd⟩ : ∃ d : Nat, d = z1.toNat * mx1 m1 := ⟨_, rfl⟩
      rw [← hd] at hfx hsm
      rw [hsm] at hbd
      have Hsm := Lib.hid hsm.symm
      have hfx2 : ∀ w, Calls Try.prog 52 #[.agg #[.string s1, .int .i64 z1, .bool g1, .int .i64 m1]] w fun e w' => e = .returned (.int .i64 (d : Int)) ∧ Below w.heap.size w w' := hfx
      have Hfx := Lib.hid hfx2
      have hw3 : IntKind.i64.wrap ((s : Int) + (d : Int)) = (s : Int) + (d : Int) := IntWalk.i64_in _ (by omega)
      have hbn : Below wr.heap.size wr (wr.alloc (.cells #[.string s1, .int .i64 z1, .bool g1, .int .i64 m1] 28)) := (Below.refl _ _).alloc (Nat.le_refl _) _
      have a0 := heap_alloc_new wr (.cells #[.string s1, .int .i64 z1, .bool g1, .int .i64 m1] 28)
      have d0 := blk_cell (i := 0) (v := .string s1) a0 rfl
      have d1 := blk_cell (i := 1) (v := .int .i64 z1) a0 rfl
      have d2 := blk_cell (i := 2) (v := .bool g1) a0 rfl
      have d3 := blk_cell (i := 3) (v := .int .i64 m1) a0 rfl
      have hb4 := bnx hb hbn
      clear hx hr hfx hfx2 hsm hd hbn a0 hb
      go_wp2_with fail
      go_fit (Hfx.out _)
      rintro e w2 ⟨rfl, hbx⟩
      have hb5 := bnx hb4 hbx
      clear k0 k1 k2 k3 d0 d1 d2 d3 hbx hb4
      go_wp2
      go_roundw
      case rel => exact ⟨k + 1, s + d, by omega, by go_num, by go_num, Hsm, by omega, hb5⟩
      case measure => simp [intOf]; omega
    · obtain rfl : k = n := by omega
      have he : s = wdS L := by rw [Hs.out, List.take_of_length_le (by rw [Hll.out]; exact Nat.le_refl _)]
      have He := Lib.hid he
      clear he
      go_wp2
      go_ret
      exact ⟨by rw [← He.out]; rfl, hb⟩
set_option maxRecDepth 10000 in
set_option maxHeartbeats 4000000 in
theorem sumN_any (A : Option Addr) (n c : Nat) (L : List PtT) (w : World) (h : RdP w w.heap.size A n c L) (hn : n ≤ 1000) (hq : PtN L) :
    Calls Try.prog 49 #[.slice A n c, .func (.func 50) #[] #[]] w fun e w' => e = .returned (.int .i64 (cntS L : Int)) ∧ Below w.heap.size w w' := by
  have hll := h.len
  have hmx := h.2.2.2.1
  have hle := h.2.2.1
  unfold maxLen at hmx
  have Hll := Lib.hid hll
  have Hbd := Lib.hid (fun k => cnt_bd L hq k)
  have Hsn := Lib.hid (fun (l : List PtT) (p : PtT) => cntS_snoc p l)
  have Hf := Lib.hid (fun (p : PtT) (hp : p ∈ L) (w : World) => numbers_any p w)
  clear hll hq
  go_enter Try.func49, Try.ntmps49
  go_wp2_with fail
  go_loopw [5, 10] (fun a i wr => ∃ k s : Nat, k ≤ n ∧ i = .int .i64 k ∧ a = .int .i64 (s : Int) ∧ Hid (s = cntS (L.take k)) ∧ s ≤ 8000 * 1000 ∧ Below w.heap.size w wr) (fun _ i _ => n - (intOf i).toNat)
  case atStart => exact ⟨0, 0, by omega, rfl, rfl, Lib.hid rfl, by omega, Below.refl _ _⟩
  case round =>
    obtain ⟨k, s, hk, rfl, rfl, Hs, hs8, hb⟩ := hrel
    by_cases hlt : k < n
    · have hlt' : (k : Int) < (n : Int) := by omega
      obtain ⟨g, off, x, rfl, hg, hx, hr⟩ := RdP.at_ h hlt
      have k0 := (hb.cell (p := ⟨g, off + k * 4 + 0, none⟩) hg).trans (hr 0 _ rfl)
      have k1 := (hb.cell (p := ⟨g, off + k * 4 + 1, none⟩) hg).trans (hr 1 _ rfl)
      have k2 := (hb.cell (p := ⟨g, off + k * 4 + 2, none⟩) hg).trans (hr 2 _ rfl)
      have k3 := (hb.cell (p := ⟨g, off + k * 4 + 3, none⟩) hg).trans (hr 3 _ rfl)
      rw [Nat.add_zero] at k0
      have hfx := fun w => Hf.out x (List.mem_of_getElem? hx) w
      have hsm := Hsn.out (L.take k) x
      rw [← take_succ hx, ← Hs.out] at hsm
      have hbd := Hbd.out (k + 1)
      obtain ⟨s1, z1, g1, m1⟩ := x
      dsimp only at k0 k1 k2 k3 hfx hsm
      obtain ⟨d, hd⟩ : ∃ d : Nat, d = mx1 m1 := ⟨_, rfl⟩
      rw [← hd] at hfx hsm
      rw [hsm] at hbd
      have Hsm := Lib.hid hsm.symm
      have hfx2 : ∀ w, Calls Try.prog 50 #[.agg #[.string s1, .int .i64 z1, .bool g1, .int .i64 m1]] w fun e w' => e = .returned (.int .i64 (d : Int)) ∧ Below w.heap.size w w' := hfx
      have Hfx := Lib.hid hfx2
      have hw3 : IntKind.i64.wrap ((s : Int) + (d : Int)) = (s : Int) + (d : Int) := IntWalk.i64_in _ (by omega)
      have hbn : Below wr.heap.size wr (wr.alloc (.cells #[.string s1, .int .i64 z1, .bool g1, .int .i64 m1] 28)) := (Below.refl _ _).alloc (Nat.le_refl _) _
      have a0 := heap_alloc_new wr (.cells #[.string s1, .int .i64 z1, .bool g1, .int .i64 m1] 28)
      have d0 := blk_cell (i := 0) (v := .string s1) a0 rfl
      have d1 := blk_cell (i := 1) (v := .int .i64 z1) a0 rfl
      have d2 := blk_cell (i := 2) (v := .bool g1) a0 rfl
      have d3 := blk_cell (i := 3) (v := .int .i64 m1) a0 rfl
      have hb4 := bnx hb hbn
      clear hx hr hfx hfx2 hsm hd hbn a0 hb
      go_wp2_with fail
      go_fit (Hfx.out _)
      rintro e w2 ⟨rfl, hbx⟩
      have hb5 := bnx hb4 hbx
      clear k0 k1 k2 k3 d0 d1 d2 d3 hbx hb4
      go_wp2
      go_roundw
      case rel => exact ⟨k + 1, s + d, by omega, by go_num, by go_num, Hsm, by omega, hb5⟩
      case measure => simp [intOf]; omega
    · obtain rfl : k = n := by omega
      have he : s = cntS L := by rw [Hs.out, List.take_of_length_le (by rw [Hll.out]; exact Nat.le_refl _)]
      have He := Lib.hid he
      clear he
      go_wp2
      go_ret
      exact ⟨by rw [← He.out]; rfl, hb⟩
set_option maxRecDepth 10000 in
theorem width_any (id : Int) (w : World) : Calls Try.prog 22 #[.int .i64 id] w fun e w' => e = .returned (.int .i64 (wdS (frm id).2 : Int)) ∧ Below w.heap.size w w' := by
  have hp := parts31_any id w
  have hN := frm_n id
  generalize (frm id).2 = L at *
  have Hp := Lib.hid hp
  have HN := Lib.hid hN
  clear hp hN
  go_enter Try.func22, Try.ntmps22
  go_wp2_with fail
  go_fit Hp.out
  rintro e w1 ⟨A, n, c, rfl, hr, hb⟩
  have hn : n ≤ 1000 := by rw [← hr.len]; have := HN.out.2.1; omega
  go_wp2_with fail
  go_fit (sumW_any A n c L w1 hr hn HN.out)
  rintro e w2 ⟨rfl, hbx⟩
  have hb2 := bnx hb hbx
  go_wp2
  go_ret
  exact ⟨rfl, hb2⟩
theorem count_any (id : Int) (w : World) : Calls Try.prog 20 #[.int .i64 id] w fun e w' => e = .returned (.int .i64 (cntS (frm id).2 : Int)) ∧ Below w.heap.size w w' := by
  have hp := parts31_any id w
  have hN := frm_n id
  generalize (frm id).2 = L at *
  have Hp := Lib.hid hp
  have HN := Lib.hid hN
  clear hp hN
  go_enter Try.func20, Try.ntmps20
  go_wp2_with fail
  go_fit Hp.out
  rintro e w1 ⟨A, n, c, rfl, hr, hb⟩
  have hn : n ≤ 1000 := by rw [← hr.len]; have := HN.out.2.1; omega
  go_wp2_with fail
  go_fit (sumN_any A n c L w1 hr hn HN.out)
  rintro e w2 ⟨rfl, hbx⟩
  have hb2 := bnx hb hbx
  go_wp2
  go_ret
  exact ⟨rfl, hb2⟩

end Go.Proofs.Ytonejdjhdjckjaa

/-
  knows, SchemaWire walked (printed by gen_sch6.py).
-/
set_option linter.unusedSimpArgs false
set_option linter.unusedVariables false
namespace Go.Proofs.Ytonejdjhdjckjaa
open Go.RowKit NumLaw
attribute [local go_sem] Addr.add_mid
attribute [-go_sem] run_eql_struct run_neq_struct

theorem takeN_ne {α : Type} {L L' : List α} {k : Nat} {x y : α} (hx : L[k]? = some x) (hy : L'[k]? = some y) (h : L = L') : x = y := by
  subst h; rw [hx] at hy; injection hy
theorem frm0_len : (frm 0).2.length = 6 := by decide +kernel
theorem frm0_at : (stb PtT.sz (frm 0).2)[0]? = some ⟨⟨#[99, 117, 115, 116, 111, 109, 95, 109, 111, 100, 101]⟩, 4, false, 0⟩ := by rfl
theorem frm0_wd : wdS (frm 0).2 = 9 := by decide +kernel
set_option maxRecDepth 10000 in
set_option maxHeartbeats 4000000 in
theorem knows31 (w : World) : Calls Try.prog 11 #[] w fun e w' => e = .returned (.bool true) ∧ Below w.heap.size w w' := by
  have hp := parts31_any 0 w
  have hwd := fun w => width_any 0 w
  have hl := frm0_len
  have hx := frm0_at
  rw [frm0_wd] at hwd
  generalize (frm 0).2 = L at *
  have Hp := Lib.hid hp
  have Hwd := Lib.hid hwd
  have Hl := Lib.hid hl
  have Hx := Lib.hid hx
  clear hp hwd hl hx
  go_enter Try.func11, Try.ntmps11
  go_wp2_with fail
  go_fit Hp.out
  rintro e w1 ⟨A, n, c, rfl, hr, hb1⟩
  obtain rfl : n = 6 := by rw [← hr.len]; exact Hl.out
  go_wp2_with fail
  go_fit (wire31_any A 6 c L w1 hr (by omega))
  rintro e w2 ⟨A2, c2, rfl, hr2, hbx⟩
  have hb2 := bnx hb1 hbx
  have hmx := hr2.2.2.2.1
  have hle := hr2.2.2.1
  unfold maxLen at hmx
  obtain ⟨g, off, x, rfl, hg, hx2, hc⟩ := RdP.at_ hr2 (show 0 < 6 by omega)
  obtain rfl : x = ⟨⟨#[99, 117, 115, 116, 111, 109, 95, 109, 111, 100, 101]⟩, 4, false, 0⟩ := by have h0 := Hx.out; rw [hx2] at h0; injection h0
  have k0 : w2.cell? ⟨g, off, none⟩ = some (.string ⟨#[99, 117, 115, 116, 111, 109, 95, 109, 111, 100, 101]⟩) := by have k := hc 0 _ rfl; simpa using k
  clear hc hx2 hr2 hbx hb1 hr
  go_wp2_with fail
  go_fit (ids_any w2)
  rintro e w3 ⟨A3, n3, c3, rfl, hi3, hbx⟩
  have hb3 := bnx hb2 hbx
  obtain rfl : n3 = 22 := by rw [← hi3.len]; rfl
  have k1 := (hbx.cell (p := ⟨g, off, none⟩) hg).trans k0
  have hg1 : g < w3.heap.size := by have := hbx.size; omega
  clear hbx k0 hb2
  go_wp2_with fail
  go_fit (qids_any w3)
  rintro e w4 ⟨A4, n4, c4, rfl, hi4, hbx⟩
  have hb4 := bnx hb3 hbx
  obtain rfl : n4 = 22 := by rw [← hi4.len]; rfl
  have k2 := (hbx.cell (p := ⟨g, off, none⟩) hg1).trans k1
  have hg2 : g < w4.heap.size := by have := hbx.size; omega
  have h : RdN w4 w4.heap.size A3 22 c3 idsN := RdR.more (RdR.up hi3 hbx) hbx.size
  have h' : RdN w4 w4.heap.size A4 22 c4 idsN := hi4
  have hmx3 := h.2.2.2.1
  have hle3 := h.2.2.1
  have hmx4 := h'.2.2.2.1
  have hle4 := h'.2.2.1
  unfold maxLen at hmx3 hmx4
  have Hk2 := Lib.hid (show ∀ wq, Below w4.heap.size w4 wq → wq.cell? ⟨g, off, none⟩ = some (.string ⟨#[99, 117, 115, 116, 111, 109, 95, 109, 111, 100, 101]⟩) from fun wq hbq => (hbq.cell (p := ⟨g, off, none⟩) hg2).trans k2)
  clear hbx k1 hb3 hg1 hg k2
  go_wp2_with fail
  go_loopw [4] (fun i wr => ∃ k : Nat, k ≤ 22 ∧ i = .int .i64 k ∧ Below w4.heap.size w4 wr) (fun i _ => 22 - (intOf i).toNat)
  case atStart => exact ⟨0, by omega, rfl, Below.refl _ _⟩
  case round =>
    obtain ⟨k, hk, rfl, hb⟩ := hrel
    by_cases hlt : k < 22
    · have hlt' : (k : Int) < 22 := by omega
      obtain ⟨ga, offa, x, rfl, hga, hx, hr⟩ := RdN.at_ h hlt
      obtain ⟨gb, offb, y, rfl, hgb, hy, hr'⟩ := RdN.at_ h' hlt
      obtain rfl : x = y := takeN_ne hx hy rfl
      have Hr := Lib.hid (show ∀ wq, Below w4.heap.size w4 wq → wq.cell? ⟨ga, offa + k, none⟩ = some (.int .i64 (x : Int)) from fun wq hbq => (hbq.cell (p := ⟨ga, offa + k, none⟩) hga).trans hr)
      have Hr' := Lib.hid (show ∀ wq, Below w4.heap.size w4 wq → wq.cell? ⟨gb, offb + k, none⟩ = some (.int .i64 (x : Int)) from fun wq hbq => (hbq.cell (p := ⟨gb, offb + k, none⟩) hgb).trans hr')
      clear hx hy hr hr'
      go_wp2_with fail
      refine Ord.region_ (fun w' => Below w4.heap.size w4 w') false [] (by kernel_rfl) (by kernel_rfl) hb.drew ?_
      replace hb := hb.drew
      generalize wr.drew = wd at *
      ((with_reducible refine Ord.e_p (v := ?_) ?_ ?_ ?_ ?_); rotate_left; (· exact rfl); (· kernel_rfl); (· intro w2; go_simp; try with_reducible rfl))
      (try simp only [Act.put, List.setIfInBounds_toArray, List.set_cons_zero, List.set_cons_succ])
      ((with_reducible refine Ord.e_p (v := ?_) ?_ ?_ ?_ ?_); rotate_left; (· exact rfl); (· kernel_rfl); (· intro w2; go_simp; try with_reducible rfl))
      (try simp only [Act.put, List.setIfInBounds_toArray, List.set_cons_zero, List.set_cons_succ])
      ((with_reducible refine Ord.e_p (v := ?_) ?_ ?_ ?_ ?_); rotate_left; (· exact rfl); (· kernel_rfl); (· intro w2; go_simp; try with_reducible rfl))
      (try simp only [Act.put, List.setIfInBounds_toArray, List.set_cons_zero, List.set_cons_succ])
      refine Ord.e_loadS (ad := ⟨ga, offa + k, none⟩) Try.underlying3 rfl (fun w' hS => Hr.out w' hS) hb rfl (by kernel_rfl) ?_
      (try simp only [Act.put, List.setIfInBounds_toArray, List.set_cons_zero, List.set_cons_succ])
      ((with_reducible refine Ord.e_p (v := ?_) ?_ ?_ ?_ ?_); rotate_left; (· exact rfl); (· kernel_rfl); (· intro w2; go_simp; try with_reducible rfl))
      (try simp only [Act.put, List.setIfInBounds_toArray, List.set_cons_zero, List.set_cons_succ])
      ((with_reducible refine Ord.e_p (v := ?_) ?_ ?_ ?_ ?_); rotate_left; (· exact rfl); (· kernel_rfl); (· intro w2; go_simp; try with_reducible rfl))
      (try simp only [Act.put, List.setIfInBounds_toArray, List.set_cons_zero, List.set_cons_succ])
      ((with_reducible refine Ord.e_p (v := ?_) ?_ ?_ ?_ ?_); rotate_left; (· exact rfl); (· kernel_rfl); (· intro w2; go_simp; try with_reducible rfl))
      (try simp only [Act.put, List.setIfInBounds_toArray, List.set_cons_zero, List.set_cons_succ])
      refine Ord.e_loadS (ad := ⟨gb, offb + k, none⟩) Try.underlying3 rfl (fun w' hS => Hr'.out w' hS) hb rfl (by kernel_rfl) ?_
      (try simp only [Act.put, List.setIfInBounds_toArray, List.set_cons_zero, List.set_cons_succ])
      ((with_reducible refine Ord.e_p (v := ?_) ?_ ?_ ?_ ?_); rotate_left; (· exact rfl); (· kernel_rfl); (· intro w2; go_simp; try with_reducible rfl))
      (try simp only [Act.put, List.setIfInBounds_toArray, List.set_cons_zero, List.set_cons_succ])
      refine Ord.e_nil ?_
      have hxb : ((x : Int) != (x : Int)) = false := by simp
      go_wp2
      go_roundw
      case rel => exact ⟨k + 1, by omega, by go_num, hb⟩
      case measure => simp [intOf]; omega
    · obtain rfl : k = 22 := by omega
      have k3 := Hk2.out wr hb
      go_wp2_with fail
      go_fit (Hwd.out wr)
      rintro e w5 ⟨rfl, hbx⟩
      have hb5 := bnx hb hbx
      have k4 := Hk2.out w5 hb5
      have hb6 := bnx hb4 hb5
      clear hbx hb5 hb k3
      go_wp2
      go_ret
      exact ⟨rfl, hb6⟩
theorem sz_down {L : List PtT} {k j : Nat} {x y : PtT} (hx : (stb PtT.sz L)[k]? = some x) (hy : (stb PtT.sz L)[j]? = some y) (h : j < k) : ¬ y.sz < x.sz := by
  have hs := List.pairwise_iff_getElem.1 (stb_sorted PtT.sz L)
  obtain ⟨hk, rfl⟩ := List.getElem?_eq_some_iff.1 hx
  obtain ⟨hj, rfl⟩ := List.getElem?_eq_some_iff.1 hy
  have := hs j k hj hk h
  omega
set_option maxRecDepth 10000 in
set_option maxHeartbeats 4000000 in
theorem schemawire_any (A : Option Addr) (n c : Nat) (L : List PtT) (w : World) (h : RdP w w.heap.size A n c L) (hq : ∀ x ∈ L, PtB x) :
    Calls Try.prog 3 #[.slice A n c] w fun e w' => e = .returned (.bool true) ∧ Below w.heap.size w w' := by
  have hmx := h.2.2.2.1
  have hle := h.2.2.1
  unfold maxLen at hmx
  have Hl := Lib.hid h.len
  by_cases h60 : 60 < n
  · have h60' : (60 : Int) < (n : Int) := by omega
    go_enter Try.func3, Try.ntmps3
    go_wp2_with fail
    go_fit (knows31 _)
    rintro e w1 ⟨rfl, hb⟩
    go_wp2
    go_ret
    exact ⟨rfl, hb⟩
  have h60' : ¬ (60 : Int) < (n : Int) := by omega
  go_enter Try.func3, Try.ntmps3
  go_wp2_with fail
  go_fit (knows31 _)
  rintro e w1 ⟨rfl, hb1⟩
  have h1 : RdP w1 w1.heap.size A n c L := RdR.more (RdR.up h hb1) hb1.size
  clear h
  go_wp2_with fail
  go_fit (wire31_any A n c L w1 h1 (by omega))
  rintro e w2 ⟨A2, c2, rfl, hr2, hbx⟩
  have hb2 := bnx hb1 hbx
  have h2 : RdP w2 w2.heap.size A n c L := RdR.more (RdR.up h1 hbx) hbx.size
  have hmx2 := hr2.2.2.2.1
  have hle2 := hr2.2.2.1
  unfold maxLen at hmx2
  have hnn : ((n : Int) != (n : Int)) = false := by simp
  clear h1 hb1 hbx
  go_wp2_with fail
  go_loopw [4] (fun i wr => ∃ k : Nat, 1 ≤ k ∧ k ≤ 9 ∧ i = .int .i64 k ∧ Below w2.heap.size w2 wr) (fun i _ => 9 - (intOf i).toNat)
  case atStart => exact ⟨1, by omega, by omega, rfl, Below.refl _ _⟩
  case round =>
    obtain ⟨k, hk1, hk, rfl, hb⟩ := hrel
    by_cases hlt : k < 9
    · have hlt' : (k : Int) ≤ 8 := by omega
      have r2 : RdP wr wr.heap.size A2 n c2 (stb PtT.sz L) := RdR.more (RdR.up hr2 hb) hb.size
      have r1 : RdP wr wr.heap.size A n c L := RdR.more (RdR.up h2 hb) hb.size
      go_wp2_with fail
      go_fit (sized_any A2 n c2 (stb PtT.sz L) (k : Int) wr r2 (by omega))
      rintro e w3 ⟨A3, n3, c3, rfl, hr3, hbx⟩
      have hb3 := bnx hb hbx
      have s1 : RdP w3 w3.heap.size A n c L := RdR.more (RdR.up r1 hbx) hbx.size
      clear r1 r2 hbx hb
      go_wp2_with fail
      go_fit (sized_any A n c L (k : Int) w3 s1 (by omega))
      rintro e w4 ⟨A4, n4, c4, rfl, hr4, hbx⟩
      have hb4 := bnx hb3 hbx
      have s3 : RdP w4 w4.heap.size A3 n3 c3 (byS PtT.sz (k : Int) (stb PtT.sz L)) := RdR.more (RdR.up hr3 hbx) hbx.size
      rw [byS_stb] at s3
      clear s1 hbx hb3 hr3
      go_wp2_with fail
      go_fit (qsame31_any A3 n3 c3 A4 n4 c4 _ _ w4 s3 hr4)
      rintro e w5 ⟨rfl, hbx⟩
      rw [show decide (byS PtT.sz (k : Int) L = byS PtT.sz (k : Int) L) = true from decide_eq_true rfl]
      have hb5 := bnx hb4 hbx
      clear s3 hr4 hbx hb4
      go_wp2
      go_roundw
      case rel => exact ⟨k + 1, by omega, by omega, by go_num, hb5⟩
      case measure => simp [intOf]; omega
    · have hlt' : ¬ (k : Int) ≤ 8 := by omega
      clear h2 hk1
      obtain ⟨w3, hw3⟩ : ∃ w3, w3 = wr := ⟨_, rfl⟩
      subst hw3
      have r2 : RdP w3 w3.heap.size A2 n c2 (stb PtT.sz L) := RdR.more (RdR.up hr2 hb) hb.size
      have hb3 := bnx hb2 hb
      clear hr2 hb hb2
      go_wp2_with fail
      go_loopw [5] (fun i wq => ∃ k : Nat, 1 ≤ k ∧ (k ≤ n ∨ k = 1) ∧ i = .int .i64 k ∧ Below w3.heap.size w3 wq) (fun i _ => n - (intOf i).toNat)
      case atStart => exact ⟨1, by omega, .inr rfl, rfl, Below.refl _ _⟩
      case round =>
        obtain ⟨k, hk1, hkn, rfl, hb⟩ := hrel
        by_cases hlt : k < n
        · obtain ⟨j, hj⟩ : ∃ j, k = j + 1 := ⟨k - 1, by omega⟩
          have hlt' : (k : Int) < (n : Int) := by omega
          have hjn : j < n := by omega
          have hjn' : (j : Int) < (n : Int) := by omega
          have hsub : IntKind.i64.wrap ((k : Int) - 1) = (j : Int) := by rw [show (k : Int) - 1 = (j : Int) by omega]; exact IntWalk.i64_in _ (by omega)
          obtain ⟨g, off, x, rfl, hg, hx, hc⟩ := RdP.at_ r2 hlt
          obtain ⟨g', off', y, hgg, hg', hy, hc'⟩ := RdP.at_ r2 hjn
          injection hgg with hgg
          injection hgg with e1 e2 _
          subst e1
          subst e2
          have Hr := Lib.hid (show ∀ wq, Below w3.heap.size w3 wq → wq.cell? ⟨g, off + k * 4 + 1, none⟩ = some (.int .i64 x.sz) from fun wq hbq => (hbq.cell (p := ⟨g, off + k * 4 + 1, none⟩) hg).trans (hc 1 _ rfl))
          have Hr' := Lib.hid (show ∀ wq, Below w3.heap.size w3 wq → wq.cell? ⟨g, off + j * 4 + 1, none⟩ = some (.int .i64 y.sz) from fun wq hbq => (hbq.cell (p := ⟨g, off + j * 4 + 1, none⟩) hg).trans (hc' 1 _ rfl))
          have hgt : ¬ y.sz < x.sz := sz_down hx hy (by omega)
          generalize x.sz = zx at *
          generalize y.sz = zy at *
          have Hj := Lib.hid hj
          clear hj hx hy hc hc' hg'
          go_wp2_with fail
          refine Ord.region_ (fun w' => Below w3.heap.size w3 w') false [] (by kernel_rfl) (by kernel_rfl) hb.drew ?_
          replace hb := hb.drew
          generalize wr.drew = wd at *
          ((with_reducible refine Ord.e_p (v := ?_) ?_ ?_ ?_ ?_); rotate_left; (· exact rfl); (· kernel_rfl); (· intro w2; go_simp; try with_reducible rfl))
          (try simp only [Act.put, List.setIfInBounds_toArray, List.set_cons_zero, List.set_cons_succ])
          ((with_reducible refine Ord.e_p (v := ?_) ?_ ?_ ?_ ?_); rotate_left; (· exact rfl); (· kernel_rfl); (· intro w2; go_simp; try with_reducible rfl))
          (try simp only [Act.put, List.setIfInBounds_toArray, List.set_cons_zero, List.set_cons_succ])
          ((with_reducible refine Ord.e_p (v := ?_) ?_ ?_ ?_ ?_); rotate_left; (· exact rfl); (· kernel_rfl); (· intro w2; go_simp; try with_reducible rfl))
          (try simp only [Act.put, List.setIfInBounds_toArray, List.set_cons_zero, List.set_cons_succ])
          ((with_reducible refine Ord.e_p (v := ?_) ?_ ?_ ?_ ?_); rotate_left; (· exact rfl); (· kernel_rfl); (· intro w2; go_simp; try with_reducible rfl))
          (try simp only [Act.put, List.setIfInBounds_toArray, List.set_cons_zero, List.set_cons_succ])
          refine Ord.e_loadS (ad := ⟨g, off + k * 4 + 1, none⟩) Try.underlying3 rfl (fun w' hS => Hr.out w' hS) hb rfl (by kernel_rfl) ?_
          (try simp only [Act.put, List.setIfInBounds_toArray, List.set_cons_zero, List.set_cons_succ])
          ((with_reducible refine Ord.e_p (v := ?_) ?_ ?_ ?_ ?_); rotate_left; (· exact rfl); (· kernel_rfl); (· intro w2; go_simp; try with_reducible rfl))
          (try simp only [Act.put, List.setIfInBounds_toArray, List.set_cons_zero, List.set_cons_succ])
          ((with_reducible refine Ord.e_p (v := ?_) ?_ ?_ ?_ ?_); rotate_left; (· exact rfl); (· kernel_rfl); (· intro w2; go_simp; try with_reducible rfl))
          (try simp only [Act.put, List.setIfInBounds_toArray, List.set_cons_zero, List.set_cons_succ])
          refine Ord.e_p (v := .int .i64 (j : Int)) rfl (by kernel_rfl) (fun w2 => by go_simp) ?_
          (try simp only [Act.put, List.setIfInBounds_toArray, List.set_cons_zero, List.set_cons_succ])
          ((with_reducible refine Ord.e_p (v := ?_) ?_ ?_ ?_ ?_); rotate_left; (· exact rfl); (· kernel_rfl); (· intro w2; go_simp; try with_reducible rfl))
          (try simp only [Act.put, List.setIfInBounds_toArray, List.set_cons_zero, List.set_cons_succ])
          ((with_reducible refine Ord.e_p (v := ?_) ?_ ?_ ?_ ?_); rotate_left; (· exact rfl); (· kernel_rfl); (· intro w2; go_simp; try with_reducible rfl))
          (try simp only [Act.put, List.setIfInBounds_toArray, List.set_cons_zero, List.set_cons_succ])
          refine Ord.e_loadS (ad := ⟨g, off + j * 4 + 1, none⟩) Try.underlying3 rfl (fun w' hS => Hr'.out w' hS) hb rfl (by kernel_rfl) ?_
          (try simp only [Act.put, List.setIfInBounds_toArray, List.set_cons_zero, List.set_cons_succ])
          have hgd : decide (zy < zx) = false := by rw [decide_eq_false_iff_not]; omega
          refine Ord.e_p (v := .bool false) rfl (by kernel_rfl) (fun w2 => by go_simp) ?_
          (try simp only [Act.put, List.setIfInBounds_toArray, List.set_cons_zero, List.set_cons_succ])
          refine Ord.e_nil ?_
          go_wp2
          go_roundw
          case rel => exact ⟨k + 1, by omega, .inl (by omega), by go_num, hb⟩
          case measure => simp [intOf]; omega
        · have hlt' : ¬ (k : Int) < (n : Int) := by omega
          have hbf := bnx hb3 hb
          go_wp2
          go_ret
          exact ⟨rfl, hbf⟩

end Go.Proofs.Ytonejdjhdjckjaa
