/-
  the document's Parts and Name walked (printed by gen_sch4.py).
-/
import Derived.Test.YtonejdjhdjckjaaSch4L
import Derived.Test.YtonejdjhdjckjaaSch4H
import Derived.Test.YtonejdjhdjckjaaSch3
set_option linter.unusedSimpArgs false
set_option linter.unusedVariables false
namespace Go.Proofs.Ytonejdjhdjckjaa
open Go.RowKit NumLaw
attribute [local go_sem] Addr.add_mid

theorem frm_at (id : Int) : (id = 0 ∧ frm id = fm0) ∨ (id = 1 ∧ frm id = fm1) ∨ (id = 2 ∧ frm id = fm2) ∨ (id = 4 ∧ frm id = fm4) ∨ (id = 24 ∧ frm id = fm24) ∨ (id = 25 ∧ frm id = fm25) ∨ (id = 26 ∧ frm id = fm26) ∨ (id = 27 ∧ frm id = fm27) ∨ (id = 28 ∧ frm id = fm28) ∨ (id = 33 ∧ frm id = fm33) ∨ (id = 35 ∧ frm id = fm35) ∨ (id = 36 ∧ frm id = fm36) ∨ (id = 42 ∧ frm id = fm42) ∨ (id = 44 ∧ frm id = fm44) ∨ (id = 47 ∧ frm id = fm47) ∨ (id = 66 ∧ frm id = fm66) ∨ (id = 77 ∧ frm id = fm77) ∨ (id = 111 ∧ frm id = fm111) ∨ (id = 125 ∧ frm id = fm125) ∨ (id = 200 ∧ frm id = fm200) ∨ (id = 201 ∧ frm id = fm201) ∨ (id = 202 ∧ frm id = fm202) ∨ (frm id = fmNone ∧ ¬ id = 0 ∧ ¬ id = 1 ∧ ¬ id = 2 ∧ ¬ id = 4 ∧ ¬ id = 24 ∧ ¬ id = 25 ∧ ¬ id = 26 ∧ ¬ id = 27 ∧ ¬ id = 28 ∧ ¬ id = 33 ∧ ¬ id = 35 ∧ ¬ id = 36 ∧ ¬ id = 42 ∧ ¬ id = 44 ∧ ¬ id = 47 ∧ ¬ id = 66 ∧ ¬ id = 77 ∧ ¬ id = 111 ∧ ¬ id = 125 ∧ ¬ id = 200 ∧ ¬ id = 201 ∧ ¬ id = 202) := by
  by_cases h0 : id = 0
  · subst h0
    exact (.inl ⟨rfl, by rfl⟩)
  by_cases h1 : id = 1
  · subst h1
    exact .inr ((.inl ⟨rfl, by rfl⟩))
  by_cases h2 : id = 2
  · subst h2
    exact .inr (.inr ((.inl ⟨rfl, by rfl⟩)))
  by_cases h4 : id = 4
  · subst h4
    exact .inr (.inr (.inr ((.inl ⟨rfl, by rfl⟩))))
  by_cases h24 : id = 24
  · subst h24
    exact .inr (.inr (.inr (.inr ((.inl ⟨rfl, by rfl⟩)))))
  by_cases h25 : id = 25
  · subst h25
    exact .inr (.inr (.inr (.inr (.inr ((.inl ⟨rfl, by rfl⟩))))))
  by_cases h26 : id = 26
  · subst h26
    exact .inr (.inr (.inr (.inr (.inr (.inr ((.inl ⟨rfl, by rfl⟩)))))))
  by_cases h27 : id = 27
  · subst h27
    exact .inr (.inr (.inr (.inr (.inr (.inr (.inr ((.inl ⟨rfl, by rfl⟩))))))))
  by_cases h28 : id = 28
  · subst h28
    exact .inr (.inr (.inr (.inr (.inr (.inr (.inr (.inr ((.inl ⟨rfl, by rfl⟩)))))))))
  by_cases h33 : id = 33
  · subst h33
    exact .inr (.inr (.inr (.inr (.inr (.inr (.inr (.inr (.inr ((.inl ⟨rfl, by rfl⟩))))))))))
  by_cases h35 : id = 35
  · subst h35
    exact .inr (.inr (.inr (.inr (.inr (.inr (.inr (.inr (.inr (.inr ((.inl ⟨rfl, by rfl⟩)))))))))))
  by_cases h36 : id = 36
  · subst h36
    exact .inr (.inr (.inr (.inr (.inr (.inr (.inr (.inr (.inr (.inr (.inr ((.inl ⟨rfl, by rfl⟩))))))))))))
  by_cases h42 : id = 42
  · subst h42
    exact .inr (.inr (.inr (.inr (.inr (.inr (.inr (.inr (.inr (.inr (.inr (.inr ((.inl ⟨rfl, by rfl⟩)))))))))))))
  by_cases h44 : id = 44
  · subst h44
    exact .inr (.inr (.inr (.inr (.inr (.inr (.inr (.inr (.inr (.inr (.inr (.inr (.inr ((.inl ⟨rfl, by rfl⟩))))))))))))))
  by_cases h47 : id = 47
  · subst h47
    exact .inr (.inr (.inr (.inr (.inr (.inr (.inr (.inr (.inr (.inr (.inr (.inr (.inr (.inr ((.inl ⟨rfl, by rfl⟩)))))))))))))))
  by_cases h66 : id = 66
  · subst h66
    exact .inr (.inr (.inr (.inr (.inr (.inr (.inr (.inr (.inr (.inr (.inr (.inr (.inr (.inr (.inr ((.inl ⟨rfl, by rfl⟩))))))))))))))))
  by_cases h77 : id = 77
  · subst h77
    exact .inr (.inr (.inr (.inr (.inr (.inr (.inr (.inr (.inr (.inr (.inr (.inr (.inr (.inr (.inr (.inr ((.inl ⟨rfl, by rfl⟩)))))))))))))))))
  by_cases h111 : id = 111
  · subst h111
    exact .inr (.inr (.inr (.inr (.inr (.inr (.inr (.inr (.inr (.inr (.inr (.inr (.inr (.inr (.inr (.inr (.inr ((.inl ⟨rfl, by rfl⟩))))))))))))))))))
  by_cases h125 : id = 125
  · subst h125
    exact .inr (.inr (.inr (.inr (.inr (.inr (.inr (.inr (.inr (.inr (.inr (.inr (.inr (.inr (.inr (.inr (.inr (.inr ((.inl ⟨rfl, by rfl⟩)))))))))))))))))))
  by_cases h200 : id = 200
  · subst h200
    exact .inr (.inr (.inr (.inr (.inr (.inr (.inr (.inr (.inr (.inr (.inr (.inr (.inr (.inr (.inr (.inr (.inr (.inr (.inr ((.inl ⟨rfl, by rfl⟩))))))))))))))))))))
  by_cases h201 : id = 201
  · subst h201
    exact .inr (.inr (.inr (.inr (.inr (.inr (.inr (.inr (.inr (.inr (.inr (.inr (.inr (.inr (.inr (.inr (.inr (.inr (.inr (.inr ((.inl ⟨rfl, by rfl⟩)))))))))))))))))))))
  by_cases h202 : id = 202
  · subst h202
    exact .inr (.inr (.inr (.inr (.inr (.inr (.inr (.inr (.inr (.inr (.inr (.inr (.inr (.inr (.inr (.inr (.inr (.inr (.inr (.inr (.inr ((.inl ⟨rfl, by rfl⟩))))))))))))))))))))))
  refine .inr (.inr (.inr (.inr (.inr (.inr (.inr (.inr (.inr (.inr (.inr (.inr (.inr (.inr (.inr (.inr (.inr (.inr (.inr (.inr (.inr ((.inr ⟨?_, h0, h1, h2, h4, h24, h25, h26, h27, h28, h33, h35, h36, h42, h44, h47, h66, h77, h111, h125, h200, h201, h202⟩))))))))))))))))))))))
  unfold frm frmS frmN frmA frmO
  simp only [h0, h1, h2, h4, h24, h25, h26, h27, h28, h33, h35, h36, h42, h44, h47, h66, h77, h111, h125, h200, h201, h202, if_false]
  rfl
theorem frq_eq (id : Int) : (if id < 30 then frqL id else frqH id) = frm id := by
  rcases frm_at id with ⟨rfl, hf⟩ | ⟨rfl, hf⟩ | ⟨rfl, hf⟩ | ⟨rfl, hf⟩ | ⟨rfl, hf⟩ | ⟨rfl, hf⟩ | ⟨rfl, hf⟩ | ⟨rfl, hf⟩ | ⟨rfl, hf⟩ | ⟨rfl, hf⟩ | ⟨rfl, hf⟩ | ⟨rfl, hf⟩ | ⟨rfl, hf⟩ | ⟨rfl, hf⟩ | ⟨rfl, hf⟩ | ⟨rfl, hf⟩ | ⟨rfl, hf⟩ | ⟨rfl, hf⟩ | ⟨rfl, hf⟩ | ⟨rfl, hf⟩ | ⟨rfl, hf⟩ | ⟨rfl, hf⟩ | ⟨hf, h0, h1, h2, h4, h24, h25, h26, h27, h28, h33, h35, h36, h42, h44, h47, h66, h77, h111, h125, h200, h201, h202⟩
  · rw [hf]; rfl
  · rw [hf]; rfl
  · rw [hf]; rfl
  · rw [hf]; rfl
  · rw [hf]; rfl
  · rw [hf]; rfl
  · rw [hf]; rfl
  · rw [hf]; rfl
  · rw [hf]; rfl
  · rw [hf]; rfl
  · rw [hf]; rfl
  · rw [hf]; rfl
  · rw [hf]; rfl
  · rw [hf]; rfl
  · rw [hf]; rfl
  · rw [hf]; rfl
  · rw [hf]; rfl
  · rw [hf]; rfl
  · rw [hf]; rfl
  · rw [hf]; rfl
  · rw [hf]; rfl
  · rw [hf]; rfl
  · rw [hf]
    unfold frqL frqH
    simp only [h0, h1, h2, h4, h24, h25, h26, h27, h28, h33, h35, h36, h42, h44, h47, h66, h77, h111, h125, h200, h201, h202, if_false, ite_self]
set_option maxRecDepth 10000 in
theorem qparts_any (id : Int) (w : World) : Calls Try.prog 18 #[.int .i64 id] w (RetPt (frm id).2 w) := by
  rw [← frq_eq id]
  by_cases h : id < 30
  · rw [if_pos h]
    go_enter Try.func18, Try.ntmps18
    go_wp2_with fail
    go_fit (low_any id w)
    unfold RetPt
    rintro e w1 ⟨A, n, c, rfl, hr, hb⟩
    go_wp2
    go_ret
    exact ⟨A, n, c, rfl, hr, hb⟩
  · rw [if_neg h]
    go_enter Try.func18, Try.ntmps18
    go_wp2_with fail
    go_fit (high_any id w)
    unfold RetPt
    rintro e w1 ⟨A, n, c, rfl, hr, hb⟩
    go_wp2
    go_ret
    exact ⟨A, n, c, rfl, hr, hb⟩
set_option maxRecDepth 20000 in
set_option maxHeartbeats 8000000 in
theorem qname_any (id : Int) (w : World) : Calls Try.prog 16 #[.int .i64 id] w fun e w' => e = .returned (.string (frm id).1) ∧ w = w' := by
  rcases frm_at id with ⟨rfl, hf⟩ | ⟨rfl, hf⟩ | ⟨rfl, hf⟩ | ⟨rfl, hf⟩ | ⟨rfl, hf⟩ | ⟨rfl, hf⟩ | ⟨rfl, hf⟩ | ⟨rfl, hf⟩ | ⟨rfl, hf⟩ | ⟨rfl, hf⟩ | ⟨rfl, hf⟩ | ⟨rfl, hf⟩ | ⟨rfl, hf⟩ | ⟨rfl, hf⟩ | ⟨rfl, hf⟩ | ⟨rfl, hf⟩ | ⟨rfl, hf⟩ | ⟨rfl, hf⟩ | ⟨rfl, hf⟩ | ⟨rfl, hf⟩ | ⟨rfl, hf⟩ | ⟨rfl, hf⟩ | ⟨hf, h0, h1, h2, h4, h24, h25, h26, h27, h28, h33, h35, h36, h42, h44, h47, h66, h77, h111, h125, h200, h201, h202⟩
  · rw [hf]
    go_enter Try.func16, Try.ntmps16
    go_wp2
    go_ret
    exact ⟨rfl, rfl⟩
  · rw [hf]
    go_enter Try.func16, Try.ntmps16
    go_wp2
    go_ret
    exact ⟨rfl, rfl⟩
  · rw [hf]
    go_enter Try.func16, Try.ntmps16
    go_wp2
    go_ret
    exact ⟨rfl, rfl⟩
  · rw [hf]
    go_enter Try.func16, Try.ntmps16
    go_wp2
    go_ret
    exact ⟨rfl, rfl⟩
  · rw [hf]
    go_enter Try.func16, Try.ntmps16
    go_wp2
    go_ret
    exact ⟨rfl, rfl⟩
  · rw [hf]
    go_enter Try.func16, Try.ntmps16
    go_wp2
    go_ret
    exact ⟨rfl, rfl⟩
  · rw [hf]
    go_enter Try.func16, Try.ntmps16
    go_wp2
    go_ret
    exact ⟨rfl, rfl⟩
  · rw [hf]
    go_enter Try.func16, Try.ntmps16
    go_wp2
    go_ret
    exact ⟨rfl, rfl⟩
  · rw [hf]
    go_enter Try.func16, Try.ntmps16
    go_wp2
    go_ret
    exact ⟨rfl, rfl⟩
  · rw [hf]
    go_enter Try.func16, Try.ntmps16
    go_wp2
    go_ret
    exact ⟨rfl, rfl⟩
  · rw [hf]
    go_enter Try.func16, Try.ntmps16
    go_wp2
    go_ret
    exact ⟨rfl, rfl⟩
  · rw [hf]
    go_enter Try.func16, Try.ntmps16
    go_wp2
    go_ret
    exact ⟨rfl, rfl⟩
  · rw [hf]
    go_enter Try.func16, Try.ntmps16
    go_wp2
    go_ret
    exact ⟨rfl, rfl⟩
  · rw [hf]
    go_enter Try.func16, Try.ntmps16
    go_wp2
    go_ret
    exact ⟨rfl, rfl⟩
  · rw [hf]
    go_enter Try.func16, Try.ntmps16
    go_wp2
    go_ret
    exact ⟨rfl, rfl⟩
  · rw [hf]
    go_enter Try.func16, Try.ntmps16
    go_wp2
    go_ret
    exact ⟨rfl, rfl⟩
  · rw [hf]
    go_enter Try.func16, Try.ntmps16
    go_wp2
    go_ret
    exact ⟨rfl, rfl⟩
  · rw [hf]
    go_enter Try.func16, Try.ntmps16
    go_wp2
    go_ret
    exact ⟨rfl, rfl⟩
  · rw [hf]
    go_enter Try.func16, Try.ntmps16
    go_wp2
    go_ret
    exact ⟨rfl, rfl⟩
  · rw [hf]
    go_enter Try.func16, Try.ntmps16
    go_wp2
    go_ret
    exact ⟨rfl, rfl⟩
  · rw [hf]
    go_enter Try.func16, Try.ntmps16
    go_wp2
    go_ret
    exact ⟨rfl, rfl⟩
  · rw [hf]
    go_enter Try.func16, Try.ntmps16
    go_wp2
    go_ret
    exact ⟨rfl, rfl⟩
  · rw [hf]
    have q0 : (id == 0) = false := by rw [beq_eq_false_iff_ne]; exact h0
    have q1 : (id == 1) = false := by rw [beq_eq_false_iff_ne]; exact h1
    have q2 : (id == 2) = false := by rw [beq_eq_false_iff_ne]; exact h2
    have q4 : (id == 4) = false := by rw [beq_eq_false_iff_ne]; exact h4
    have q24 : (id == 24) = false := by rw [beq_eq_false_iff_ne]; exact h24
    have q25 : (id == 25) = false := by rw [beq_eq_false_iff_ne]; exact h25
    have q26 : (id == 26) = false := by rw [beq_eq_false_iff_ne]; exact h26
    have q27 : (id == 27) = false := by rw [beq_eq_false_iff_ne]; exact h27
    have q28 : (id == 28) = false := by rw [beq_eq_false_iff_ne]; exact h28
    have q33 : (id == 33) = false := by rw [beq_eq_false_iff_ne]; exact h33
    have q35 : (id == 35) = false := by rw [beq_eq_false_iff_ne]; exact h35
    have q36 : (id == 36) = false := by rw [beq_eq_false_iff_ne]; exact h36
    have q42 : (id == 42) = false := by rw [beq_eq_false_iff_ne]; exact h42
    have q44 : (id == 44) = false := by rw [beq_eq_false_iff_ne]; exact h44
    have q47 : (id == 47) = false := by rw [beq_eq_false_iff_ne]; exact h47
    have q66 : (id == 66) = false := by rw [beq_eq_false_iff_ne]; exact h66
    have q77 : (id == 77) = false := by rw [beq_eq_false_iff_ne]; exact h77
    have q111 : (id == 111) = false := by rw [beq_eq_false_iff_ne]; exact h111
    have q125 : (id == 125) = false := by rw [beq_eq_false_iff_ne]; exact h125
    have q200 : (id == 200) = false := by rw [beq_eq_false_iff_ne]; exact h200
    have q201 : (id == 201) = false := by rw [beq_eq_false_iff_ne]; exact h201
    have q202 : (id == 202) = false := by rw [beq_eq_false_iff_ne]; exact h202
    go_enter Try.func16, Try.ntmps16
    go_wp2
    go_ret
    exact ⟨rfl, rfl⟩

end Go.Proofs.Ytonejdjhdjckjaa
