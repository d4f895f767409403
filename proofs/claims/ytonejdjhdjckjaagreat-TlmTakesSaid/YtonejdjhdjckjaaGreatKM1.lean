/-
  Several texts in one: Sch5 Sch6 Sch7 StbS Sch16 Sch8 Sch9.
-/
import Derived.Test.YtonejdjhdjckjaaGreatSch4L
import Derived.Test.YtonejdjhdjckjaaGreatSch4H
import Derived.Test.YtonejdjhdjckjaaGreatSch3
import Derived.Test.YtonejdjhdjckjaaGreatSchSame
import Derived.Test.YtonejdjhdjckjaaGreatStbP
import Derived.Test.YtonejdjhdjckjaaGreatFldRow
/-
  the document's Parts and Name walked (printed by gen_sch4.py).
-/
set_option linter.unusedSimpArgs false
set_option linter.unusedVariables false
namespace Go.Proofs.YtonejdjhdjckjaaGreat
open Go.RowKit NumLaw
attribute [local go_sem] Addr.add_mid

theorem frm_at (id : Int) : (id = 0 ∧ frm id = fm0) ∨ (id = 1 ∧ frm id = fm1) ∨ (id = 2 ∧ frm id = fm2) ∨ (id = 4 ∧ frm id = fm4) ∨ (id = 24 ∧ frm id = fm24) ∨ (id = 25 ∧ frm id = fm25) ∨ (id = 26 ∧ frm id = fm26) ∨ (id = 27 ∧ frm id = fm27) ∨ (id = 28 ∧ frm id = fm28) ∨ (id = 33 ∧ frm id = fm33) ∨ (id = 35 ∧ frm id = fm35) ∨ (id = 36 ∧ frm id = fm36) ∨ (id = 42 ∧ frm id = fm42) ∨ (id = 44 ∧ frm id = fm44) ∨ (id = 47 ∧ frm id = fm47) ∨ (id = 66 ∧ frm id = fm66) ∨ (id = 77 ∧ frm id = fm77) ∨ (id = 111 ∧ frm id = fm111) ∨ (id = 125 ∧ frm id = fm125) ∨ (id = 200 ∧ frm id = fm200) ∨ (id = 201 ∧ frm id = fm201) ∨ (id = 202 ∧ frm id = fm202) ∨ (frm id = fmNone ∧ ¬ id = 0 ∧ ¬ id = 1 ∧ ¬ id = 2 ∧ ¬ id = 4 ∧ ¬ id = 24 ∧ ¬ id = 25 ∧ ¬ id = 26 ∧ ¬ id = 27 ∧ ¬ id = 28 ∧ ¬ id = 33 ∧ ¬ id = 35 ∧ ¬ id = 36 ∧ ¬ id = 42 ∧ ¬ id = 44 ∧ ¬ id = 47 ∧ ¬ id = 66 ∧ ¬ id = 77 ∧ ¬ id = 111 ∧ ¬ id = 125 ∧ ¬ id = 200 ∧ ¬ id = 201 ∧ ¬ id = 202) := by
  by_cases h0 : id = 0
  · subst h0
    exact (.inl ⟨rfl, by rfl⟩)
  by_cases h1 : id = 1
  · subst h1
    exact .inr ((.inl ⟨rfl, by rfl⟩))
  by_cases h2 : id = 2
  · subst h2
    exact .inr (.inr ((.inl ⟨rfl, by rfl⟩)))
  by_cases h4 : id = 4
  · subst h4
    exact .inr (.inr (.inr ((.inl ⟨rfl, by rfl⟩))))
  by_cases h24 : id = 24
  · subst h24
    exact .inr (.inr (.inr (.inr ((.inl ⟨rfl, by rfl⟩)))))
  by_cases h25 : id = 25
  · subst h25
    exact .inr (.inr (.inr (.inr (.inr ((.inl ⟨rfl, by rfl⟩))))))
  by_cases h26 : id = 26
  · subst h26
    exact .inr (.inr (.inr (.inr (.inr (.inr ((.inl ⟨rfl, by rfl⟩)))))))
  by_cases h27 : id = 27
  · subst h27
    exact .inr (.inr (.inr (.inr (.inr (.inr (.inr ((.inl ⟨rfl, by rfl⟩))))))))
  by_cases h28 : id = 28
  · subst h28
    exact .inr (.inr (.inr (.inr (.inr (.inr (.inr (.inr ((.inl ⟨rfl, by rfl⟩)))))))))
  by_cases h33 : id = 33
  · subst h33
    exact .inr (.inr (.inr (.inr (.inr (.inr (.inr (.inr (.inr ((.inl ⟨rfl, by rfl⟩))))))))))
  by_cases h35 : id = 35
  · subst h35
    exact .inr (.inr (.inr (.inr (.inr (.inr (.inr (.inr (.inr (.inr ((.inl ⟨rfl, by rfl⟩)))))))))))
  by_cases h36 : id = 36
  · subst h36
    exact .inr (.inr (.inr (.inr (.inr (.inr (.inr (.inr (.inr (.inr (.inr ((.inl ⟨rfl, by rfl⟩))))))))))))
  by_cases h42 : id = 42
  · subst h42
    exact .inr (.inr (.inr (.inr (.inr (.inr (.inr (.inr (.inr (.inr (.inr (.inr ((.inl ⟨rfl, by rfl⟩)))))))))))))
  by_cases h44 : id = 44
  · subst h44
    exact .inr (.inr (.inr (.inr (.inr (.inr (.inr (.inr (.inr (.inr (.inr (.inr (.inr ((.inl ⟨rfl, by rfl⟩))))))))))))))
  by_cases h47 : id = 47
  · subst h47
    exact .inr (.inr (.inr (.inr (.inr (.inr (.inr (.inr (.inr (.inr (.inr (.inr (.inr (.inr ((.inl ⟨rfl, by rfl⟩)))))))))))))))
  by_cases h66 : id = 66
  · subst h66
    exact .inr (.inr (.inr (.inr (.inr (.inr (.inr (.inr (.inr (.inr (.inr (.inr (.inr (.inr (.inr ((.inl ⟨rfl, by rfl⟩))))))))))))))))
  by_cases h77 : id = 77
  · subst h77
    exact .inr (.inr (.inr (.inr (.inr (.inr (.inr (.inr (.inr (.inr (.inr (.inr (.inr (.inr (.inr (.inr ((.inl ⟨rfl, by rfl⟩)))))))))))))))))
  by_cases h111 : id = 111
  · subst h111
    exact .inr (.inr (.inr (.inr (.inr (.inr (.inr (.inr (.inr (.inr (.inr (.inr (.inr (.inr (.inr (.inr (.inr ((.inl ⟨rfl, by rfl⟩))))))))))))))))))
  by_cases h125 : id = 125
  · subst h125
    exact .inr (.inr (.inr (.inr (.inr (.inr (.inr (.inr (.inr (.inr (.inr (.inr (.inr (.inr (.inr (.inr (.inr (.inr ((.inl ⟨rfl, by rfl⟩)))))))))))))))))))
  by_cases h200 : id = 200
  · subst h200
    exact .inr (.inr (.inr (.inr (.inr (.inr (.inr (.inr (.inr (.inr (.inr (.inr (.inr (.inr (.inr (.inr (.inr (.inr (.inr ((.inl ⟨rfl, by rfl⟩))))))))))))))))))))
  by_cases h201 : id = 201
  · subst h201
    exact .inr (.inr (.inr (.inr (.inr (.inr (.inr (.inr (.inr (.inr (.inr (.inr (.inr (.inr (.inr (.inr (.inr (.inr (.inr (.inr ((.inl ⟨rfl, by rfl⟩)))))))))))))))))))))
  by_cases h202 : id = 202
  · subst h202
    exact .inr (.inr (.inr (.inr (.inr (.inr (.inr (.inr (.inr (.inr (.inr (.inr (.inr (.inr (.inr (.inr (.inr (.inr (.inr (.inr (.inr ((.inl ⟨rfl, by rfl⟩))))))))))))))))))))))
  refine .inr (.inr (.inr (.inr (.inr (.inr (.inr (.inr (.inr (.inr (.inr (.inr (.inr (.inr (.inr (.inr (.inr (.inr (.inr (.inr (.inr ((.inr ⟨?_, h0, h1, h2, h4, h24, h25, h26, h27, h28, h33, h35, h36, h42, h44, h47, h66, h77, h111, h125, h200, h201, h202⟩))))))))))))))))))))))
  unfold frm frmS frmN frmA frmO
  simp only [h0, h1, h2, h4, h24, h25, h26, h27, h28, h33, h35, h36, h42, h44, h47, h66, h77, h111, h125, h200, h201, h202, if_false]
  rfl
theorem frq_eq (id : Int) : (if id < 30 then frqL id else frqH id) = frm id := by
  rcases frm_at id with ⟨rfl, hf⟩ | ⟨rfl, hf⟩ | ⟨rfl, hf⟩ | ⟨rfl, hf⟩ | ⟨rfl, hf⟩ | ⟨rfl, hf⟩ | ⟨rfl, hf⟩ | ⟨rfl, hf⟩ | ⟨rfl, hf⟩ | ⟨rfl, hf⟩ | ⟨rfl, hf⟩ | ⟨rfl, hf⟩ | ⟨rfl, hf⟩ | ⟨rfl, hf⟩ | ⟨rfl, hf⟩ | ⟨rfl, hf⟩ | ⟨rfl, hf⟩ | ⟨rfl, hf⟩ | ⟨rfl, hf⟩ | ⟨rfl, hf⟩ | ⟨rfl, hf⟩ | ⟨rfl, hf⟩ | ⟨hf, h0, h1, h2, h4, h24, h25, h26, h27, h28, h33, h35, h36, h42, h44, h47, h66, h77, h111, h125, h200, h201, h202⟩
  · rw [hf]; rfl
  · rw [hf]; rfl
  · rw [hf]; rfl
  · rw [hf]; rfl
  · rw [hf]; rfl
  · rw [hf]; rfl
  · rw [hf]; rfl
  · rw [hf]; rfl
  · rw [hf]; rfl
  · rw [hf]; rfl
  · rw [hf]; rfl
  · rw [hf]; rfl
  · rw [hf]; rfl
  · rw [hf]; rfl
  · rw [hf]; rfl
  · rw [hf]; rfl
  · rw [hf]; rfl
  · rw [hf]; rfl
  · rw [hf]; rfl
  · rw [hf]; rfl
  · rw [hf]; rfl
  · rw [hf]; rfl
  · rw [hf]
    unfold frqL frqH
    simp only [h0, h1, h2, h4, h24, h25, h26, h27, h28, h33, h35, h36, h42, h44, h47, h66, h77, h111, h125, h200, h201, h202, if_false, ite_self]
set_option maxRecDepth 10000 in
theorem qparts_any (id : Int) (w : World) : Calls Tryz.prog 29 #[.int .i64 id] w (RetPt (frm id).2 w) := by
  rw [← frq_eq id]
  by_cases h : id < 30
  · rw [if_pos h]
    go_enter Tryz.func29, Tryz.ntmps29
    go_wp2_with fail
    go_fit (low_any id w)
    unfold RetPt
    rintro e w1 ⟨A, n, c, rfl, hr, hb⟩
    go_wp2
    go_ret
    exact ⟨A, n, c, rfl, hr, hb⟩
  · rw [if_neg h]
    go_enter Tryz.func29, Tryz.ntmps29
    go_wp2_with fail
    go_fit (high_any id w)
    unfold RetPt
    rintro e w1 ⟨A, n, c, rfl, hr, hb⟩
    go_wp2
    go_ret
    exact ⟨A, n, c, rfl, hr, hb⟩
set_option maxRecDepth 20000 in
set_option maxHeartbeats 8000000 in
theorem qname_any (id : Int) (w : World) : Calls Tryz.prog 65 #[.int .i64 id] w fun e w' => e = .returned (.string (frm id).1) ∧ w = w' := by
  rcases frm_at id with ⟨rfl, hf⟩ | ⟨rfl, hf⟩ | ⟨rfl, hf⟩ | ⟨rfl, hf⟩ | ⟨rfl, hf⟩ | ⟨rfl, hf⟩ | ⟨rfl, hf⟩ | ⟨rfl, hf⟩ | ⟨rfl, hf⟩ | ⟨rfl, hf⟩ | ⟨rfl, hf⟩ | ⟨rfl, hf⟩ | ⟨rfl, hf⟩ | ⟨rfl, hf⟩ | ⟨rfl, hf⟩ | ⟨rfl, hf⟩ | ⟨rfl, hf⟩ | ⟨rfl, hf⟩ | ⟨rfl, hf⟩ | ⟨rfl, hf⟩ | ⟨rfl, hf⟩ | ⟨rfl, hf⟩ | ⟨hf, h0, h1, h2, h4, h24, h25, h26, h27, h28, h33, h35, h36, h42, h44, h47, h66, h77, h111, h125, h200, h201, h202⟩
  · rw [hf]
    go_enter Tryz.func65, Tryz.ntmps65
    go_wp2
    go_ret
    exact ⟨rfl, rfl⟩
  · rw [hf]
    go_enter Tryz.func65, Tryz.ntmps65
    go_wp2
    go_ret
    exact ⟨rfl, rfl⟩
  · rw [hf]
    go_enter Tryz.func65, Tryz.ntmps65
    go_wp2
    go_ret
    exact ⟨rfl, rfl⟩
  · rw [hf]
    go_enter Tryz.func65, Tryz.ntmps65
    go_wp2
    go_ret
    exact ⟨rfl, rfl⟩
  · rw [hf]
    go_enter Tryz.func65, Tryz.ntmps65
    go_wp2
    go_ret
    exact ⟨rfl, rfl⟩
  · rw [hf]
    go_enter Tryz.func65, Tryz.ntmps65
    go_wp2
    go_ret
    exact ⟨rfl, rfl⟩
  · rw [hf]
    go_enter Tryz.func65, Tryz.ntmps65
    go_wp2
    go_ret
    exact ⟨rfl, rfl⟩
  · rw [hf]
    go_enter Tryz.func65, Tryz.ntmps65
    go_wp2
    go_ret
    exact ⟨rfl, rfl⟩
  · rw [hf]
    go_enter Tryz.func65, Tryz.ntmps65
    go_wp2
    go_ret
    exact ⟨rfl, rfl⟩
  · rw [hf]
    go_enter Tryz.func65, Tryz.ntmps65
    go_wp2
    go_ret
    exact ⟨rfl, rfl⟩
  · rw [hf]
    go_enter Tryz.func65, Tryz.ntmps65
    go_wp2
    go_ret
    exact ⟨rfl, rfl⟩
  · rw [hf]
    go_enter Tryz.func65, Tryz.ntmps65
    go_wp2
    go_ret
    exact ⟨rfl, rfl⟩
  · rw [hf]
    go_enter Tryz.func65, Tryz.ntmps65
    go_wp2
    go_ret
    exact ⟨rfl, rfl⟩
  · rw [hf]
    go_enter Tryz.func65, Tryz.ntmps65
    go_wp2
    go_ret
    exact ⟨rfl, rfl⟩
  · rw [hf]
    go_enter Tryz.func65, Tryz.ntmps65
    go_wp2
    go_ret
    exact ⟨rfl, rfl⟩
  · rw [hf]
    go_enter Tryz.func65, Tryz.ntmps65
    go_wp2
    go_ret
    exact ⟨rfl, rfl⟩
  · rw [hf]
    go_enter Tryz.func65, Tryz.ntmps65
    go_wp2
    go_ret
    exact ⟨rfl, rfl⟩
  · rw [hf]
    go_enter Tryz.func65, Tryz.ntmps65
    go_wp2
    go_ret
    exact ⟨rfl, rfl⟩
  · rw [hf]
    go_enter Tryz.func65, Tryz.ntmps65
    go_wp2
    go_ret
    exact ⟨rfl, rfl⟩
  · rw [hf]
    go_enter Tryz.func65, Tryz.ntmps65
    go_wp2
    go_ret
    exact ⟨rfl, rfl⟩
  · rw [hf]
    go_enter Tryz.func65, Tryz.ntmps65
    go_wp2
    go_ret
    exact ⟨rfl, rfl⟩
  · rw [hf]
    go_enter Tryz.func65, Tryz.ntmps65
    go_wp2
    go_ret
    exact ⟨rfl, rfl⟩
  · rw [hf]
    have q0 : (id == 0) = false := by rw [beq_eq_false_iff_ne]; exact h0
    have q1 : (id == 1) = false := by rw [beq_eq_false_iff_ne]; exact h1
    have q2 : (id == 2) = false := by rw [beq_eq_false_iff_ne]; exact h2
    have q4 : (id == 4) = false := by rw [beq_eq_false_iff_ne]; exact h4
    have q24 : (id == 24) = false := by rw [beq_eq_false_iff_ne]; exact h24
    have q25 : (id == 25) = false := by rw [beq_eq_false_iff_ne]; exact h25
    have q26 : (id == 26) = false := by rw [beq_eq_false_iff_ne]; exact h26
    have q27 : (id == 27) = false := by rw [beq_eq_false_iff_ne]; exact h27
    have q28 : (id == 28) = false := by rw [beq_eq_false_iff_ne]; exact h28
    have q33 : (id == 33) = false := by rw [beq_eq_false_iff_ne]; exact h33
    have q35 : (id == 35) = false := by rw [beq_eq_false_iff_ne]; exact h35
    have q36 : (id == 36) = false := by rw [beq_eq_false_iff_ne]; exact h36
    have q42 : (id == 42) = false := by rw [beq_eq_false_iff_ne]; exact h42
    have q44 : (id == 44) = false := by rw [beq_eq_false_iff_ne]; exact h44
    have q47 : (id == 47) = false := by rw [beq_eq_false_iff_ne]; exact h47
    have q66 : (id == 66) = false := by rw [beq_eq_false_iff_ne]; exact h66
    have q77 : (id == 77) = false := by rw [beq_eq_false_iff_ne]; exact h77
    have q111 : (id == 111) = false := by rw [beq_eq_false_iff_ne]; exact h111
    have q125 : (id == 125) = false := by rw [beq_eq_false_iff_ne]; exact h125
    have q200 : (id == 200) = false := by rw [beq_eq_false_iff_ne]; exact h200
    have q201 : (id == 201) = false := by rw [beq_eq_false_iff_ne]; exact h201
    have q202 : (id == 202) = false := by rw [beq_eq_false_iff_ne]; exact h202
    go_enter Tryz.func65, Tryz.ntmps65
    go_wp2
    go_ret
    exact ⟨rfl, rfl⟩

end Go.Proofs.YtonejdjhdjckjaaGreat

/-
  Same, sized, numbers, Width's step walked (printed by gen_sch6.py).
-/
set_option linter.unusedSimpArgs false
set_option linter.unusedVariables false
namespace Go.Proofs.YtonejdjhdjckjaaGreat
open Go.RowKit NumLaw
attribute [local go_sem] Addr.add_mid
attribute [-go_sem] run_eql_struct run_neq_struct

theorem takeP_ne {α : Type} {L L' : List α} {k : Nat} {x y : α} (hx : L[k]? = some x) (hy : L'[k]? = some y) (h : ¬ x = y) : ¬ L = L' := fun e => h (by rw [e, hy] at hx; injection hx with hx; exact hx.symm)
theorem mx1_int (m : Int) : (if 1 > m then (1 : Int) else m) = (mx1 m : Int) := by
  unfold mx1
  by_cases h : m < 1
  · rw [if_pos h, if_pos (show 1 > m from h)]; rfl
  · rw [if_neg h, if_neg (show ¬ 1 > m from h)]; omega
theorem numbers_any (p : PtT) (w : World) : Calls Tryz.prog 45 #[.agg (ptC p).toArray] w fun e w' => e = .returned (.int .i64 (mx1 p.mn : Int)) ∧ Below w.heap.size w w' := by
  obtain ⟨s, z, g, m⟩ := p
  have hb := (Below.refl w.heap.size w).alloc (Nat.le_refl _) (.cells #[.string s, .int .i64 z, .bool g, .int .i64 m] 71)
  have a0 := heap_alloc_new w (.cells #[.string s, .int .i64 z, .bool g, .int .i64 m] 71)
  have k0 := blk_cell (i := 3) (v := .int .i64 m) a0 rfl
  have hm := mx1_int m
  show Calls _ _ #[.agg #[.string s, .int .i64 z, .bool g, .int .i64 m]] _ _
  have Hm := Lib.hid hm
  clear hm
  by_cases hc : m < 1
  · have hv : (mx1 m : Int) = 1 := by rw [← Hm.out, if_pos (show 1 > m from hc)]
    have Hv := Lib.hid hv
    clear hv
    go_enter Tryz.func45, Tryz.ntmps45
    go_wp2
    go_ret
    exact ⟨by show _ = Ending.returned (.int .i64 (mx1 m : Int)); rw [Hv.out]; rfl, hb⟩
  · have hv : (mx1 m : Int) = m := by rw [← Hm.out, if_neg (show ¬ 1 > m from hc)]
    have Hv := Lib.hid hv
    clear hv
    go_enter Tryz.func45, Tryz.ntmps45
    go_wp2
    go_ret
    exact ⟨by show _ = Ending.returned (.int .i64 (mx1 m : Int)); rw [Hv.out]; rfl, hb⟩
set_option maxRecDepth 10000 in
theorem width1_any (p : PtT) (hq : szQ p.sz) (hm : mx1 p.mn ≤ 1000) (w : World) : Calls Tryz.prog 44 #[.agg (ptC p).toArray] w fun e w' => e = .returned (.int .i64 ((p.sz.toNat * mx1 p.mn : Nat) : Int)) ∧ Below w.heap.size w w' := by
  have hnum := fun w => numbers_any p w
  obtain ⟨s, z, g, m⟩ := p
  have hq : szQ z := hq
  have hm : mx1 m ≤ 1000 := hm
  obtain ⟨zn, hzn⟩ : ∃ zn : Nat, z = zn := ⟨z.toNat, by rcases hq with rfl | rfl | rfl | rfl <;> rfl⟩
  have hz8 : zn ≤ 8 := by rcases hq with h | h | h | h <;> omega
  subst hzn
  obtain ⟨mm, hmm⟩ : ∃ v, v = mx1 m := ⟨_, rfl⟩
  have hnum2 : ∀ w, Calls Tryz.prog 45 #[.agg (ptC ⟨s, (zn : Int), g, m⟩).toArray] w fun e w' => e = .returned (.int .i64 (mm : Int)) ∧ Below w.heap.size w w' := fun w => by rw [hmm]; exact hnum w
  show Calls _ _ #[.agg #[.string s, .int .i64 (zn : Int), .bool g, .int .i64 m]] _ (fun e w' => e = .returned (.int .i64 ((zn * mx1 m : Nat) : Int)) ∧ Below w.heap.size w w')
  rw [← hmm] at hm ⊢
  have hmul : zn * mm ≤ 8000 := Nat.le_trans (Nat.mul_le_mul hz8 hm) (by omega)
  have Hnum := Lib.hid hnum2
  have hb := (Below.refl w.heap.size w).alloc (Nat.le_refl _) (.cells #[.string s, .int .i64 (zn : Int), .bool g, .int .i64 m] 71)
  have a0 := heap_alloc_new w (.cells #[.string s, .int .i64 (zn : Int), .bool g, .int .i64 m] 71)
  have hww : IntKind.i64.wrap ((zn : Int) * (mm : Int)) = ((zn * mm : Nat) : Int) := by
    rw [← Int.natCast_mul]
    generalize zn * mm = d at *
    exact IntWalk.i64_in _ (by omega)
  have Hww := Lib.hid hww
  clear hnum hnum2 hmm hq hmul hww
  go_enter Tryz.func44, Tryz.ntmps44
  go_wp2_with fail
  generalize (w.alloc (.cells #[.string s, .int .i64 (zn : Int), .bool g, .int .i64 m] 71)) = w1 at *
  have hlt := blk_lt a0
  refine Ord.region_ (fun w' => Below w1.heap.size w1 w') false [] (by kernel_rfl) (by kernel_rfl) (Below.refl _ _).drew ?_
  have hS : Below w1.heap.size w1 w1.drew := (Below.refl _ _).drew
  generalize w1.drew = wd at *
  have hrow : w1.rangeAt w.heap.size 0 (ptC ⟨s, (zn : Int), g, m⟩) := fun j v hv => blk_cell (i := 0 + j) a0 (by rw [Nat.zero_add]; simpa [ptC] using hv)
  have hat : ∀ w', Below w1.heap.size w1 w' → w'.rangeAt w.heap.size 0 (ptC ⟨s, (zn : Int), g, m⟩) := fun w' hb' j v hv => (hb'.cell (p := ⟨w.heap.size, 0 + j, none⟩) hlt).trans (hrow j v hv)
  have hat1 : ∀ w', Below w1.heap.size w1 w' → w'.cell? ⟨w.heap.size, 1, none⟩ = some (.int .i64 (zn : Int)) := fun w' hb' => hat w' hb' 1 _ rfl
  ((with_reducible refine Ord.e_p (v := ?_) ?_ ?_ ?_ ?_); rotate_left; (· exact rfl); (· kernel_rfl); (· intro w2; go_simp; try with_reducible rfl))
  (try simp only [Act.put, List.setIfInBounds_toArray, List.set_cons_zero, List.set_cons_succ])
  refine Ord.e_loadS (ad := ⟨w.heap.size, 1, none⟩) (v := .int .i64 (zn : Int)) Tryz.underlying3 rfl (fun w' hS => hat1 w' hS) hS rfl (by kernel_rfl) ?_
  (try simp only [Act.put, List.setIfInBounds_toArray, List.set_cons_zero, List.set_cons_succ])
  refine Ord.e_rowS (cs := ptC ⟨s, (zn : Int), g, m⟩) (b := w.heap.size) (o := 0) Tryz.underlying71 rfl (by kernel_rfl) rfl (by simp [ptC]) (fun w' hS => hat w' hS) hS (by kernel_rfl) ?_
  (try simp only [Act.put, List.setIfInBounds_toArray, List.set_cons_zero, List.set_cons_succ])
  refine Ord.e_x rfl (by kernel_rfl) ?_
  go_wp2_with fail
  go_fit (Hnum.out wd)
  rintro e w2 ⟨rfl, hbx⟩
  replace hS := bnx hS hbx
  go_wp2_with fail
  refine Ord.Seg.go hS (fun h => by cases h) ?_
  (try simp only [Act.put, List.setIfInBounds_toArray, List.set_cons_zero, List.set_cons_succ])
  have hww := Hww.out
  refine Ord.e_p (v := .int .i64 ((zn * mm : Nat) : Int)) rfl (by kernel_rfl) (fun w2 => by go_simp) ?_
  (try simp only [Act.put, List.setIfInBounds_toArray, List.set_cons_zero, List.set_cons_succ])
  clear hww
  ((with_reducible refine Ord.e_p (v := ?_) ?_ ?_ ?_ ?_); rotate_left; (· exact rfl); (· kernel_rfl); (· intro w2; go_simp; try with_reducible rfl))
  (try simp only [Act.put, List.setIfInBounds_toArray, List.set_cons_zero, List.set_cons_succ])
  refine Ord.e_nil ?_
  have hbf := bnx hb hS
  go_wp2
  go_ret
  exact ⟨rfl, hbf⟩

end Go.Proofs.YtonejdjhdjckjaaGreat

/-
  Ids, Count, Width walked (printed by gen_sch6.py).
-/
set_option linter.unusedSimpArgs false
set_option linter.unusedVariables false
namespace Go.Proofs.YtonejdjhdjckjaaGreat
open Go.RowKit NumLaw
attribute [local go_sem] Addr.add_mid
attribute [-go_sem] run_eql_struct run_neq_struct

/-- Parts of messages: sizes that a field may have, not too many numbers. -/
def PtN (L : List PtT) : Prop := (∀ p ∈ L, szQ p.sz) ∧ L.length ≤ 100 ∧ ∀ p ∈ L, mx1 p.mn ≤ 100
theorem sum_le (f : PtT → Nat) (b : Nat) : ∀ L : List PtT, (∀ p ∈ L, f p ≤ b) → (L.map f).foldl (· + ·) 0 ≤ b * L.length
  | [], _ => Nat.zero_le _
  | p :: L, h => by
    have ih := sum_le f b L (fun q hq => h q (List.mem_cons_of_mem _ hq))
    have hp := h p List.mem_cons_self
    rw [List.map_cons, List.foldl_cons, foldl_add0, List.length_cons, Nat.mul_succ]
    omega
theorem szQ_le {z : Int} (h : szQ z) : z.toNat ≤ 8 := by rcases h with rfl | rfl | rfl | rfl <;> decide
theorem wd_bd (L : List PtT) (h : PtN L) (k : Nat) : wdS (L.take k) ≤ 8000 * 100 := by
  have := sum_le (fun p => p.sz.toNat * mx1 p.mn) 8000 (L.take k) (fun p hp => by
    have hp := List.mem_of_mem_take hp
    exact Nat.le_trans (Nat.mul_le_mul (szQ_le (h.1 p hp)) (h.2.2 p hp)) (by omega))
  unfold wdS
  have hl : (L.take k).length ≤ 100 := by rw [List.length_take]; have := h.2.1; omega
  have := Nat.mul_le_mul_left 8000 hl
  omega
theorem cnt_bd (L : List PtT) (h : PtN L) (k : Nat) : cntS (L.take k) ≤ 8000 * 100 := by
  have := sum_le (fun p => mx1 p.mn) 100 (L.take k) (fun p hp => h.2.2 p (List.mem_of_mem_take hp))
  unfold cntS
  have hl : (L.take k).length ≤ 100 := by rw [List.length_take]; have := h.2.1; omega
  have := Nat.mul_le_mul_left 100 hl
  omega
theorem frm_n (id : Int) : PtN (frm id).2 := by
  have hN : ∀ L : List PtT, (L.all fun p => (p.sz == 8 || p.sz == 4 || p.sz == 2 || p.sz == 1) && decide (mx1 p.mn ≤ 100)) = true → L.length ≤ 100 → PtN L := fun L h hl => by
    rw [List.all_eq_true] at h
    refine ⟨fun p hp => ?_, hl, fun p hp => ?_⟩
    · have := h p hp
      simp only [Bool.and_eq_true, Bool.or_eq_true, beq_iff_eq] at this
      rcases this.1 with ((h | h) | h) | h
      · exact .inl h
      · exact .inr (.inl h)
      · exact .inr (.inr (.inl h))
      · exact .inr (.inr (.inr h))
    · have := h p hp
      simp only [Bool.and_eq_true, decide_eq_true_eq] at this
      exact this.2
  rcases frm_at id with ⟨_, hf⟩ | ⟨_, hf⟩ | ⟨_, hf⟩ | ⟨_, hf⟩ | ⟨_, hf⟩ | ⟨_, hf⟩ | ⟨_, hf⟩ | ⟨_, hf⟩ | ⟨_, hf⟩ | ⟨_, hf⟩ | ⟨_, hf⟩ | ⟨_, hf⟩ | ⟨_, hf⟩ | ⟨_, hf⟩ | ⟨_, hf⟩ | ⟨_, hf⟩ | ⟨_, hf⟩ | ⟨_, hf⟩ | ⟨_, hf⟩ | ⟨_, hf⟩ | ⟨_, hf⟩ | ⟨_, hf⟩ | ⟨hf, _⟩
  all_goals
    rw [hf]
    exact hN _ (by decide) (by decide)
def isId (k : Nat) : Bool := [0, 1, 2, 4, 24, 25, 26, 27, 28, 33, 35, 36, 42, 44, 47, 66, 77, 111, 125, 200, 201, 202].contains k
def idsTo (k : Nat) : List Nat := (List.range k).filter isId
def idsN : List Nat := [0, 1, 2, 4, 24, 25, 26, 27, 28, 33, 35, 36, 42, 44, 47, 66, 77, 111, 125, 200, 201, 202]
theorem idsTo_all : idsTo 256 = idsN := by decide +kernel
theorem isId_frm (k : Nat) : (frm (k : Int)).1.toList.isEmpty = !isId k := by
  have hne : ∀ (m : Nat) (p : FmT), k = m → isId m = true → ¬ p.1 = ⟨#[]⟩ → frm (k : Int) = p → (frm (k : Int)).1.toList.isEmpty = !isId k := fun m p hk hi hp hf => by
    rw [hf, ba_full hp, hk, hi]; rfl
  rcases frm_at (k : Int) with ⟨h, hf⟩ | ⟨h, hf⟩ | ⟨h, hf⟩ | ⟨h, hf⟩ | ⟨h, hf⟩ | ⟨h, hf⟩ | ⟨h, hf⟩ | ⟨h, hf⟩ | ⟨h, hf⟩ | ⟨h, hf⟩ | ⟨h, hf⟩ | ⟨h, hf⟩ | ⟨h, hf⟩ | ⟨h, hf⟩ | ⟨h, hf⟩ | ⟨h, hf⟩ | ⟨h, hf⟩ | ⟨h, hf⟩ | ⟨h, hf⟩ | ⟨h, hf⟩ | ⟨h, hf⟩ | ⟨h, hf⟩ | ⟨hf, h0, h1, h2, h4, h24, h25, h26, h27, h28, h33, h35, h36, h42, h44, h47, h66, h77, h111, h125, h200, h201, h202⟩
  · exact hne 0 fm0 (by omega) (by decide) (by intro h2; exact absurd (congrArg (fun b : ByteArray => b.data.size) h2) (by decide)) hf
  · exact hne 1 fm1 (by omega) (by decide) (by intro h2; exact absurd (congrArg (fun b : ByteArray => b.data.size) h2) (by decide)) hf
  · exact hne 2 fm2 (by omega) (by decide) (by intro h2; exact absurd (congrArg (fun b : ByteArray => b.data.size) h2) (by decide)) hf
  · exact hne 4 fm4 (by omega) (by decide) (by intro h2; exact absurd (congrArg (fun b : ByteArray => b.data.size) h2) (by decide)) hf
  · exact hne 24 fm24 (by omega) (by decide) (by intro h2; exact absurd (congrArg (fun b : ByteArray => b.data.size) h2) (by decide)) hf
  · exact hne 25 fm25 (by omega) (by decide) (by intro h2; exact absurd (congrArg (fun b : ByteArray => b.data.size) h2) (by decide)) hf
  · exact hne 26 fm26 (by omega) (by decide) (by intro h2; exact absurd (congrArg (fun b : ByteArray => b.data.size) h2) (by decide)) hf
  · exact hne 27 fm27 (by omega) (by decide) (by intro h2; exact absurd (congrArg (fun b : ByteArray => b.data.size) h2) (by decide)) hf
  · exact hne 28 fm28 (by omega) (by decide) (by intro h2; exact absurd (congrArg (fun b : ByteArray => b.data.size) h2) (by decide)) hf
  · exact hne 33 fm33 (by omega) (by decide) (by intro h2; exact absurd (congrArg (fun b : ByteArray => b.data.size) h2) (by decide)) hf
  · exact hne 35 fm35 (by omega) (by decide) (by intro h2; exact absurd (congrArg (fun b : ByteArray => b.data.size) h2) (by decide)) hf
  · exact hne 36 fm36 (by omega) (by decide) (by intro h2; exact absurd (congrArg (fun b : ByteArray => b.data.size) h2) (by decide)) hf
  · exact hne 42 fm42 (by omega) (by decide) (by intro h2; exact absurd (congrArg (fun b : ByteArray => b.data.size) h2) (by decide)) hf
  · exact hne 44 fm44 (by omega) (by decide) (by intro h2; exact absurd (congrArg (fun b : ByteArray => b.data.size) h2) (by decide)) hf
  · exact hne 47 fm47 (by omega) (by decide) (by intro h2; exact absurd (congrArg (fun b : ByteArray => b.data.size) h2) (by decide)) hf
  · exact hne 66 fm66 (by omega) (by decide) (by intro h2; exact absurd (congrArg (fun b : ByteArray => b.data.size) h2) (by decide)) hf
  · exact hne 77 fm77 (by omega) (by decide) (by intro h2; exact absurd (congrArg (fun b : ByteArray => b.data.size) h2) (by decide)) hf
  · exact hne 111 fm111 (by omega) (by decide) (by intro h2; exact absurd (congrArg (fun b : ByteArray => b.data.size) h2) (by decide)) hf
  · exact hne 125 fm125 (by omega) (by decide) (by intro h2; exact absurd (congrArg (fun b : ByteArray => b.data.size) h2) (by decide)) hf
  · exact hne 200 fm200 (by omega) (by decide) (by intro h2; exact absurd (congrArg (fun b : ByteArray => b.data.size) h2) (by decide)) hf
  · exact hne 201 fm201 (by omega) (by decide) (by intro h2; exact absurd (congrArg (fun b : ByteArray => b.data.size) h2) (by decide)) hf
  · exact hne 202 fm202 (by omega) (by decide) (by intro h2; exact absurd (congrArg (fun b : ByteArray => b.data.size) h2) (by decide)) hf
  · have hi : isId k = false := by
      unfold isId
      simp only [List.contains_eq_mem, List.mem_cons, List.not_mem_nil, or_false, decide_eq_false_iff_not]
      omega
    rw [hf, hi]
    exact ba_empty rfl
theorem idsTo_succ (k : Nat) : idsTo (k + 1) = if isId k = true then idsTo k ++ [k] else idsTo k := by
  unfold idsTo
  rw [List.range_succ, List.filter_append]
  by_cases h : isId k = true
  · rw [if_pos h, List.filter_cons_of_pos h]; rfl
  · rw [if_neg h, List.filter_cons_of_neg h]; simp
def RdN (w : World) (B : Nat) (A : Option Addr) (n c : Nat) (L : List Nat) : Prop := RdR w B 1 A n c (L.map fun k : Nat => [Value.int .i64 (k : Int)])
theorem RdN.at_ {w : World} {B : Nat} {A : Option Addr} {n c : Nat} {L : List Nat} (h : RdN w B A n c L) {k : Nat} (hk : k < n) : ∃ g off x, A = some ⟨g, off, none⟩ ∧ g < B ∧ L[k]? = some x ∧ w.cell? ⟨g, off + k, none⟩ = some (.int .i64 (x : Int)) := by
  obtain ⟨g, off, r, h1, h2, h3, h4, h5⟩ := RdR.at_ h hk
  rw [List.getElem?_map] at h3
  cases hx : L[k]? with
  | none => rw [hx] at h3; cases h3
  | some x =>
    rw [hx] at h3
    injection h3 with h3
    subst h3
    have := h5 0 _ rfl
    rw [Nat.mul_one, Nat.add_zero] at this
    exact ⟨g, off, x, h1, h2, rfl, this⟩
theorem RdN.len {w : World} {B : Nat} {A : Option Addr} {n c : Nat} {L : List Nat} (h : RdN w B A n c L) : L.length = n := by have := h.1; rwa [List.length_map] at this
theorem int_info31 : (Tryz.prog.info? 3).map (fun i => (i.zero, i.size, i.bytes)) = some (some (.int .i64 0), 1, 8) := by kernel_rfl
set_option maxRecDepth 10000 in
set_option maxHeartbeats 4000000 in
theorem sumW_any (A : Option Addr) (n c : Nat) (L : List PtT) (w : World) (h : RdP w w.heap.size A n c L) (hn : n ≤ 1000) (hq : PtN L) :
    Calls Tryz.prog 42 #[.slice A n c, .func (.func 44) #[] #[]] w fun e w' => e = .returned (.int .i64 (wdS L : Int)) ∧ Below w.heap.size w w' := by
  have hll := h.len
  have hmx := h.2.2.2.1
  have hle := h.2.2.1
  unfold maxLen at hmx
  have Hll := Lib.hid hll
  have Hbd := Lib.hid (fun k => wd_bd L hq k)
  have Hsn := Lib.hid (fun (l : List PtT) (p : PtT) => wdS_snoc p l)
  have Hf := Lib.hid (fun (p : PtT) (hp : p ∈ L) (w : World) => width1_any p (hq.1 p hp) (Nat.le_trans (hq.2.2 p hp) (by omega)) w)
  clear hll hq
  go_enter Tryz.func42, Tryz.ntmps42
  go_wp2_with fail
  go_loopw [5, 10] (fun a i wr => ∃ k s : Nat, k ≤ n ∧ i = .int .i64 k ∧ a = .int .i64 (s : Int) ∧ Hid (s = wdS (L.take k)) ∧ s ≤ 8000 * 1000 ∧ Below w.heap.size w wr) (fun _ i _ => n - (intOf i).toNat)
  case atStart => exact ⟨0, 0, by omega, rfl, rfl, Lib.hid rfl, by omega, Below.refl _ _⟩
  case round =>
    obtain ⟨k, s, hk, rfl, rfl, Hs, hs8, hb⟩ := hrel
    by_cases hlt : k < n
    · have hlt' : (k : Int) < (n : Int) := by omega
      obtain ⟨g, off, x, rfl, hg, hx, hr⟩ := RdP.at_ h hlt
      have k0 := (hb.cell (p := ⟨g, off + k * 4 + 0, none⟩) hg).trans (hr 0 _ rfl)
      have k1 := (hb.cell (p := ⟨g, off + k * 4 + 1, none⟩) hg).trans (hr 1 _ rfl)
      have k2 := (hb.cell (p := ⟨g, off + k * 4 + 2, none⟩) hg).trans (hr 2 _ rfl)
      have k3 := (hb.cell (p := ⟨g, off + k * 4 + 3, none⟩) hg).trans (hr 3 _ rfl)
      rw [Nat.add_zero] at k0
      have hfx := fun w => Hf.out x (List.mem_of_getElem? hx) w
      have hsm := Hsn.out (L.take k) x
      rw [← take_succ hx, ← Hs.out] at hsm
      have hbd := Hbd.out (k + 1)
      obtain ⟨s1, z1, g1, m1⟩ := x
      dsimp only at k0 k1 k2 k3 hfx hsm
      obtain ⟨d, hd⟩ : ∃ d : Nat, d = z1.toNat * mx1 m1 := ⟨_, rfl⟩
      rw [← hd] at hfx hsm
      rw [hsm] at hbd
      have Hsm := Lib.hid hsm.symm
      have hfx2 : ∀ w, Calls Tryz.prog 44 #[.agg #[.string s1, .int .i64 z1, .bool g1, .int .i64 m1]] w fun e w' => e = .returned (.int .i64 (d : Int)) ∧ Below w.heap.size w w' := hfx
      have Hfx := Lib.hid hfx2
      have hw3 : IntKind.i64.wrap ((s : Int) + (d : Int)) = (s : Int) + (d : Int) := IntWalk.i64_in _ (by omega)
      have hbn : Below wr.heap.size wr (wr.alloc (.cells #[.string s1, .int .i64 z1, .bool g1, .int .i64 m1] 71)) := (Below.refl _ _).alloc (Nat.le_refl _) _
      have a0 := heap_alloc_new wr (.cells #[.string s1, .int .i64 z1, .bool g1, .int .i64 m1] 71)
      have d0 := blk_cell (i := 0) (v := .string s1) a0 rfl
      have d1 := blk_cell (i := 1) (v := .int .i64 z1) a0 rfl
      have d2 := blk_cell (i := 2) (v := .bool g1) a0 rfl
      have d3 := blk_cell (i := 3) (v := .int .i64 m1) a0 rfl
      have hb4 := bnx hb hbn
      clear hx hr hfx hfx2 hsm hd hbn a0 hb
      go_wp2_with fail
      go_fit (Hfx.out _)
      rintro e w2 ⟨rfl, hbx⟩
      have hb5 := bnx hb4 hbx
      clear k0 k1 k2 k3 d0 d1 d2 d3 hbx hb4
      go_wp2
      go_roundw
      case rel => exact ⟨k + 1, s + d, by omega, by go_num, by go_num, Hsm, by omega, hb5⟩
      case measure => simp [intOf]; omega
    · obtain rfl : k = n := by omega
      have he : s = wdS L := by rw [Hs.out, List.take_of_length_le (by rw [Hll.out]; exact Nat.le_refl _)]
      have He := Lib.hid he
      clear he
      go_wp2
      go_ret
      exact ⟨by rw [← He.out]; rfl, hb⟩
set_option maxRecDepth 10000 in
set_option maxHeartbeats 4000000 in
theorem sumN_any (A : Option Addr) (n c : Nat) (L : List PtT) (w : World) (h : RdP w w.heap.size A n c L) (hn : n ≤ 1000) (hq : PtN L) :
    Calls Tryz.prog 42 #[.slice A n c, .func (.func 45) #[] #[]] w fun e w' => e = .returned (.int .i64 (cntS L : Int)) ∧ Below w.heap.size w w' := by
  have hll := h.len
  have hmx := h.2.2.2.1
  have hle := h.2.2.1
  unfold maxLen at hmx
  have Hll := Lib.hid hll
  have Hbd := Lib.hid (fun k => cnt_bd L hq k)
  have Hsn := Lib.hid (fun (l : List PtT) (p : PtT) => cntS_snoc p l)
  have Hf := Lib.hid (fun (p : PtT) (hp : p ∈ L) (w : World) => numbers_any p w)
  clear hll hq
  go_enter Tryz.func42, Tryz.ntmps42
  go_wp2_with fail
  go_loopw [5, 10] (fun a i wr => ∃ k s : Nat, k ≤ n ∧ i = .int .i64 k ∧ a = .int .i64 (s : Int) ∧ Hid (s = cntS (L.take k)) ∧ s ≤ 8000 * 1000 ∧ Below w.heap.size w wr) (fun _ i _ => n - (intOf i).toNat)
  case atStart => exact ⟨0, 0, by omega, rfl, rfl, Lib.hid rfl, by omega, Below.refl _ _⟩
  case round =>
    obtain ⟨k, s, hk, rfl, rfl, Hs, hs8, hb⟩ := hrel
    by_cases hlt : k < n
    · have hlt' : (k : Int) < (n : Int) := by omega
      obtain ⟨g, off, x, rfl, hg, hx, hr⟩ := RdP.at_ h hlt
      have k0 := (hb.cell (p := ⟨g, off + k * 4 + 0, none⟩) hg).trans (hr 0 _ rfl)
      have k1 := (hb.cell (p := ⟨g, off + k * 4 + 1, none⟩) hg).trans (hr 1 _ rfl)
      have k2 := (hb.cell (p := ⟨g, off + k * 4 + 2, none⟩) hg).trans (hr 2 _ rfl)
      have k3 := (hb.cell (p := ⟨g, off + k * 4 + 3, none⟩) hg).trans (hr 3 _ rfl)
      rw [Nat.add_zero] at k0
      have hfx := fun w => Hf.out x (List.mem_of_getElem? hx) w
      have hsm := Hsn.out (L.take k) x
      rw [← take_succ hx, ← Hs.out] at hsm
      have hbd := Hbd.out (k + 1)
      obtain ⟨s1, z1, g1, m1⟩ := x
      dsimp only at k0 k1 k2 k3 hfx hsm
      obtain ⟨d, hd⟩ : ∃ d : Nat, d = mx1 m1 := ⟨_, rfl⟩
      rw [← hd] at hfx hsm
      rw [hsm] at hbd
      have Hsm := Lib.hid hsm.symm
      have hfx2 : ∀ w, Calls Tryz.prog 45 #[.agg #[.string s1, .int .i64 z1, .bool g1, .int .i64 m1]] w fun e w' => e = .returned (.int .i64 (d : Int)) ∧ Below w.heap.size w w' := hfx
      have Hfx := Lib.hid hfx2
      have hw3 : IntKind.i64.wrap ((s : Int) + (d : Int)) = (s : Int) + (d : Int) := IntWalk.i64_in _ (by omega)
      have hbn : Below wr.heap.size wr (wr.alloc (.cells #[.string s1, .int .i64 z1, .bool g1, .int .i64 m1] 71)) := (Below.refl _ _).alloc (Nat.le_refl _) _
      have a0 := heap_alloc_new wr (.cells #[.string s1, .int .i64 z1, .bool g1, .int .i64 m1] 71)
      have d0 := blk_cell (i := 0) (v := .string s1) a0 rfl
      have d1 := blk_cell (i := 1) (v := .int .i64 z1) a0 rfl
      have d2 := blk_cell (i := 2) (v := .bool g1) a0 rfl
      have d3 := blk_cell (i := 3) (v := .int .i64 m1) a0 rfl
      have hb4 := bnx hb hbn
      clear hx hr hfx hfx2 hsm hd hbn a0 hb
      go_wp2_with fail
      go_fit (Hfx.out _)
      rintro e w2 ⟨rfl, hbx⟩
      have hb5 := bnx hb4 hbx
      clear k0 k1 k2 k3 d0 d1 d2 d3 hbx hb4
      go_wp2
      go_roundw
      case rel => exact ⟨k + 1, s + d, by omega, by go_num, by go_num, Hsm, by omega, hb5⟩
      case measure => simp [intOf]; omega
    · obtain rfl : k = n := by omega
      have he : s = cntS L := by rw [Hs.out, List.take_of_length_le (by rw [Hll.out]; exact Nat.le_refl _)]
      have He := Lib.hid he
      clear he
      go_wp2
      go_ret
      exact ⟨by rw [← He.out]; rfl, hb⟩
set_option maxRecDepth 10000 in
theorem width_any (id : Int) (w : World) : Calls Tryz.prog 22 #[.int .i64 id] w fun e w' => e = .returned (.int .i64 (wdS (frm id).2 : Int)) ∧ Below w.heap.size w w' := by
  have hp := parts31_any id w
  have hN := frm_n id
  generalize (frm id).2 = L at *
  have Hp := Lib.hid hp
  have HN := Lib.hid hN
  clear hp hN
  go_enter Tryz.func22, Tryz.ntmps22
  go_wp2_with fail
  go_fit Hp.out
  rintro e w1 ⟨A, n, c, rfl, hr, hb⟩
  have hn : n ≤ 1000 := by rw [← hr.len]; have := HN.out.2.1; omega
  go_wp2_with fail
  go_fit (sumW_any A n c L w1 hr hn HN.out)
  rintro e w2 ⟨rfl, hbx⟩
  have hb2 := bnx hb hbx
  go_wp2
  go_ret
  exact ⟨rfl, hb2⟩
end Go.Proofs.YtonejdjhdjckjaaGreat

/-
  stable at slots, its closure walked (printed by gen_stb.py).
-/
set_option linter.unusedSimpArgs false
set_option linter.unusedVariables false
namespace Go.Proofs.YtonejdjhdjckjaaGreat
open Go.RowKit NumLaw
attribute [local go_sem] Addr.add_mid

def slC (s : SlT) : List Value := [.int .i64 s.1, .bool s.2.1, .int .i64 s.2.2]
theorem slC_one (s : SlT) : ∀ u ∈ slC s, u.oneCell' = true := by
  intro u hu
  simp only [slC, List.mem_cons, List.not_mem_nil, or_false] at hu
  rcases hu with rfl | rfl | rfl <;> rfl
theorem sl_info : (Tryz.prog.info? 65).map (fun i => (i.zero, i.size, i.bytes)) = some (some (.agg #[.int .i64 0, .bool false, .int .i64 0]), 3, 24) := by kernel_rfl
theorem slots1_any (a b : SlT) (w : World) : Calls Tryz.prog 54 #[.agg (slC a).toArray, .agg (slC b).toArray] w fun e w' => e = .returned (.bool (decide (slZ b < slZ a))) ∧ Below w.heap.size w w' := by
  obtain ⟨z1, g1, m1⟩ := a
  obtain ⟨z2, g2, m2⟩ := b
  obtain ⟨a0, a1, hs, hb⟩ := al2 w (.cells #[.int .i64 z1, .bool g1, .int .i64 m1] 65) (.cells #[.int .i64 z2, .bool g2, .int .i64 m2] 65)
  have k0 := blk_cell (i := 0) (v := .int .i64 z1) a0 rfl
  have k1 := blk_cell (i := 0) (v := .int .i64 z2) a1 rfl
  show Calls _ _ #[.agg #[.int .i64 z1, .bool g1, .int .i64 m1], .agg #[.int .i64 z2, .bool g2, .int .i64 m2]] _ _
  go_enter Tryz.func54, Tryz.ntmps54
  go_wp2
  go_ret
  exact ⟨rfl, hb⟩
set_option maxRecDepth 20000 in
set_option maxHeartbeats 16000000 in
theorem stableS_any (A : Option Addr) (n c : Nat) (L : List SlT) (w : World) (h : RdR w w.heap.size 3 A n c (L.map slC)) (hn : n ≤ 1000) :
    Calls Tryz.prog 53 #[.slice A n c, .func (.func 54) #[] #[]] w fun e w' => ∃ (A' : Option Addr) (c' : Nat), e = .returned (.slice A' n c') ∧ RdR w' w'.heap.size 3 A' n c' ((stb slZ L).map slC) ∧ Below w.heap.size w w' := by
  have hll : L.length = n := by have := h.1; rwa [List.length_map] at this
  have hmx := h.2.2.2.1
  have hle := h.2.2.1
  unfold maxLen at hmx
  obtain ⟨i1, hi1⟩ := info_parts sl_info
  have Hi1 := Lib.hid hi1
  have Hll := Lib.hid hll
  have Hha := Lib.hid slots1_any
  have h4 : ∀ (M : List SlT), ∀ r ∈ M.map slC, r.length = 3 := fun M r hr => by obtain ⟨p, _, rfl⟩ := List.mem_map.1 hr; rfl
  have H4 := Lib.hid h4
  have hone : ∀ u ∈ (L.map slC).flatten, u.oneCell' = true := fun u hu => by
    obtain ⟨r, hr, hu⟩ := List.mem_flatten.1 hu
    obtain ⟨p, _, rfl⟩ := List.mem_map.1 hr
    exact slC_one p u hu
  have Hone := Lib.hid hone
  have Hsl := Lib.hid (stb_len slZ)
  clear hll hi1 h4 hone
  go_enter Tryz.func53, Tryz.ntmps53
  go_wp2_with (with_reducible refine stop_makeR ?_)
  refine go_ (wpList_make_full w rfl _ _ _ rfl w.heap.size 65 i1 (.agg #[.int .i64 0, .bool false, .int .i64 0]) 3 Tryz.underlying59 Hi1.out.1 Hi1.out.2.1 Hi1.out.2.2.1 .i64 .i64 _ _ n rfl rfl rfl rfl (by rw [Hi1.out.2.2.2]; omega) (by unfold maxLen; omega) (Nat.le_refl _) ?_)
  intro w1 own1 hgr
  have hb1 : Below w.heap.size w w1 := Below.grown (Below.refl _ _) hgr (Nat.le_refl _) (fun j hj => by cases hj)
  obtain ⟨cur, hg1, hcs, _⟩ := own_full own1
  have hr1 := RdR.up h hb1
  clear own1 hgr
  go_wp2_with (with_reducible refine stop_copyR ?_)
  obtain ⟨w2, hrun, hrw, hbq⟩ := run_copy_RW (P := Tryz.prog) (ty := 3) (dT := 59) (sT := 59) (dCap := n) Tryz.underlying59 Hi1.out.1 Hi1.out.2.2.1 (by omega) hg1 hcs hr1 Hone.out
  have hb2 := hbq _ _ hb1 (Nat.le_refl _)
  refine go_ (wpList_copy_run' rfl rfl hrun ?_)
  obtain ⟨g, hgg⟩ : ∃ g, g = w.heap.size := ⟨_, rfl⟩
  have Hg := Lib.hid hgg
  rw [← hgg] at hrw ⊢
  clear hrun hbq hg1 hcs hr1 hb1 hgg w1
  go_wp2_with fail
  go_loopw [16] (fun t wr => ∃ i : Nat, i ≤ n ∧ t = .int .i64 i ∧ Hid (RW wr g 65 ((stb slZ (L.take i) ++ L.drop i).map slC)) ∧ Below w.heap.size w wr) (fun t _ => n - (intOf t).toNat)
  case atStart => exact ⟨0, by omega, rfl, Lib.hid (by simpa [stb_nil] using hrw), hb2⟩
  case round =>
    clear hrw hb2 w2
    obtain ⟨i, hi, rfl, hrw, hb⟩ := hrel
    by_cases hlt : i < n
    · have hlt' : (i : Int) < (n : Int) := by omega
      obtain ⟨x, hx⟩ : ∃ x, L[i]? = some x := ⟨_, List.getElem?_eq_getElem (by rw [Hll.out]; exact hlt)⟩
      have hdr : L.drop i = x :: L.drop (i + 1) := by
        have h1 := List.drop_eq_getElem_cons (l := L) (i := i) (by rw [Hll.out]; exact hlt)
        rw [List.getElem?_eq_getElem (by rw [Hll.out]; exact hlt)] at hx
        injection hx with hx
        rw [h1, hx]
      have Htx := Lib.hid (take_succ hx)
      have hrw0 := hrw.out
      rw [hdr] at hrw0
      have Hrw0 := Lib.hid hrw0
      have hsl0 : (stb slZ (L.take i)).length = i := by rw [Hsl.out, List.length_take, Hll.out]; omega
      have Hsl0 := Lib.hid hsl0
      clear hx hdr hrw hrw0 hsl0
      go_wp2_with fail
      go_loopw [7] (fun k wr => ∃ (q : Nat) (p s : List SlT), q ≤ i ∧ k = .int .i64 q ∧ Hid (p.length = q) ∧ Hid (stb slZ (L.take i) = p ++ s ∧ ∀ y ∈ s, slZ y < slZ x) ∧ Hid (RW wr g 65 ((p ++ x :: s ++ L.drop (i + 1)).map slC)) ∧ Below w.heap.size w wr) (fun k _ => (intOf k).toNat)
      case atStart => exact ⟨i, stb slZ (L.take i), [], by omega, rfl, Hsl0, Lib.hid ⟨by simp, by simp⟩, Lib.hid (by simpa using Hrw0.out), hb⟩
      case round =>
        clear hb Hrw0
        obtain ⟨q, p, s, hq, rfl, Hp, Hs, Hrw, hb⟩ := hrel
        have hgw : g < wr.heap.size := blk_lt Hrw.out
        by_cases hq0 : q = 0
        · subst hq0
          have hp0 : p = [] := List.eq_nil_of_length_eq_zero Hp.out
          have hst := stb_at slZ Hs.out.1 Hs.out.2 (.inl hp0)
          have Hst := Lib.hid (show RW wr g 65 ((stb slZ (L.take (i + 1)) ++ L.drop (i + 1)).map slC) by rw [Htx.out, hst]; exact Hrw.out)
          clear hp0 hst
          rw [show ((0 : Nat) : Int) = 0 from rfl]
          go_wp2_with fail
          refine Ord.region_ (fun w' => Below wr.heap.size wr w') false [] (by kernel_rfl) (by kernel_rfl) (Below.refl _ _).drew ?_
          have hS : Below wr.heap.size wr wr.drew := (Below.refl _ _).drew
          generalize wr.drew = wd at *
          ((with_reducible refine Ord.e_p (v := ?_) ?_ ?_ ?_ ?_); rotate_left; (· exact rfl); (· kernel_rfl); (· intro w2; go_simp; try with_reducible rfl))
          (try simp only [Act.put, List.setIfInBounds_toArray, List.set_cons_zero, List.set_cons_succ])
          ((with_reducible refine Ord.e_p (v := ?_) ?_ ?_ ?_ ?_); rotate_left; (· exact rfl); (· kernel_rfl); (· intro w2; go_simp; try with_reducible rfl))
          (try simp only [Act.put, List.setIfInBounds_toArray, List.set_cons_zero, List.set_cons_succ])
          ((with_reducible refine Ord.e_p (v := ?_) ?_ ?_ ?_ ?_); rotate_left; (· exact rfl); (· kernel_rfl); (· intro w2; go_simp; try with_reducible rfl))
          (try simp only [Act.put, List.setIfInBounds_toArray, List.set_cons_zero, List.set_cons_succ])
          ((with_reducible refine Ord.e_u ?_ ?_); (· kernel_rfl))
          (try simp only [Act.put, List.setIfInBounds_toArray, List.set_cons_zero, List.set_cons_succ])
          ((with_reducible refine Ord.e_u ?_ ?_); (· kernel_rfl))
          (try simp only [Act.put, List.setIfInBounds_toArray, List.set_cons_zero, List.set_cons_succ])
          ((with_reducible refine Ord.e_u ?_ ?_); (· kernel_rfl))
          (try simp only [Act.put, List.setIfInBounds_toArray, List.set_cons_zero, List.set_cons_succ])
          ((with_reducible refine Ord.e_u ?_ ?_); (· kernel_rfl))
          (try simp only [Act.put, List.setIfInBounds_toArray, List.set_cons_zero, List.set_cons_succ])
          ((with_reducible refine Ord.e_u ?_ ?_); (· kernel_rfl))
          (try simp only [Act.put, List.setIfInBounds_toArray, List.set_cons_zero, List.set_cons_succ])
          ((with_reducible refine Ord.e_u ?_ ?_); (· kernel_rfl))
          (try simp only [Act.put, List.setIfInBounds_toArray, List.set_cons_zero, List.set_cons_succ])
          ((with_reducible refine Ord.e_u ?_ ?_); (· kernel_rfl))
          (try simp only [Act.put, List.setIfInBounds_toArray, List.set_cons_zero, List.set_cons_succ])
          ((with_reducible refine Ord.e_u ?_ ?_); (· kernel_rfl))
          (try simp only [Act.put, List.setIfInBounds_toArray, List.set_cons_zero, List.set_cons_succ])
          ((with_reducible refine Ord.e_u ?_ ?_); (· kernel_rfl))
          (try simp only [Act.put, List.setIfInBounds_toArray, List.set_cons_zero, List.set_cons_succ])
          ((with_reducible refine Ord.e_u ?_ ?_); (· kernel_rfl))
          (try simp only [Act.put, List.setIfInBounds_toArray, List.set_cons_zero, List.set_cons_succ])
          ((with_reducible refine Ord.e_u ?_ ?_); (· kernel_rfl))
          (try simp only [Act.put, List.setIfInBounds_toArray, List.set_cons_zero, List.set_cons_succ])
          ((with_reducible refine Ord.e_p (v := ?_) ?_ ?_ ?_ ?_); rotate_left; (· exact rfl); (· kernel_rfl); (· intro w2; go_simp; try with_reducible rfl))
          (try simp only [Act.put, List.setIfInBounds_toArray, List.set_cons_zero, List.set_cons_succ])
          refine Ord.e_nil ?_
          have hbf := bnx hb hS
          have Hst2 := Lib.hid (Hst.out.old hS hgw)
          clear Hst hb hS
          go_wp2
          go_roundw
          case rel => exact ⟨i + 1, by omega, by go_num, Hst2, hbf⟩
          case measure => simp [intOf]; omega
        · obtain ⟨j, hj⟩ : ∃ j, q = j + 1 := ⟨q - 1, by omega⟩
          have Hj := Lib.hid hj
          obtain ⟨y, hy⟩ : ∃ y, p[j]? = some y := ⟨_, List.getElem?_eq_getElem (by rw [Hp.out]; omega)⟩
          have hpy : p = p.take j ++ [y] := by
            have := take_succ hy
            rwa [List.take_of_length_le (by rw [Hp.out]; omega)] at this
          obtain ⟨p', hp'⟩ : ∃ p', p' = p.take j := ⟨_, rfl⟩
          rw [← hp'] at hpy
          have hpl' : p'.length = j := by have := Hp.out; rw [hpy, List.length_append] at this; simp at this; omega
          have hRW := Hrw.out
          rw [hpy] at hRW
          have hk1 : (((p' ++ [y]) ++ x :: s ++ L.drop (i + 1)).map slC)[q]? = some (slC x) := by
            rw [List.getElem?_map, List.append_assoc, List.getElem?_append_right (by rw [List.length_append, hpl']; simp; omega), List.length_append, hpl', hj]; simp
          have hk2 : (((p' ++ [y]) ++ x :: s ++ L.drop (i + 1)).map slC)[j]? = some (slC y) := by
            rw [List.getElem?_map, List.append_assoc, List.append_assoc, List.getElem?_append_right (by omega), hpl']; simp
          have hlen : q < (((p' ++ [y]) ++ x :: s ++ L.drop (i + 1)).map slC).length := (List.getElem?_eq_some_iff.1 hk1).1
          have Hk := Lib.hid (And.intro hk1 hk2)
          have HRW := Lib.hid hRW
          have Hpp := Lib.hid (And.intro hpy hpl')
          have Hlen := Lib.hid hlen
          have hqn : (q : Int) < (n : Int) := by omega
          have hjn : (j : Int) < (n : Int) := by omega
          have h0q : (0 : Int) < (q : Int) := by omega
          have hdt : decide ((0 : Int) < (q : Int)) = true := decide_eq_true h0q
          have hdt2 : decide (0 < q) = true := decide_eq_true (by omega)
          have hw0 : IntKind.i64.wrap ((q : Int) - 1) = (j : Int) := by have := Hj.out; rw [IntWalk.i64_in _ (by omega)]; omega
          have Hrx := Lib.hid (show ∀ w', Below wr.heap.size wr w' → w'.rangeAt g (q * 3) (slC x) from fun w' hb' => (HRW.out.old hb' hgw).at_ (H4.out _) hk1)
          have Hry := Lib.hid (show ∀ w', Below wr.heap.size wr w' → w'.rangeAt g (j * 3) (slC y) from fun w' hb' => (HRW.out.old hb' hgw).at_ (H4.out _) hk2)
          have Hahc := Lib.hid (fun w => Hha.out x y w)
          clear hj hy hpy hp' hpl' hRW hk1 hk2 hlen hq0
          go_wp2_with fail
          refine Ord.region_ (fun w' => Below wr.heap.size wr w') false [] (by kernel_rfl) (by kernel_rfl) (Below.refl _ _).drew ?_
          have hS : Below wr.heap.size wr wr.drew := (Below.refl _ _).drew
          generalize wr.drew = wd at *
          ((with_reducible refine Ord.e_p (v := ?_) ?_ ?_ ?_ ?_); rotate_left; (· exact rfl); (· kernel_rfl); (· intro w2; go_simp; try with_reducible rfl))
          (try simp only [Act.put, List.setIfInBounds_toArray, List.set_cons_zero, List.set_cons_succ])
          ((with_reducible refine Ord.e_p (v := ?_) ?_ ?_ ?_ ?_); rotate_left; (· exact rfl); (· kernel_rfl); (· intro w2; go_simp; try with_reducible rfl))
          (try simp only [Act.put, List.setIfInBounds_toArray, List.set_cons_zero, List.set_cons_succ])
          ((with_reducible refine Ord.e_p (v := ?_) ?_ ?_ ?_ ?_); rotate_left; (· exact rfl); (· kernel_rfl); (· intro w2; go_simp; try with_reducible rfl))
          (try simp only [Act.put, List.setIfInBounds_toArray, List.set_cons_zero, List.set_cons_succ])
          ((with_reducible refine Ord.e_p (v := ?_) ?_ ?_ ?_ ?_); rotate_left; (· exact rfl); (· kernel_rfl); (· intro w2; go_simp; try with_reducible rfl))
          (try simp only [Act.put, List.setIfInBounds_toArray, List.set_cons_zero, List.set_cons_succ])
          ((with_reducible refine Ord.e_p (v := ?_) ?_ ?_ ?_ ?_); rotate_left; (· exact rfl); (· kernel_rfl); (· intro w2; go_simp; try with_reducible rfl))
          (try simp only [Act.put, List.setIfInBounds_toArray, List.set_cons_zero, List.set_cons_succ])
          ((with_reducible refine Ord.e_p (v := ?_) ?_ ?_ ?_ ?_); rotate_left; (· exact rfl); (· kernel_rfl); (· intro w2; go_simp; try with_reducible rfl))
          (try simp only [Act.put, List.setIfInBounds_toArray, List.set_cons_zero, List.set_cons_succ])
          ((with_reducible refine Ord.e_p (v := ?_) ?_ ?_ ?_ ?_); rotate_left; (· exact rfl); (· kernel_rfl); (· intro w2; go_simp; try with_reducible rfl))
          (try simp only [Act.put, List.setIfInBounds_toArray, List.set_cons_zero, List.set_cons_succ])
          refine Ord.e_rowS (cs := slC x) (b := g) (o := q * 3) Tryz.underlying65 rfl (by kernel_rfl) rfl (by simp [slC]) (fun w' hS => (Hrx.out w' hS)) hS (by kernel_rfl) ?_
          (try simp only [Act.put, List.setIfInBounds_toArray, List.set_cons_zero, List.set_cons_succ])
          ((with_reducible refine Ord.e_p (v := ?_) ?_ ?_ ?_ ?_); rotate_left; (· exact rfl); (· kernel_rfl); (· intro w2; go_simp; try with_reducible rfl))
          (try simp only [Act.put, List.setIfInBounds_toArray, List.set_cons_zero, List.set_cons_succ])
          ((with_reducible refine Ord.e_p (v := ?_) ?_ ?_ ?_ ?_); rotate_left; (· exact rfl); (· kernel_rfl); (· intro w2; go_simp; try with_reducible rfl))
          (try simp only [Act.put, List.setIfInBounds_toArray, List.set_cons_zero, List.set_cons_succ])
          ((with_reducible refine Ord.e_p (v := ?_) ?_ ?_ ?_ ?_); rotate_left; (· exact rfl); (· kernel_rfl); (· intro w2; go_simp; try with_reducible rfl))
          (try simp only [Act.put, List.setIfInBounds_toArray, List.set_cons_zero, List.set_cons_succ])
          ((with_reducible refine Ord.e_p (v := ?_) ?_ ?_ ?_ ?_); rotate_left; (· exact rfl); (· kernel_rfl); (· intro w2; go_simp; try with_reducible rfl))
          (try simp only [Act.put, List.setIfInBounds_toArray, List.set_cons_zero, List.set_cons_succ])
          refine Ord.e_rowS (cs := slC y) (b := g) (o := j * 3) Tryz.underlying65 rfl (by kernel_rfl) rfl (by simp [slC]) (fun w' hS => (Hry.out w' hS)) hS (by kernel_rfl) ?_
          (try simp only [Act.put, List.setIfInBounds_toArray, List.set_cons_zero, List.set_cons_succ])
          refine Ord.e_x rfl (by kernel_rfl) ?_
          go_wp2_with fail
          go_fit (Hahc.out wd)
          rintro e we ⟨rfl, hbx⟩
          replace hS := bnx hS hbx
          go_wp2_with fail
          refine Ord.Seg.go hS (fun h => by cases h) ?_
          (try simp only [Act.put, List.setIfInBounds_toArray, List.set_cons_zero, List.set_cons_succ])
          clear hbx Hahc
          have hbf := bnx hb hS
          have hgw2 : g < we.heap.size := Nat.lt_of_lt_of_le hgw hS.size
          have HRW2 := Lib.hid (HRW.out.old hS hgw)
          have hrx := Hrx.out we hS
          have hry := Hry.out we hS
          by_cases hyx : slZ y < slZ x
          · rw [decide_eq_true hyx]
            ((with_reducible refine Ord.e_p (v := ?_) ?_ ?_ ?_ ?_); rotate_left; (· exact rfl); (· kernel_rfl); (· intro w2; go_simp; try with_reducible rfl))
            (try simp only [Act.put, List.setIfInBounds_toArray, List.set_cons_zero, List.set_cons_succ])
            refine Ord.e_nil ?_
            have hoy := all_oneCell_toArray (slC_one y)
            have hox := all_oneCell_toArray (slC_one x)
            have hrws := HRW2.out
            clear hS hgw hgw2 HRW2
            go_wp2_with fail
            refine Ord.region_ (fun _ => True) false [46, 50] (by kernel_rfl) (by kernel_rfl) trivial ?_
            replace hrx : we.drew.rangeAt g (q * 3) (slC x) := hrx
            replace hry : we.drew.rangeAt g (j * 3) (slC y) := hry
            replace hrws := hrws.drew
            replace hbf : Below w.heap.size w we.drew := hbf.drew
            generalize we.drew = wf at *
            have hset1 := hrws.set (H4.out _) (k := q) (r' := slC y) (by exact Hlen.out) rfl
            have hl2 := h4set (H4.out (((p' ++ [y]) ++ x :: s ++ L.drop (i + 1)))) (k := q) (r' := slC y) rfl
            have hset2 := hset1.set hl2 (k := j) (r' := slC x) (by rw [List.length_set]; have := Hlen.out; have := Hj.out; omega) rfl
            have hsw : ((((p' ++ [y]) ++ x :: s ++ L.drop (i + 1)).map slC).set q (slC y)).set j (slC x) = ((p' ++ x :: (y :: s) ++ L.drop (i + 1)).map slC) := by
              rw [← List.map_set, ← List.map_set, swap_rows p' s (L.drop (i + 1)) x y q j Hj.out Hpp.out.2]
            rw [hsw] at hset2
            have Hset := Lib.hid hset2
            have Hs2 := Lib.hid (show stb slZ (L.take i) = p' ++ (y :: s) ∧ ∀ z ∈ (y :: s), slZ z < slZ x from ⟨by rw [Hs.out.1, Hpp.out.1]; simp, fun z hz => by
              rcases List.mem_cons.1 hz with rfl | hz
              · exact hyx
              · exact Hs.out.2 z hz⟩)
            have hth1 := hrws.there (H4.out _) Hk.out.1 (n := 3) rfl
            have hth2 := hset1.there hl2 (k := j) (r := slC y) (by rw [List.getElem?_set_ne (by have := Hj.out; omega)]; exact Hk.out.2) (n := 3) rfl
            have hbs1 := below_setCells (g := g) (by rw [← Hg.out]; exact Nat.le_refl _) (slC y) (q * 3) wf hbf
            have hbs2 := below_setCells (g := g) (by rw [← Hg.out]; exact Nat.le_refl _) (slC x) (j * 3) _ hbs1
            clear hset2 hsw hl2 hset1
            ((with_reducible refine Ord.e_p (v := ?_) ?_ ?_ ?_ ?_); rotate_left; (· exact rfl); (· kernel_rfl); (· intro w2; go_simp; try with_reducible rfl))
            (try simp only [Act.put, List.setIfInBounds_toArray, List.set_cons_zero, List.set_cons_succ])
            ((with_reducible refine Ord.e_p (v := ?_) ?_ ?_ ?_ ?_); rotate_left; (· exact rfl); (· kernel_rfl); (· intro w2; go_simp; try with_reducible rfl))
            (try simp only [Act.put, List.setIfInBounds_toArray, List.set_cons_zero, List.set_cons_succ])
            ((with_reducible refine Ord.e_p (v := ?_) ?_ ?_ ?_ ?_); rotate_left; (· exact rfl); (· kernel_rfl); (· intro w2; go_simp; try with_reducible rfl))
            (try simp only [Act.put, List.setIfInBounds_toArray, List.set_cons_zero, List.set_cons_succ])
            ((with_reducible refine Ord.e_p (v := ?_) ?_ ?_ ?_ ?_); rotate_left; (· exact rfl); (· kernel_rfl); (· intro w2; go_simp; try with_reducible rfl))
            (try simp only [Act.put, List.setIfInBounds_toArray, List.set_cons_zero, List.set_cons_succ])
            ((with_reducible refine Ord.e_p (v := ?_) ?_ ?_ ?_ ?_); rotate_left; (· exact rfl); (· kernel_rfl); (· intro w2; go_simp; try with_reducible rfl))
            (try simp only [Act.put, List.setIfInBounds_toArray, List.set_cons_zero, List.set_cons_succ])
            ((with_reducible refine Ord.e_p (v := ?_) ?_ ?_ ?_ ?_); rotate_left; (· exact rfl); (· kernel_rfl); (· intro w2; go_simp; try with_reducible rfl))
            (try simp only [Act.put, List.setIfInBounds_toArray, List.set_cons_zero, List.set_cons_succ])
            ((with_reducible refine Ord.e_p (v := ?_) ?_ ?_ ?_ ?_); rotate_left; (· exact rfl); (· kernel_rfl); (· intro w2; go_simp; try with_reducible rfl))
            (try simp only [Act.put, List.setIfInBounds_toArray, List.set_cons_zero, List.set_cons_succ])
            ((with_reducible refine Ord.e_p (v := ?_) ?_ ?_ ?_ ?_); rotate_left; (· exact rfl); (· kernel_rfl); (· intro w2; go_simp; try with_reducible rfl))
            (try simp only [Act.put, List.setIfInBounds_toArray, List.set_cons_zero, List.set_cons_succ])
            ((with_reducible refine Ord.e_p (v := ?_) ?_ ?_ ?_ ?_); rotate_left; (· exact rfl); (· kernel_rfl); (· intro w2; go_simp; try with_reducible rfl))
            (try simp only [Act.put, List.setIfInBounds_toArray, List.set_cons_zero, List.set_cons_succ])
            refine Ord.e_row (cs := slC y) (b := g) (o := j * 3) Tryz.underlying65 rfl (by kernel_rfl) rfl hry (by kernel_rfl) (by kernel_rfl) ?_
            (try simp only [Act.put, List.setIfInBounds_toArray, List.set_cons_zero, List.set_cons_succ])
            ((with_reducible refine Ord.e_p (v := ?_) ?_ ?_ ?_ ?_); rotate_left; (· exact rfl); (· kernel_rfl); (· intro w2; go_simp; try with_reducible rfl))
            (try simp only [Act.put, List.setIfInBounds_toArray, List.set_cons_zero, List.set_cons_succ])
            ((with_reducible refine Ord.e_p (v := ?_) ?_ ?_ ?_ ?_); rotate_left; (· exact rfl); (· kernel_rfl); (· intro w2; go_simp; try with_reducible rfl))
            (try simp only [Act.put, List.setIfInBounds_toArray, List.set_cons_zero, List.set_cons_succ])
            ((with_reducible refine Ord.e_p (v := ?_) ?_ ?_ ?_ ?_); rotate_left; (· exact rfl); (· kernel_rfl); (· intro w2; go_simp; try with_reducible rfl))
            (try simp only [Act.put, List.setIfInBounds_toArray, List.set_cons_zero, List.set_cons_succ])
            refine Ord.e_row (cs := slC x) (b := g) (o := q * 3) Tryz.underlying65 rfl (by kernel_rfl) rfl hrx (by kernel_rfl) (by kernel_rfl) ?_
            (try simp only [Act.put, List.setIfInBounds_toArray, List.set_cons_zero, List.set_cons_succ])
            ((with_reducible refine Ord.e_p (v := ?_) ?_ ?_ ?_ ?_); rotate_left; (· exact rfl); (· kernel_rfl); (· intro w2; go_simp; try with_reducible rfl))
            (try simp only [Act.put, List.setIfInBounds_toArray, List.set_cons_zero, List.set_cons_succ])
            refine Ord.e_x rfl (by kernel_rfl) ?_
            refine wpList_store_mid rfl _ _ _ rfl g (q * 3) (slC y).toArray rfl rfl hth1 (by kernel_rfl) hoy ?_
            go_wp2_with fail
            refine Ord.Seg.go trivial (fun h => by cases h) ?_
            (try simp only [Act.put, List.setIfInBounds_toArray, List.set_cons_zero, List.set_cons_succ])
            ((with_reducible refine Ord.e_p (v := ?_) ?_ ?_ ?_ ?_); rotate_left; (· exact rfl); (· kernel_rfl); (· intro w2; go_simp; try with_reducible rfl))
            (try simp only [Act.put, List.setIfInBounds_toArray, List.set_cons_zero, List.set_cons_succ])
            refine Ord.e_x rfl (by kernel_rfl) ?_
            refine wpList_store_mid rfl _ _ _ rfl g (j * 3) (slC x).toArray rfl rfl hth2 (by kernel_rfl) hox ?_
            go_wp2_with fail
            refine Ord.Seg.go trivial (fun h => by cases h) ?_
            (try simp only [Act.put, List.setIfInBounds_toArray, List.set_cons_zero, List.set_cons_succ])
            refine Ord.e_nil ?_
            clear hrx hry hrws hth1 hth2 hbf hbs1
            go_wp2
            go_roundw
            case rel => exact ⟨j, p', y :: s, by have := Hj.out; omega, by go_num, Lib.hid Hpp.out.2, Hs2, Hset, hbs2⟩
            case measure => simp [intOf]; have := Hj.out; omega
          · rw [decide_eq_false hyx]
            ((with_reducible refine Ord.e_p (v := ?_) ?_ ?_ ?_ ?_); rotate_left; (· exact rfl); (· kernel_rfl); (· intro w2; go_simp; try with_reducible rfl))
            (try simp only [Act.put, List.setIfInBounds_toArray, List.set_cons_zero, List.set_cons_succ])
            refine Ord.e_nil ?_
            have hst := stb_at slZ Hs.out.1 Hs.out.2 (.inr ⟨p', y, Hpp.out.1, hyx⟩)
            have Hst := Lib.hid (show RW we g 65 ((stb slZ (L.take (i + 1)) ++ L.drop (i + 1)).map slC) by rw [Htx.out, hst, Hpp.out.1]; exact HRW2.out)
            clear hst hrx hry hS
            go_wp2
            go_roundw
            case rel => exact ⟨i + 1, by omega, by go_num, Hst, hbf⟩
            case measure => simp [intOf]; omega
    · obtain rfl : i = n := by omega
      have hfin := hrw.out
      rw [List.take_of_length_le (by rw [Hll.out]; exact Nat.le_refl _), List.drop_eq_nil_of_le (by rw [Hll.out]; exact Nat.le_refl _), List.append_nil] at hfin
      have hrd := hfin.rd (n := i) (H4.out _) (by rw [List.length_map, Hsl.out]; exact Hll.out) (by unfold maxLen; omega)
      clear hfin
      go_wp2
      go_ret
      exact ⟨some ⟨g, 0, none⟩, i, rfl, hrd, hb⟩

end Go.Proofs.YtonejdjhdjckjaaGreat

/-
  schema.slots walked (printed by gen_sch6.py).
-/
set_option linter.unusedSimpArgs false
set_option linter.unusedVariables false
namespace Go.Proofs.YtonejdjhdjckjaaGreat
open Go.RowKit NumLaw
attribute [local go_sem] Addr.add_mid
attribute [-go_sem] run_eql_struct run_neq_struct

theorem offs_snoc : ∀ (l : List PtT) (n : Nat) (p : PtT), offs n (l ++ [p]) = offs n l ++ [(p, n + cntS l)]
  | [], n, p => rfl
  | q :: l, n, p => by
    show (q, n) :: offs (n + mx1 q.mn) (l ++ [p]) = (q, n) :: (offs (n + mx1 q.mn) l ++ [(p, n + cntS (q :: l))])
    rw [offs_snoc l, cntS_cons, Nat.add_assoc]
theorem sltL_snoc (l : List PtT) (p : PtT) : sltL (l ++ [p]) = sltL l ++ slP (p, cntS l) := by
  unfold sltL
  rw [offs_snoc, List.flatMap_append, Nat.zero_add]
  simp
def slJ (z : Int) (g : Bool) (N j : Nat) : List SlT := (List.range j).map fun i => (z, g, N + i)
theorem slJ_succ (z : Int) (g : Bool) (N j : Nat) : slJ z g N (j + 1) = slJ z g N j ++ [(z, g, N + j)] := by
  unfold slJ
  rw [List.range_succ, List.map_append]
  rfl
theorem sl_flat (L : List SlT) (s : SlT) : (L.map slC).flatten ++ slC s = ((L ++ [s]).map slC).flatten := by simp
theorem sl_row (L : List SlT) : ∀ r ∈ L.map slC, r.length = 3 := fun r hr => by obtain ⟨s, _, rfl⟩ := List.mem_map.1 hr; rfl
theorem frm_cnt (id : Int) : cntS (frm id).2 ≤ 300 := by
  rcases frm_at id with ⟨_, hf⟩ | ⟨_, hf⟩ | ⟨_, hf⟩ | ⟨_, hf⟩ | ⟨_, hf⟩ | ⟨_, hf⟩ | ⟨_, hf⟩ | ⟨_, hf⟩ | ⟨_, hf⟩ | ⟨_, hf⟩ | ⟨_, hf⟩ | ⟨_, hf⟩ | ⟨_, hf⟩ | ⟨_, hf⟩ | ⟨_, hf⟩ | ⟨_, hf⟩ | ⟨_, hf⟩ | ⟨_, hf⟩ | ⟨_, hf⟩ | ⟨_, hf⟩ | ⟨_, hf⟩ | ⟨_, hf⟩ | ⟨hf, _⟩ <;> rw [hf] <;> decide +kernel
theorem any_fb {n : Int} (h : szQ n) (g : Bool) : (-9223372036854775808 ≤ (anyF n g).size ∧ (anyF n g).size ≤ 9223372036854775807) ∧ (-9223372036854775808 ≤ (anyF n g).lo ∧ (anyF n g).lo ≤ 9223372036854775807) ∧ (-9223372036854775808 ≤ (anyF n g).hi ∧ (anyF n g).hi ≤ 9223372036854775807) := by
  rcases h with rfl | rfl | rfl | rfl <;> cases g <;> decide
theorem fld_fb {L : List PtT} (h : PtQ L) : FB ((wireS L).map fldOf) := fun f hf => by
  obtain ⟨s, hs, rfl⟩ := List.mem_map.1 hf
  exact any_fb (wire_q h s hs) _
theorem fld_fbT {L : List PtT} (h : PtQ L) (k : Nat) : FB (((wireS L).take k).map fldOf) := fun f hf => by
  obtain ⟨s, hs, rfl⟩ := List.mem_map.1 hf
  exact any_fb (wire_q h s (List.mem_of_mem_take hs)) _
set_option maxRecDepth 20000 in
set_option maxHeartbeats 8000000 in
theorem slots_any (nm : ByteArray) (A : Option Addr) (n c : Nat) (L : List PtT) (w : World) (h : RdP w w.heap.size A n c L) (hq : PtN L) (hcn : cntS L ≤ 1000) :
    Calls Tryz.prog 27 #[.agg #[.string nm, .slice A n c]] w fun e w' => ∃ (A1 : Option Addr) (c1 : Nat) (A2 : Option Addr) (c2 : Nat), e = .returned (.tuple #[.slice A1 (cntS L) c1, .slice A2 (cntS L) c2]) ∧ RdR w' w'.heap.size 3 A1 (cntS L) c1 ((wireS L).map slC) ∧ RdF w' w'.heap.size A2 (cntS L) c2 ((wireS L).map fldOf) ∧ Below w.heap.size w w' := by
  have hll := h.len
  have hmx := h.2.2.2.1
  have hle := h.2.2.1
  unfold maxLen at hmx
  obtain ⟨i1, hi1⟩ := info_parts sl_info
  have Hi1 := Lib.hid hi1
  obtain ⟨i2, hi2⟩ := info_parts field_info
  have Hi2 := Lib.hid hi2
  have hn100 : n ≤ 100 := by rw [← hll]; exact hq.2.1
  have Hll := Lib.hid hll
  have Hq := Lib.hid hq
  have Hcn := Lib.hid hcn
  have Hsn := Lib.hid (fun (l : List PtT) (p : PtT) => cntS_snoc p l)
  have Hsl := Lib.hid (fun (l : List PtT) (p : PtT) => sltL_snoc l p)
  have Hlen := Lib.hid (slt_len L)
  have Hwl := Lib.hid (wire_len L)
  have a0 := heap_alloc_new w (.cells #[.string nm, .slice A n c] 57)
  have e1 := blk_cell (i := 1) (v := .slice A n c) a0 rfl
  have hb1 : Below w.heap.size w (w.alloc (.cells #[.string nm, .slice A n c] 57)) := (Below.refl _ _).alloc (Nat.le_refl _) _
  have h1 := RdR.more (RdR.up h hb1) hb1.size
  obtain ⟨m0, hm0⟩ : ∃ m0, m0 = cntS L := ⟨_, rfl⟩
  rw [← hm0]
  have Hm0 := Lib.hid hm0
  obtain ⟨Z, hZ⟩ : ∃ Z, Z = wireS L := ⟨_, rfl⟩
  rw [← hZ]
  have HZ := Lib.hid hZ
  clear hll hi1 hi2 hq hcn a0 h hm0 hZ
  go_enter Tryz.func27, Tryz.ntmps27
  go_wp2_with fail
  generalize (w.alloc (.cells #[.string nm, .slice A n c] 57)) = w1 at *
  replace h1 : RdP w1 w1.heap.size A n c L := h1
  clear e1
  go_loopw [4, 13] (fun l i wr => ∃ (k m c3 : Nat) (A3 : Option Addr), k ≤ n ∧ m ≤ 100 * k ∧ i = .int .i64 k ∧ l = .slice A3 m c3 ∧ Below w1.heap.size w1 wr ∧ wr.ownsRow w1.heap.size 65 3 (.slice A3 m c3) m ((sltL (L.take k)).map slC).flatten ∧ Hid (m = cntS (L.take k))) (fun _ i _ => n - (intOf i).toNat)
  case atStart => exact ⟨0, 0, 0, none, by omega, by omega, rfl, rfl, Below.refl _ _, World.ownsRow_nil _ _ _ _, Lib.hid rfl⟩
  case round =>
    obtain ⟨k, m, c3, A3, hk, hm, rfl, rfl, hb, own3, Hm⟩ := hrel
    by_cases hlt : k < n
    · have hlt' : (k : Int) < (n : Int) := by omega
      obtain ⟨g, off, x, rfl, hg, hx, hr⟩ := RdP.at_ h1 hlt
      have k0 := (hb.cell (p := ⟨g, off + k * 4 + 0, none⟩) hg).trans (hr 0 _ rfl)
      have k1 := (hb.cell (p := ⟨g, off + k * 4 + 1, none⟩) hg).trans (hr 1 _ rfl)
      have k2 := (hb.cell (p := ⟨g, off + k * 4 + 2, none⟩) hg).trans (hr 2 _ rfl)
      have k3 := (hb.cell (p := ⟨g, off + k * 4 + 3, none⟩) hg).trans (hr 3 _ rfl)
      rw [Nat.add_zero] at k0
      have hfx := fun w => numbers_any x w
      have hd100 := Hq.out.2.2 x (List.mem_of_getElem? hx)
      have Hts := Lib.hid (take_succ hx)
      have hsn := Hsn.out (L.take k) x
      have hsl := Hsl.out (L.take k) x
      rw [← Hts.out, ← Hm.out] at hsn hsl
      obtain ⟨s1, z1, g1, m1⟩ := x
      have hsl2 : sltL (L.take (k + 1)) = sltL (L.take k) ++ slJ z1 g1 m (mx1 m1) := hsl
      dsimp only at k0 k1 k2 k3 hfx hsn hd100
      obtain ⟨d, hd⟩ : ∃ d : Nat, d = mx1 m1 := ⟨_, rfl⟩
      rw [← hd] at hfx hsn hd100 hsl2
      have Hsn1 := Lib.hid hsn
      have Hsl1 := Lib.hid hsl2
      have hfx2 : ∀ w, Calls Tryz.prog 45 #[.agg #[.string s1, .int .i64 z1, .bool g1, .int .i64 m1]] w fun e w' => e = .returned (.int .i64 (d : Int)) ∧ Below w.heap.size w w' := hfx
      have Hfx := Lib.hid hfx2
      have hbn : Below wr.heap.size wr (wr.alloc (.cells #[.string s1, .int .i64 z1, .bool g1, .int .i64 m1] 71)) := (Below.refl _ _).alloc (Nat.le_refl _) _
      have a0 := heap_alloc_new wr (.cells #[.string s1, .int .i64 z1, .bool g1, .int .i64 m1] 71)
      have hlt0 := blk_lt a0
      have d0 := blk_cell (i := 0) (v := .string s1) a0 rfl
      have d1 := blk_cell (i := 1) (v := .int .i64 z1) a0 rfl
      have d2 := blk_cell (i := 2) (v := .bool g1) a0 rfl
      have d3 := blk_cell (i := 3) (v := .int .i64 m1) a0 rfl
      have hb4 := bnx hb hbn
      have own4 := own_up own3 hbn (Nat.le_refl _)
      have hne : ∀ q, (Value.slice A3 m c3).ownBlock = some q → q ≠ wr.heap.size := fun q hq => by have := (own_blk own3 hq).2; omega
      have hs0 : m = m + 0 := rfl
      have own5 : (wr.alloc (.cells #[.string s1, .int .i64 z1, .bool g1, .int .i64 m1] 71)).ownsRow w1.heap.size 65 3 (.slice A3 m c3) m ((sltL (L.take k) ++ slJ z1 g1 m 0).map slC).flatten := by simpa [slJ] using own4
      have Hne := Lib.hid hne
      clear hx hr hfx hfx2 hsn hsl hsl2 hd hbn a0 hb own3 own4 hne hs0
      go_wp2_with fail
      go_fit (Hfx.out _)
      rintro e w6 ⟨rfl, hbx⟩
      obtain ⟨b0, hbb⟩ : ∃ b, b = wr.heap.size := ⟨_, rfl⟩
      rw [← hbb] at d1 d2 Hne hlt0 ⊢
      have q1 := (hbx.cell (p := ⟨b0, 1, none⟩) hlt0).trans d1
      have q2 := (hbx.cell (p := ⟨b0, 2, none⟩) hlt0).trans d2
      have hb6 := bnx hb4 hbx
      have own6 := own_up own5 hbx (Nat.le_refl _)
      have hlt6 : b0 < w6.heap.size := Nat.lt_of_lt_of_le hlt0 hbx.size
      clear k0 k1 k2 k3 d0 d1 d2 d3 hbx hb4 own5 hbb hlt0 Hfx
      go_wp2_with fail
      go_loopw [4, 19] (fun l i wr => ∃ (j m5 c5 : Nat) (A5 : Option Addr), j ≤ d ∧ m5 ≤ 100 * k + j ∧ i = .int .i64 j ∧ l = .slice A5 m5 c5 ∧ Below w1.heap.size w1 wr ∧ b0 < wr.heap.size ∧ wr.cell? ⟨b0, 1, none⟩ = some (.int .i64 z1) ∧ wr.cell? ⟨b0, 2, none⟩ = some (.bool g1) ∧ wr.ownsRow w1.heap.size 65 3 (.slice A5 m5 c5) m5 ((sltL (L.take k) ++ slJ z1 g1 m j).map slC).flatten ∧ Hid (m5 = m + j) ∧ Hid (∀ q, (Value.slice A5 m5 c5).ownBlock = some q → q ≠ b0)) (fun _ i _ => d - (intOf i).toNat)
      case atStart => exact ⟨0, m, c3, A3, by omega, by omega, rfl, rfl, hb6, hlt6, q1, q2, own6, Lib.hid rfl, Hne⟩
      case round =>
        clear hb6 hlt6 q1 q2 own6 Hne
        obtain ⟨j, m5, c5, A5, hj, hm5, rfl, rfl, hb6, hlt6, q1, q2, own6, Hm5, Hne⟩ := hrel
        by_cases hjd : j < d
        · have hjd' : (j : Int) < (d : Int) := by omega
          have hbn : Below wr.heap.size wr (wr.alloc (.cells #[.int .i64 z1, .bool g1, .int .i64 (m5 : Int)] 65)) := (Below.refl _ _).alloc (Nat.le_refl _) _
          have hrd : Rd _ _ 3 _ 1 1 (slC (z1, g1, m5)) := RdR.rd (RdR.lit (size := 3) (e := 65) wr [slC (z1, g1, m5)] #[.int .i64 z1, .bool g1, .int .i64 (m5 : Int)] rfl (by intro r hr; rw [List.mem_singleton.1 hr]; rfl) (by simp [maxLen]) 1 rfl) (by omega)
          have hb7 := bnx hb6 hbn
          have own7 := own_up own6 hbn (Nat.le_refl _)
          have hlt7 : b0 < (wr.alloc (.cells #[.int .i64 z1, .bool g1, .int .i64 (m5 : Int)] 65)).heap.size := Nat.lt_of_lt_of_le hlt6 hbn.size
          have p1 := (hbn.cell (p := ⟨b0, 1, none⟩) hlt6).trans q1
          have p2 := (hbn.cell (p := ⟨b0, 2, none⟩) hlt6).trans q2
          have Hfl := Lib.hid (show ((sltL (L.take k) ++ slJ z1 g1 m j).map slC).flatten ++ slC (z1, g1, m5) = ((sltL (L.take k) ++ slJ z1 g1 m (j + 1)).map slC).flatten by rw [sl_flat, slJ_succ, Hm5.out, List.append_assoc])
          clear hb6 hbn own6
          go_wp2_with (at_builtin; refine stop_ ?_)
          generalize (wr.alloc (.cells #[.int .i64 z1, .bool g1, .int .i64 (m5 : Int)] 65)) = w7 at *
          refine go_ (wpList_appG (base := w1.heap.size) (n := m5) Tryz.underlying59 Hi1.out rfl (by omega) own7 rfl hrd rfl (slC_one _) (k := m5 + 1) rfl Hfl.out (by unfold maxLen; omega) (by omega) hb7.size ?_)
          intro A8 c8 w8 own8 hgr hob
          have hb8 := Below.grown hb7 hgr hb7.size (fun j hj => (own_blk own7 hj).1)
          have hkeep : w8.heap[b0]? = w7.heap[b0]? := hgr.block b0 hlt7 (fun e => Hne.out b0 e.symm rfl)
          have r1 : w8.cell? ⟨b0, 1, none⟩ = some (.int .i64 z1) := (World.cell?_of_block (a := ⟨b0, 1, none⟩) hkeep).trans p1
          have r2 : w8.cell? ⟨b0, 2, none⟩ = some (.bool g1) := (World.cell?_of_block (a := ⟨b0, 2, none⟩) hkeep).trans p2
          have hlt8 : b0 < w8.heap.size := Nat.lt_of_lt_of_le hlt7 hgr.size
          have Hne8 : Hid (∀ q, (Value.slice A8 (m5 + 1) c8).ownBlock = some q → q ≠ b0) := Lib.hid (fun q hq => by
            rcases hob with ho | ho
            · exact Hne.out q (by rw [← ho]; exact hq)
            · rw [ho] at hq; injection hq with hq; omega)
          have Hm8 := Lib.hid (show m5 + 1 = m + (j + 1) by rw [Hm5.out]; omega)
          clear hgr hob own7 hrd hb7 q1 q2 p1 p2 hkeep hlt6 hlt7 Hne
          go_wp2
          go_roundw
          case rel => exact ⟨j + 1, m5 + 1, c8, A8, by omega, by omega, by go_num, rfl, hb8, hlt8, r1, r2, own8, Hm8, Hne8⟩
          case measure => simp [intOf]; omega
        · obtain rfl : j = d := by omega
          rw [← Hsl1.out] at own6
          have Hm9 : Hid (m5 = cntS (L.take (k + 1))) := Lib.hid (by rw [Hm5.out, Hsn1.out])
          have hm9 : m5 ≤ 100 * (k + 1) := by omega
          clear q1 q2 hlt6 Hne
          go_wp2
          go_roundw
          case rel => exact ⟨k + 1, m5, c5, A5, by omega, hm9, by go_num, rfl, hb6, own6, Hm9⟩
          case measure => simp [intOf]; omega
    · obtain rfl : k = n := by omega
      have htk : L.take k = L := List.take_of_length_le (by rw [Hll.out]; exact Nat.le_refl _)
      rw [htk] at own3 Hm
      have hmn : m ≤ 1000 := by rw [Hm.out]; exact Hcn.out
      have hrd : RdR wr wr.heap.size 3 A3 m c3 ((sltL L).map slC) := RdR.own own3 (by rw [List.length_map, Hlen.out, ← Hm.out]) (sl_row _)
      have hbf := bnx hb1 hb
      obtain rfl : m = m0 := by rw [Hm.out, Hm0.out]
      have Hwl2 : Hid (Z.length = m) := Lib.hid (by rw [HZ.out, Hwl.out, ← Hm.out])
      clear own3 htk hb hb1 h1 hm hk hlt
      go_wp2_with fail
      go_fit (stableS_any A3 m c3 (sltL L) wr hrd hmn)
      rintro e w2 ⟨A4, c4, rfl, hr4, hbx⟩
      have hb2 := bnx hbf hbx
      replace hr4 : RdR w2 w2.heap.size 3 A4 m c4 ((wireS L).map slC) := hr4
      rw [← HZ.out] at hr4
      have hmx4 := hr4.2.2.2.1
      have hle4 := hr4.2.2.1
      unfold maxLen at hmx4
      have Hfb := Lib.hid (fld_fb Hq.out.1)
      rw [← HZ.out] at Hfb
      clear hbx hbf hrd Hsn Hsl Hlen Hwl Hcn Hm Hm0 Hq Hll Hi1
      go_wp2_with fail
      go_loopw [7, 37] (fun o i wr => ∃ (k c3 : Nat) (A3 : Option Addr), k ≤ m ∧ i = .int .i64 k ∧ o = .slice A3 k c3 ∧ Below w2.heap.size w2 wr ∧ wr.ownsRow w2.heap.size 85 4 (.slice A3 k c3) k (fcs ((Z.take k).map fldOf))) (fun _ i _ => m - (intOf i).toNat)
      case atStart => exact ⟨0, 0, none, by omega, rfl, rfl, Below.refl _ _, World.ownsRow_nil _ _ _ _⟩
      case round =>
        obtain ⟨k, c3, A3, hk, rfl, rfl, hb, own3⟩ := hrel
        by_cases hlt : k < m
        · have hlt' : (k : Int) < (m : Int) := by omega
          obtain ⟨g, off, r, rfl, hg, hx0, hrl, hr⟩ := RdR.at_ hr4 hlt
          obtain ⟨x, hx, rfl⟩ : ∃ x, Z[k]? = some x ∧ r = slC x := by
            rw [List.getElem?_map] at hx0
            cases hz : Z[k]? with
            | none => rw [hz] at hx0; cases hx0
            | some x => rw [hz] at hx0; injection hx0 with hx0; exact ⟨x, rfl, hx0.symm⟩
          have k0 := (hb.cell (p := ⟨g, off + k * 3 + 0, none⟩) hg).trans (hr 0 _ rfl)
          have k1 := (hb.cell (p := ⟨g, off + k * 3 + 1, none⟩) hg).trans (hr 1 _ rfl)
          have k2 := (hb.cell (p := ⟨g, off + k * 3 + 2, none⟩) hg).trans (hr 2 _ rfl)
          rw [Nat.add_zero] at k0
          have hfl : fcs ((Z.take k).map fldOf) ++ fcs [fldOf x] = fcs ((Z.take (k + 1)).map fldOf) := by rw [take_succ hx, List.map_append, fcs_app]; rfl
          obtain ⟨z1, g1, m1⟩ := x
          have hany := fun w => shAny_any z1 g1 w
          have hfo : fldOf (z1, g1, m1) = anyF z1 g1 := rfl
          rw [hfo] at hfl
          generalize anyF z1 g1 = f at *
          obtain ⟨fs, fg, flo, fhi⟩ := f
          have hany2 : ∀ w, Calls Tryz.prog 55 #[.int .i64 z1, .bool g1] w fun e w' => e = .returned (.agg #[.int .i64 fs, .bool fg, .int .i64 flo, .int .i64 fhi]) ∧ Below w.heap.size w w' := hany
          have Hany := Lib.hid hany2
          have Hfl := Lib.hid hfl
          dsimp only at k0 k1 k2
          have hbn : Below wr.heap.size wr (wr.alloc (.cells #[.int .i64 z1, .bool g1, .int .i64 (m1 : Int)] 65)) := (Below.refl _ _).alloc (Nat.le_refl _) _
          have a0 := heap_alloc_new wr (.cells #[.int .i64 z1, .bool g1, .int .i64 (m1 : Int)] 65)
          have d0 := blk_cell (i := 0) (v := .int .i64 z1) a0 rfl
          have d1 := blk_cell (i := 1) (v := .bool g1) a0 rfl
          have hb4 := bnx hb hbn
          have own4 := own_up own3 hbn (Nat.le_refl _)
          clear hx hx0 hrl hr hany hany2 hfo hfl hb hbn a0 own3
          go_wp2_with fail
          go_fit (Hany.out _)
          rintro e w5 ⟨rfl, hbx⟩
          have hb5 := bnx hb4 hbx
          have own5 := own_up own4 hbx (Nat.le_refl _)
          have hbn : Below w5.heap.size w5 (w5.alloc (.cells #[.int .i64 fs, .bool fg, .int .i64 flo, .int .i64 fhi] 85)) := (Below.refl _ _).alloc (Nat.le_refl _) _
          have hrd : Rd (w5.alloc (.cells #[.int .i64 fs, .bool fg, .int .i64 flo, .int .i64 fhi] 85)) (w5.heap.size + 1) 4 (some ⟨w5.heap.size, 0, none⟩) 1 1 (fcs [⟨fs, fg, flo, fhi⟩]) := rd_litF w5 85 [⟨fs, fg, flo, fhi⟩] _ rfl (by simp [maxLen])
          have hb6 := bnx hb5 hbn
          have own6 := own_up own5 hbn (Nat.le_refl _)
          clear k0 k1 k2 d0 d1 hbx hb4 own4 hb5 own5 hbn
          go_wp2_with (at_builtin; refine stop_ ?_)
          generalize (w5.alloc (.cells #[.int .i64 fs, .bool fg, .int .i64 flo, .int .i64 fhi] 85)) = w6 at *
          refine go_ (wpList_appG (base := w2.heap.size) (n := k) Tryz.underlying60 Hi2.out rfl (by omega) own6 rfl hrd rfl (fcs_one _) (k := k + 1) rfl Hfl.out (by unfold maxLen; omega) (by omega) hb6.size ?_)
          intro A8 c8 w8 own8 hgr hob
          have hb8 := Below.grown hb6 hgr hb6.size (fun j hj => (own_blk own6 hj).1)
          clear hgr hob own6 hrd hb6
          go_wp2
          go_roundw
          case rel => exact ⟨k + 1, c8, A8, by omega, by go_num, rfl, hb8, own8⟩
          case measure => simp [intOf]; omega
        · obtain rfl : k = m := by omega
          have htk : Z.take k = Z := List.take_of_length_le (by rw [Hwl2.out]; exact Nat.le_refl _)
          rw [htk] at own3
          have hrf := rdF_own own3 Hfb.out
          have hrs : RdR wr wr.heap.size 3 A4 k c4 (Z.map slC) := RdR.more (RdR.up hr4 hb) hb.size
          have hbf := bnx hb2 hb
          clear own3 htk hr4 hb hb2
          go_wp2
          go_ret2
          exact ⟨A4, c4, A3, c3, rfl, hrs, hrf, hbf⟩

end Go.Proofs.YtonejdjhdjckjaaGreat

/-
  knows, SchemaWire walked (printed by gen_sch6.py).
-/
set_option linter.unusedSimpArgs false
set_option linter.unusedVariables false
namespace Go.Proofs.YtonejdjhdjckjaaGreat
open Go.RowKit NumLaw
attribute [local go_sem] Addr.add_mid
attribute [-go_sem] run_eql_struct run_neq_struct

theorem takeN_ne {α : Type} {L L' : List α} {k : Nat} {x y : α} (hx : L[k]? = some x) (hy : L'[k]? = some y) (h : L = L') : x = y := by
  subst h; rw [hx] at hy; injection hy
theorem frm0_len : (frm 0).2.length = 6 := by decide +kernel
theorem frm0_at : (stb PtT.sz (frm 0).2)[0]? = some ⟨⟨#[99, 117, 115, 116, 111, 109, 95, 109, 111, 100, 101]⟩, 4, false, 0⟩ := by rfl
theorem frm0_wd : wdS (frm 0).2 = 9 := by decide +kernel
theorem sz_down {L : List PtT} {k j : Nat} {x y : PtT} (hx : (stb PtT.sz L)[k]? = some x) (hy : (stb PtT.sz L)[j]? = some y) (h : j < k) : ¬ y.sz < x.sz := by
  have hs := List.pairwise_iff_getElem.1 (stb_sorted PtT.sz L)
  obtain ⟨hk, rfl⟩ := List.getElem?_eq_some_iff.1 hx
  obtain ⟨hj, rfl⟩ := List.getElem?_eq_some_iff.1 hy
  have := hs j k hj hk h
  omega
end Go.Proofs.YtonejdjhdjckjaaGreat

/-
  the document's Order walked (printed by gen_sch6.py).
-/
set_option linter.unusedSimpArgs false
set_option linter.unusedVariables false
namespace Go.Proofs.YtonejdjhdjckjaaGreat
open Go.RowKit NumLaw
attribute [local go_sem] Addr.add_mid
attribute [-go_sem] run_eql_struct run_neq_struct

def ptD : PtT := ⟨⟨#[]⟩, 0, false, 0⟩
def szK (L : List PtT) (k : Nat) : Int := (L.getD k ptD).sz
def ordS (L : List PtT) : List Nat := stb (szK L) (List.range L.length)
def ivR (L : List Nat) : List (List Value) := L.map fun k : Nat => [Value.int .i64 (k : Int)]
theorem ord_len (L : List PtT) : (ordS L).length = L.length := by unfold ordS; rw [stb_len, List.length_range]
theorem ord_mem (L : List PtT) : ∀ k ∈ ordS L, k < L.length := fun k hk => List.mem_range.1 ((stb_mem (szK L) _).1 hk)
theorem ord_map (L : List PtT) : ((List.range L.length).map fun k => L.getD k ptD) = L := by
  refine List.ext_getElem (by simp) fun i h1 h2 => ?_
  simp [List.getD_eq_getElem?_getD, List.getElem?_eq_getElem h2]
theorem ord_wire (L : List PtT) : ((ordS L).map fun k => L.getD k ptD) = stb PtT.sz L := by
  have := stb_map PtT.sz (fun k : Nat => L.getD k ptD) (List.range L.length)
  rw [ord_map] at this
  exact this
theorem szK_at {L : List PtT} {k : Nat} {x : PtT} (h : L[k]? = some x) : szK L k = x.sz := by unfold szK; rw [List.getD_eq_getElem?_getD, h]; rfl
theorem iv_flat (L : List Nat) : (ivR L).flatten = L.map fun k : Nat => Value.int .i64 (k : Int) := by unfold ivR; induction L <;> simp_all
theorem iv_one (L : List Nat) : ∀ u ∈ (ivR L).flatten, u.oneCell' = true := fun u hu => by
  rw [iv_flat] at hu
  obtain ⟨k, _, rfl⟩ := List.mem_map.1 hu
  rfl
theorem iv_row (L : List Nat) : ∀ r ∈ ivR L, r.length = 1 := fun r hr => by obtain ⟨k, _, rfl⟩ := List.mem_map.1 hr; rfl
theorem own_none {w : World} {base : Nat} {e : TypeId} {size n c : Nat} {xs : List Value} (h : w.ownsRow base e size (.slice none n c) n xs) : n = 0 ∧ c = 0 := by
  rcases h.2 with ⟨hv, h0⟩ | ⟨g, cap, cur, hv, _⟩
  · injection hv with _ e2 e3; exact ⟨e2, e3⟩
  · injection hv with e1; cases e1
set_option maxRecDepth 10000 in
set_option maxHeartbeats 8000000 in
theorem order31_own (A : Option Addr) (n c : Nat) (L : List PtT) (w : World) (h : RdP w w.heap.size A n c L) (hn : n ≤ 1000) :
    Calls Tryz.prog 35 #[.slice A n c] w fun e w' => ∃ (A' : Option Addr) (c' : Nat), e = .returned (.slice A' n c') ∧ RdN w' w'.heap.size A' n c' (ordS L) ∧ w'.ownsRow w.heap.size 3 1 (.slice A' n c') n (ivR (ordS L)).flatten ∧ Below w.heap.size w w' := by
  have hll := h.len
  have hmx := h.2.2.2.1
  have hle := h.2.2.1
  unfold maxLen at hmx
  obtain ⟨i1, hi1⟩ := info_parts int_info31
  have Hi1 := Lib.hid hi1
  have Hll := Lib.hid hll
  clear hll hi1
  go_enter Tryz.func35, Tryz.ntmps35
  go_wp2_with fail
  go_loopw [3, 4] (fun o i wr => ∃ (k c3 : Nat) (A3 : Option Addr), k ≤ n ∧ k ≤ c3 ∧ c3 ≤ 9223372036854775807 ∧ i = .int .i64 k ∧ o = .slice A3 k c3 ∧ Below w.heap.size w wr ∧ Hid (wr.ownsRow w.heap.size 3 1 (.slice A3 k c3) k (ivR (stb (szK L) (List.range k))).flatten)) (fun _ i _ => n - (intOf i).toNat)
  case atStart => exact ⟨0, 0, none, by omega, by omega, by omega, rfl, rfl, Below.refl _ _, Lib.hid (World.ownsRow_nil _ _ _ _)⟩
  case round =>
    obtain ⟨k, c3, A3, hk, hc3, hmx3, rfl, rfl, hb, Hown⟩ := hrel
    by_cases hlt : k < n
    · have hlt' : (k : Int) < (n : Int) := by omega
      obtain ⟨O, hO⟩ : ∃ O, O = stb (szK L) (List.range k) := ⟨_, rfl⟩
      have hol : O.length = k := by rw [hO, stb_len, List.length_range]
      have hom : ∀ y ∈ O, y < k := fun y hy => by rw [hO] at hy; exact List.mem_range.1 ((stb_mem (szK L) _).1 hy)
      rw [← hO] at Hown
      have hrd : RdN wr wr.heap.size A3 k c3 O := RdR.own (ls := ivR O) Hown.out (by unfold ivR; rw [List.length_map]; exact hol) (iv_row O)
      have HO := Lib.hid hO
      have Hol := Lib.hid hol
      have Hom := Lib.hid hom
      have Hrd := Lib.hid hrd
      have hP : RdP wr wr.heap.size A n c L := RdR.more (RdR.up h hb) hb.size
      have HP := Lib.hid hP
      obtain ⟨w1, hw1⟩ : ∃ w1, w1 = wr := ⟨_, rfl⟩
      subst hw1
      clear hO hol hom hrd hP
      go_wp2_with fail
      go_loopw [5] (fun t wr => ∃ (q : Nat) (p s : List Nat), q ≤ k ∧ t = .int .i64 q ∧ Hid (p.length = q) ∧ Hid (O = p ++ s ∧ ∀ y ∈ s, szK L y < szK L k) ∧ Below w1.heap.size w1 wr) (fun t _ => (intOf t).toNat)
      case atStart => exact ⟨k, O, [], by omega, rfl, Hol, Lib.hid ⟨by simp, by simp⟩, Below.refl _ _⟩
      case round =>
        obtain ⟨q, p, s, hq, rfl, Hp, Hs, hS⟩ := hrel
        by_cases hq0 : q = 0
        · have hst := stb_at (szK L) (by rw [← HO.out]; exact Hs.out.1) Hs.out.2 (.inl (List.eq_nil_of_length_eq_zero (by rw [Hp.out, hq0])))
          have Hst := Lib.hid hst
          have hdt : decide ((0 : Int) < (q : Int)) = false := decide_eq_false (by omega)
          have hdt2 : decide (0 < q) = false := decide_eq_false (by omega)
          clear hst hq0
          go_wp2_with fail
          refine Ord.region_ (fun w' => Below w1.heap.size w1 w') false [] (by kernel_rfl) (by kernel_rfl) hS.drew ?_
          replace hS := hS.drew
          generalize wr.drew = wd at *
          ((with_reducible refine Ord.e_p (v := ?_) ?_ ?_ ?_ ?_); rotate_left; (· exact rfl); (· kernel_rfl); (· intro w2; go_simp; try with_reducible rfl))
          (try simp only [Act.put, List.setIfInBounds_toArray, List.set_cons_zero, List.set_cons_succ])
          ((with_reducible refine Ord.e_p (v := ?_) ?_ ?_ ?_ ?_); rotate_left; (· exact rfl); (· kernel_rfl); (· intro w2; go_simp; try with_reducible rfl))
          (try simp only [Act.put, List.setIfInBounds_toArray, List.set_cons_zero, List.set_cons_succ])
          ((with_reducible refine Ord.e_p (v := ?_) ?_ ?_ ?_ ?_); rotate_left; (· exact rfl); (· kernel_rfl); (· intro w2; go_simp; try with_reducible rfl))
          (try simp only [Act.put, List.setIfInBounds_toArray, List.set_cons_zero, List.set_cons_succ])
          ((with_reducible refine Ord.e_u ?_ ?_); (· kernel_rfl))
          (try simp only [Act.put, List.setIfInBounds_toArray, List.set_cons_zero, List.set_cons_succ])
          ((with_reducible refine Ord.e_u ?_ ?_); (· kernel_rfl))
          (try simp only [Act.put, List.setIfInBounds_toArray, List.set_cons_zero, List.set_cons_succ])
          ((with_reducible refine Ord.e_u ?_ ?_); (· kernel_rfl))
          (try simp only [Act.put, List.setIfInBounds_toArray, List.set_cons_zero, List.set_cons_succ])
          ((with_reducible refine Ord.e_u ?_ ?_); (· kernel_rfl))
          (try simp only [Act.put, List.setIfInBounds_toArray, List.set_cons_zero, List.set_cons_succ])
          ((with_reducible refine Ord.e_u ?_ ?_); (· kernel_rfl))
          (try simp only [Act.put, List.setIfInBounds_toArray, List.set_cons_zero, List.set_cons_succ])
          ((with_reducible refine Ord.e_u ?_ ?_); (· kernel_rfl))
          (try simp only [Act.put, List.setIfInBounds_toArray, List.set_cons_zero, List.set_cons_succ])
          ((with_reducible refine Ord.e_u ?_ ?_); (· kernel_rfl))
          (try simp only [Act.put, List.setIfInBounds_toArray, List.set_cons_zero, List.set_cons_succ])
          ((with_reducible refine Ord.e_u ?_ ?_); (· kernel_rfl))
          (try simp only [Act.put, List.setIfInBounds_toArray, List.set_cons_zero, List.set_cons_succ])
          ((with_reducible refine Ord.e_u ?_ ?_); (· kernel_rfl))
          (try simp only [Act.put, List.setIfInBounds_toArray, List.set_cons_zero, List.set_cons_succ])
          ((with_reducible refine Ord.e_u ?_ ?_); (· kernel_rfl))
          (try simp only [Act.put, List.setIfInBounds_toArray, List.set_cons_zero, List.set_cons_succ])
          ((with_reducible refine Ord.e_u ?_ ?_); (· kernel_rfl))
          (try simp only [Act.put, List.setIfInBounds_toArray, List.set_cons_zero, List.set_cons_succ])
          ((with_reducible refine Ord.e_u ?_ ?_); (· kernel_rfl))
          (try simp only [Act.put, List.setIfInBounds_toArray, List.set_cons_zero, List.set_cons_succ])
          ((with_reducible refine Ord.e_u ?_ ?_); (· kernel_rfl))
          (try simp only [Act.put, List.setIfInBounds_toArray, List.set_cons_zero, List.set_cons_succ])
          ((with_reducible refine Ord.e_u ?_ ?_); (· kernel_rfl))
          (try simp only [Act.put, List.setIfInBounds_toArray, List.set_cons_zero, List.set_cons_succ])
          ((with_reducible refine Ord.e_u ?_ ?_); (· kernel_rfl))
          (try simp only [Act.put, List.setIfInBounds_toArray, List.set_cons_zero, List.set_cons_succ])
          ((with_reducible refine Ord.e_p (v := ?_) ?_ ?_ ?_ ?_); rotate_left; (· exact rfl); (· kernel_rfl); (· intro w2; go_simp; try with_reducible rfl))
          (try simp only [Act.put, List.setIfInBounds_toArray, List.set_cons_zero, List.set_cons_succ])
          refine Ord.e_nil ?_
          clear hdt hdt2
          have own3 := own_up Hown.out hS (Nat.le_refl _)
          have hbd := bnx hb hS
          have hrd3 : Rd wd wd.heap.size 1 A3 k c3 (ivR O).flatten := Rd.own own3
          have hps : (ivR p).flatten = ((ivR O).flatten).take (q * 1) := by rw [iv_flat, iv_flat, Hs.out.1, List.map_append, Nat.mul_one, ← Hp.out, ← List.length_map (f := fun k : Nat => Value.int .i64 (k : Int)), List.take_left]
          have hss : (ivR s).flatten = ((ivR O).flatten).drop (q * 1) := by rw [iv_flat, iv_flat, Hs.out.1, List.map_append, Nat.mul_one, ← Hp.out, ← List.length_map (f := fun k : Nat => Value.int .i64 (k : Int)), List.drop_left]
          have hdr := hrd3.drop' hq
          have htk := hrd3.take hq
          rw [← hss] at hdr
          rw [← hps] at htk
          have hno := fun (e : A3 = none) => own_none (e ▸ own3)
          have hc1 := fun w => run_cut_l (P := Tryz.prog) Tryz.underlying68 Hi1.out.1 Hi1.out.2.2.1 A3 k c3 q hq w
          have hc2 := fun w => run_cut_hm (P := Tryz.prog) Tryz.underlying68 Hi1.out.1 A3 k c3 q (by omega) w
          have Hdr := Lib.hid hdr
          have Htk := Lib.hid htk
          have Hno := Lib.hid hno
          have hkq1 : q ≤ k := hq
          clear hno hdr htk hps hss hrd3 own3 hS hb Hown Hrd HP
          go_wp2_with (at_builtin; refine stop_ ?_)
          have hba : Below wd.heap.size wd (wd.alloc (.cells #[] 3)) := (Below.refl _ _).alloc (Nat.le_refl _) _
          have owe := own_empty wd wd.heap.size 3 (Nat.le_refl _) 1
          have hdr2 := (Hdr.out.up hba)
          have hsz2 := hba.size
          generalize (wd.alloc (.cells #[] 3)) = w2 at *
          refine go_ (wpList_appG (base := wd.heap.size) (n := 0) Tryz.underlying68 Hi1.out rfl (by omega) owe rfl hdr2 rfl (iv_one s) (k := k - q) (by omega) (List.nil_append _) (by unfold maxLen; omega) (by omega) hsz2 ?_)
          intro A5 c5 w5 own5 hgr hob
          have hb5 : Below wd.heap.size wd w5 := Below.grown hba hgr hba.size (fun j hj => (own_blk owe hj).1)
          clear hgr hob owe hdr2 hba Hdr
          go_wp2_with (at_builtin; refine stop_ ?_)
          have hb56 : Below w5.heap.size w5 (w5.alloc (.cells #[.int .i64 (k : Int)] 3)) := (Below.refl _ _).alloc (Nat.le_refl _) _
          have k0 : (w5.alloc (.cells #[.int .i64 (k : Int)] 3)).cell? ⟨w5.heap.size, 0, none⟩ = some (.int .i64 (k : Int)) := blk_cell (heap_alloc_new w5 _) rfl
          have hb6 := bnx hb5 hb56
          have hsw6 : w.heap.size ≤ (w5.alloc (.cells #[.int .i64 (k : Int)] 3)).heap.size := Nat.le_trans hbd.size hb6.size
          have own6 := own_up own5 hb56 (Nat.le_refl _)
          have htk6 := Htk.out.up hb6
          generalize (w5.alloc (.cells #[.int .i64 (k : Int)] 3)) = w6 at *
          refine go_ (wpList_append_grows w6 rfl _ _ _ rfl 3 i1 (.int .i64 0) 1 8 Tryz.underlying68 Hi1.out.1 Hi1.out.2.1 Hi1.out.2.2.1 Hi1.out.2.2.2 rfl (by omega) A3 q q (ivR p).flatten rfl (fun e => by have := (Hno.out e).1; omega) htk6.len (fun b hb j u hj => by
            have hq1 : 0 < q := by
              rcases Nat.eq_zero_or_pos q with h0 | h0
              · have h1 := htk6.len
                rw [h0] at h1
                have h2 : (ivR p).flatten = [] := List.eq_nil_of_length_eq_zero (by rw [h1])
                rw [h2] at hj
                simp at hj
              · exact h0
            obtain ⟨ad, e, _, hc⟩ := htk6.at_ hq1
            rw [hb] at e
            injection e with e
            subst e
            exact hc j u hj) ⟨w5.heap.size, 0, none⟩ 1 1 [.int .i64 (k : Int)] rfl rfl (fun j u hj => by
            cases j with
            | zero => injection hj with hj; subst hj; simpa [Addr.add] using k0
            | succ j => simp at hj) (fun u hu => by rw [List.mem_singleton.1 hu]; rfl) (by omega) (by unfold maxLen; omega) (by omega) ?_)
          intro v7 w7 own7 hgr
          obtain ⟨A7, c7, rfl⟩ := own_sl own7
          have hb67 : Below w6.heap.size w6 w7 := Below.grown (Below.refl _ _) hgr (Nat.le_refl _) (fun j hj => by cases hj)
          have hb7 := bnx hb6 hb67
          have hrd7 := Rd.own (own_up own6 hb67 (Nat.le_refl _))
          clear hgr own5 own6 hb5 hb56 hb6 k0 htk6
          go_wp2_with (at_builtin; refine stop_ ?_)
          refine go_ (wpList_appG (base := w6.heap.size) (n := q + 1) Tryz.underlying68 Hi1.out rfl (by omega) own7 rfl hrd7 rfl (iv_one s) (k := k + 1) (by omega) (ys := (ivR (stb (szK L) (List.range (k + 1)))).flatten) (by rw [List.range_succ, Hst.out]; simp [ivR]) (by unfold maxLen; omega) (by omega) hb67.size ?_)
          intro A8 c8 w8 own8 hgr hob
          have hb78 : Below w6.heap.size w6 w8 := Below.grown hb67 hgr hb67.size (fun j hj => (own_blk own7 hj).1)
          have hb8 : Below w.heap.size w w8 := Below.grown (bnx hbd hb7) hgr (bnx hbd hb7).size (fun j hj => Nat.le_trans hsw6 (own_blk own7 hj).1)
          have hrd8 := Rd.own own8
          have hle8 := hrd8.le
          have hmx8 := hrd8.max
          unfold maxLen at hmx8
          have Hown8 := Lib.hid (own_mono own8 (base' := w.heap.size) hsw6)
          clear hgr hob own7 hrd7 own8 hrd8 hb78 hb67 hb7 hbd Htk Hno Hst Hs Hp
          go_wp2
          go_roundw
          case rel => exact ⟨k + 1, c8, A8, by omega, hle8, hmx8, by go_num, rfl, hb8, Hown8⟩
          case measure => simp [intOf]; omega
        · obtain ⟨j, hj⟩ : ∃ j, q = j + 1 := ⟨q - 1, by omega⟩
          have Hj := Lib.hid hj
          obtain ⟨y, hy⟩ : ∃ y, p[j]? = some y := ⟨_, List.getElem?_eq_getElem (by rw [Hp.out]; omega)⟩
          have hpy : p = p.take j ++ [y] := by
            have := take_succ hy
            rwa [List.take_of_length_le (by rw [Hp.out]; omega)] at this
          have hyO : O[j]? = some y := by rw [Hs.out.1, List.getElem?_append_left (by rw [Hp.out]; omega)]; exact hy
          have hyk : y < k := Hom.out y (List.mem_of_getElem? hyO)
          obtain ⟨p', hp'⟩ : ∃ p', p' = p.take j := ⟨_, rfl⟩
          rw [← hp'] at hpy
          have hpl' : p'.length = j := by have := Hp.out; rw [hpy, List.length_append] at this; simp at this; omega
          have hjk : j < k := by omega
          obtain ⟨g3, o3, y', rfl, hg3, hy', hc3y⟩ := RdN.at_ Hrd.out hjk
          obtain rfl : y = y' := by rw [hyO] at hy'; injection hy'
          obtain ⟨g, off, X, rfl, hg, hX, hrX⟩ := RdP.at_ HP.out hlt
          obtain ⟨g', off', Y, hgg, hg', hY, hrY⟩ := RdP.at_ HP.out (show y < n by omega)
          injection hgg with hgg
          injection hgg with e1 e2 _
          subst e1
          subst e2
          have Hro := Lib.hid (show ∀ w', Below w1.heap.size w1 w' → w'.cell? ⟨g3, o3 + j, none⟩ = some (.int .i64 (y : Int)) from fun w' hb' => (hb'.cell (p := ⟨g3, o3 + j, none⟩) hg3).trans hc3y)
          have Hrx := Lib.hid (show ∀ w', Below w1.heap.size w1 w' → w'.cell? ⟨g, off + k * 4 + 1, none⟩ = some (.int .i64 (szK L k)) from fun w' hb' => (hb'.cell (p := ⟨g, off + k * 4 + 1, none⟩) hg).trans (by rw [szK_at hX]; exact hrX 1 _ rfl))
          have Hry := Lib.hid (show ∀ w', Below w1.heap.size w1 w' → w'.cell? ⟨g, off + y * 4 + 1, none⟩ = some (.int .i64 (szK L y)) from fun w' hb' => (hb'.cell (p := ⟨g, off + y * 4 + 1, none⟩) hg).trans (by rw [szK_at hY]; exact hrY 1 _ rfl))
          have Hpp := Lib.hid (And.intro hpy hpl')
          have hqn : (q : Int) < (n : Int) + 1 := by omega
          have hjk' : (j : Int) < (k : Int) := by omega
          have hyn : (y : Int) < (n : Int) := by omega
          have hyn2 : y < n := by omega
          have hdt : decide ((0 : Int) < (q : Int)) = true := decide_eq_true (by omega)
          have hdt2 : decide (0 < q) = true := decide_eq_true (by omega)
          have hw0 : IntKind.i64.wrap ((q : Int) - 1) = (j : Int) := by have := Hj.out; rw [IntWalk.i64_in _ (by omega)]; omega
          obtain ⟨zx, hzx⟩ : ∃ z, z = szK L k := ⟨_, rfl⟩
          obtain ⟨zy, hzy⟩ : ∃ z, z = szK L y := ⟨_, rfl⟩
          rw [← hzx] at Hrx
          rw [← hzy] at Hry
          have Hz := Lib.hid (And.intro hzx hzy)
          clear hj hy hpy hyO hp' hpl' hy' hc3y hX hY hrX hrY hg' hg hg3 hq0 hzx hzy
          go_wp2_with fail
          refine Ord.region_ (fun w' => Below w1.heap.size w1 w') false [] (by kernel_rfl) (by kernel_rfl) hS.drew ?_
          replace hS := hS.drew
          generalize wr.drew = wd at *
          ((with_reducible refine Ord.e_p (v := ?_) ?_ ?_ ?_ ?_); rotate_left; (· exact rfl); (· kernel_rfl); (· intro w2; go_simp; try with_reducible rfl))
          (try simp only [Act.put, List.setIfInBounds_toArray, List.set_cons_zero, List.set_cons_succ])
          ((with_reducible refine Ord.e_p (v := ?_) ?_ ?_ ?_ ?_); rotate_left; (· exact rfl); (· kernel_rfl); (· intro w2; go_simp; try with_reducible rfl))
          (try simp only [Act.put, List.setIfInBounds_toArray, List.set_cons_zero, List.set_cons_succ])
          ((with_reducible refine Ord.e_p (v := ?_) ?_ ?_ ?_ ?_); rotate_left; (· exact rfl); (· kernel_rfl); (· intro w2; go_simp; try with_reducible rfl))
          (try simp only [Act.put, List.setIfInBounds_toArray, List.set_cons_zero, List.set_cons_succ])
          ((with_reducible refine Ord.e_p (v := ?_) ?_ ?_ ?_ ?_); rotate_left; (· exact rfl); (· kernel_rfl); (· intro w2; go_simp; try with_reducible rfl))
          (try simp only [Act.put, List.setIfInBounds_toArray, List.set_cons_zero, List.set_cons_succ])
          ((with_reducible refine Ord.e_p (v := ?_) ?_ ?_ ?_ ?_); rotate_left; (· exact rfl); (· kernel_rfl); (· intro w2; go_simp; try with_reducible rfl))
          (try simp only [Act.put, List.setIfInBounds_toArray, List.set_cons_zero, List.set_cons_succ])
          ((with_reducible refine Ord.e_p (v := ?_) ?_ ?_ ?_ ?_); rotate_left; (· exact rfl); (· kernel_rfl); (· intro w2; go_simp; try with_reducible rfl))
          (try simp only [Act.put, List.setIfInBounds_toArray, List.set_cons_zero, List.set_cons_succ])
          refine Ord.e_p (v := .int .i64 (j : Int)) rfl (by kernel_rfl) (fun w2 => by go_simp) ?_
          (try simp only [Act.put, List.setIfInBounds_toArray, List.set_cons_zero, List.set_cons_succ])
          ((with_reducible refine Ord.e_p (v := ?_) ?_ ?_ ?_ ?_); rotate_left; (· exact rfl); (· kernel_rfl); (· intro w2; go_simp; try with_reducible rfl))
          (try simp only [Act.put, List.setIfInBounds_toArray, List.set_cons_zero, List.set_cons_succ])
          refine Ord.e_loadS (ad := ⟨g3, o3 + j, none⟩) Tryz.underlying3 rfl (fun w' hS => Hro.out w' hS) hS rfl (by kernel_rfl) ?_
          (try simp only [Act.put, List.setIfInBounds_toArray, List.set_cons_zero, List.set_cons_succ])
          ((with_reducible refine Ord.e_p (v := ?_) ?_ ?_ ?_ ?_); rotate_left; (· exact rfl); (· kernel_rfl); (· intro w2; go_simp; try with_reducible rfl))
          (try simp only [Act.put, List.setIfInBounds_toArray, List.set_cons_zero, List.set_cons_succ])
          ((with_reducible refine Ord.e_p (v := ?_) ?_ ?_ ?_ ?_); rotate_left; (· exact rfl); (· kernel_rfl); (· intro w2; go_simp; try with_reducible rfl))
          (try simp only [Act.put, List.setIfInBounds_toArray, List.set_cons_zero, List.set_cons_succ])
          refine Ord.e_loadS (ad := ⟨g, off + y * 4 + 1, none⟩) Tryz.underlying3 rfl (fun w' hS => Hry.out w' hS) hS rfl (by kernel_rfl) ?_
          (try simp only [Act.put, List.setIfInBounds_toArray, List.set_cons_zero, List.set_cons_succ])
          ((with_reducible refine Ord.e_p (v := ?_) ?_ ?_ ?_ ?_); rotate_left; (· exact rfl); (· kernel_rfl); (· intro w2; go_simp; try with_reducible rfl))
          (try simp only [Act.put, List.setIfInBounds_toArray, List.set_cons_zero, List.set_cons_succ])
          ((with_reducible refine Ord.e_p (v := ?_) ?_ ?_ ?_ ?_); rotate_left; (· exact rfl); (· kernel_rfl); (· intro w2; go_simp; try with_reducible rfl))
          (try simp only [Act.put, List.setIfInBounds_toArray, List.set_cons_zero, List.set_cons_succ])
          ((with_reducible refine Ord.e_p (v := ?_) ?_ ?_ ?_ ?_); rotate_left; (· exact rfl); (· kernel_rfl); (· intro w2; go_simp; try with_reducible rfl))
          (try simp only [Act.put, List.setIfInBounds_toArray, List.set_cons_zero, List.set_cons_succ])
          ((with_reducible refine Ord.e_p (v := ?_) ?_ ?_ ?_ ?_); rotate_left; (· exact rfl); (· kernel_rfl); (· intro w2; go_simp; try with_reducible rfl))
          (try simp only [Act.put, List.setIfInBounds_toArray, List.set_cons_zero, List.set_cons_succ])
          refine Ord.e_loadS (ad := ⟨g, off + k * 4 + 1, none⟩) Tryz.underlying3 rfl (fun w' hS => Hrx.out w' hS) hS rfl (by kernel_rfl) ?_
          (try simp only [Act.put, List.setIfInBounds_toArray, List.set_cons_zero, List.set_cons_succ])
          by_cases hyx : zy < zx
          · refine Ord.e_p (v := .bool true) rfl (by kernel_rfl) (fun w2 => by go_simp) ?_
            (try simp only [Act.put, List.setIfInBounds_toArray, List.set_cons_zero, List.set_cons_succ])
            ((with_reducible refine Ord.e_p (v := ?_) ?_ ?_ ?_ ?_); rotate_left; (· exact rfl); (· kernel_rfl); (· intro w2; go_simp; try with_reducible rfl))
            (try simp only [Act.put, List.setIfInBounds_toArray, List.set_cons_zero, List.set_cons_succ])
            refine Ord.e_nil ?_
            have Hs2 := Lib.hid (show O = p' ++ (y :: s) ∧ ∀ z ∈ (y :: s), szK L z < szK L k from ⟨by rw [Hs.out.1, Hpp.out.1]; simp, fun z hz => by
              rcases List.mem_cons.1 hz with rfl | hz
              · rw [← Hz.out.1, ← Hz.out.2]; exact hyx
              · exact Hs.out.2 z hz⟩)
            go_wp2
            go_roundw
            case rel => exact ⟨j, p', y :: s, by have := Hj.out; omega, by go_num, Lib.hid Hpp.out.2, Hs2, hS⟩
            case measure => simp [intOf]; have := Hj.out; omega
          · refine Ord.e_p (v := .bool false) rfl (by kernel_rfl) (fun w2 => by go_simp) ?_
            (try simp only [Act.put, List.setIfInBounds_toArray, List.set_cons_zero, List.set_cons_succ])
            ((with_reducible refine Ord.e_p (v := ?_) ?_ ?_ ?_ ?_); rotate_left; (· exact rfl); (· kernel_rfl); (· intro w2; go_simp; try with_reducible rfl))
            (try simp only [Act.put, List.setIfInBounds_toArray, List.set_cons_zero, List.set_cons_succ])
            refine Ord.e_nil ?_
            have hst := stb_at (szK L) (by rw [← HO.out]; exact Hs.out.1) Hs.out.2 (.inr ⟨p', y, Hpp.out.1, by rw [← Hz.out.1, ← Hz.out.2]; exact hyx⟩)
            have Hst := Lib.hid hst
            obtain ⟨A3, hA3⟩ : ∃ A3 : Option Addr, A3 = some ⟨g3, o3, none⟩ := ⟨_, rfl⟩
            rw [← hA3] at Hrd Hown ⊢
            clear hst hw0 hdt hdt2 hyx Hro Hrx Hry hA3 hyn hyn2 hjk hjk' hyk hqn
            have own3 := own_up Hown.out hS (Nat.le_refl _)
            have hbd := bnx hb hS
            have hrd3 : Rd wd wd.heap.size 1 A3 k c3 (ivR O).flatten := Rd.own own3
            have hps : (ivR p).flatten = ((ivR O).flatten).take (q * 1) := by rw [iv_flat, iv_flat, Hs.out.1, List.map_append, Nat.mul_one, ← Hp.out, ← List.length_map (f := fun k : Nat => Value.int .i64 (k : Int)), List.take_left]
            have hss : (ivR s).flatten = ((ivR O).flatten).drop (q * 1) := by rw [iv_flat, iv_flat, Hs.out.1, List.map_append, Nat.mul_one, ← Hp.out, ← List.length_map (f := fun k : Nat => Value.int .i64 (k : Int)), List.drop_left]
            have hdr := hrd3.drop' hq
            have htk := hrd3.take hq
            rw [← hss] at hdr
            rw [← hps] at htk
            have hno := fun (e : A3 = none) => own_none (e ▸ own3)
            have hc1 := fun w => run_cut_l (P := Tryz.prog) Tryz.underlying68 Hi1.out.1 Hi1.out.2.2.1 A3 k c3 q hq w
            have hc2 := fun w => run_cut_hm (P := Tryz.prog) Tryz.underlying68 Hi1.out.1 A3 k c3 q (by omega) w
            have Hdr := Lib.hid hdr
            have Htk := Lib.hid htk
            have Hno := Lib.hid hno
            have hkq1 : q ≤ k := hq
            clear hno hdr htk hps hss hrd3 own3 hS hb Hown Hrd HP
            go_wp2_with (at_builtin; refine stop_ ?_)
            have hba : Below wd.heap.size wd (wd.alloc (.cells #[] 3)) := (Below.refl _ _).alloc (Nat.le_refl _) _
            have owe := own_empty wd wd.heap.size 3 (Nat.le_refl _) 1
            have hdr2 := (Hdr.out.up hba)
            have hsz2 := hba.size
            generalize (wd.alloc (.cells #[] 3)) = w2 at *
            refine go_ (wpList_appG (base := wd.heap.size) (n := 0) Tryz.underlying68 Hi1.out rfl (by omega) owe rfl hdr2 rfl (iv_one s) (k := k - q) (by omega) (List.nil_append _) (by unfold maxLen; omega) (by omega) hsz2 ?_)
            intro A5 c5 w5 own5 hgr hob
            have hb5 : Below wd.heap.size wd w5 := Below.grown hba hgr hba.size (fun j hj => (own_blk owe hj).1)
            clear hgr hob owe hdr2 hba Hdr
            go_wp2_with (at_builtin; refine stop_ ?_)
            have hb56 : Below w5.heap.size w5 (w5.alloc (.cells #[.int .i64 (k : Int)] 3)) := (Below.refl _ _).alloc (Nat.le_refl _) _
            have k0 : (w5.alloc (.cells #[.int .i64 (k : Int)] 3)).cell? ⟨w5.heap.size, 0, none⟩ = some (.int .i64 (k : Int)) := blk_cell (heap_alloc_new w5 _) rfl
            have hb6 := bnx hb5 hb56
            have hsw6 : w.heap.size ≤ (w5.alloc (.cells #[.int .i64 (k : Int)] 3)).heap.size := Nat.le_trans hbd.size hb6.size
            have own6 := own_up own5 hb56 (Nat.le_refl _)
            have htk6 := Htk.out.up hb6
            generalize (w5.alloc (.cells #[.int .i64 (k : Int)] 3)) = w6 at *
            refine go_ (wpList_append_grows w6 rfl _ _ _ rfl 3 i1 (.int .i64 0) 1 8 Tryz.underlying68 Hi1.out.1 Hi1.out.2.1 Hi1.out.2.2.1 Hi1.out.2.2.2 rfl (by omega) A3 q q (ivR p).flatten rfl (fun e => by have := (Hno.out e).1; omega) htk6.len (fun b hb j u hj => by
              have hq1 : 0 < q := by
                rcases Nat.eq_zero_or_pos q with h0 | h0
                · have h1 := htk6.len
                  rw [h0] at h1
                  have h2 : (ivR p).flatten = [] := List.eq_nil_of_length_eq_zero (by rw [h1])
                  rw [h2] at hj
                  simp at hj
                · exact h0
              obtain ⟨ad, e, _, hc⟩ := htk6.at_ hq1
              rw [hb] at e
              injection e with e
              subst e
              exact hc j u hj) ⟨w5.heap.size, 0, none⟩ 1 1 [.int .i64 (k : Int)] rfl rfl (fun j u hj => by
              cases j with
              | zero => injection hj with hj; subst hj; simpa [Addr.add] using k0
              | succ j => simp at hj) (fun u hu => by rw [List.mem_singleton.1 hu]; rfl) (by omega) (by unfold maxLen; omega) (by omega) ?_)
            intro v7 w7 own7 hgr
            obtain ⟨A7, c7, rfl⟩ := own_sl own7
            have hb67 : Below w6.heap.size w6 w7 := Below.grown (Below.refl _ _) hgr (Nat.le_refl _) (fun j hj => by cases hj)
            have hb7 := bnx hb6 hb67
            have hrd7 := Rd.own (own_up own6 hb67 (Nat.le_refl _))
            clear hgr own5 own6 hb5 hb56 hb6 k0 htk6
            go_wp2_with (at_builtin; refine stop_ ?_)
            refine go_ (wpList_appG (base := w6.heap.size) (n := q + 1) Tryz.underlying68 Hi1.out rfl (by omega) own7 rfl hrd7 rfl (iv_one s) (k := k + 1) (by omega) (ys := (ivR (stb (szK L) (List.range (k + 1)))).flatten) (by rw [List.range_succ, Hst.out]; simp [ivR]) (by unfold maxLen; omega) (by omega) hb67.size ?_)
            intro A8 c8 w8 own8 hgr hob
            have hb78 : Below w6.heap.size w6 w8 := Below.grown hb67 hgr hb67.size (fun j hj => (own_blk own7 hj).1)
            have hb8 : Below w.heap.size w w8 := Below.grown (bnx hbd hb7) hgr (bnx hbd hb7).size (fun j hj => Nat.le_trans hsw6 (own_blk own7 hj).1)
            have hrd8 := Rd.own own8
            have hle8 := hrd8.le
            have hmx8 := hrd8.max
            unfold maxLen at hmx8
            have Hown8 := Lib.hid (own_mono own8 (base' := w.heap.size) hsw6)
            clear hgr hob own7 hrd7 own8 hrd8 hb78 hb67 hb7 hbd Htk Hno Hst Hs Hp
            go_wp2
            go_roundw
            case rel => exact ⟨k + 1, c8, A8, by omega, hle8, hmx8, by go_num, rfl, hb8, Hown8⟩
            case measure => simp [intOf]; omega
    · obtain rfl : k = n := by omega
      have hst : stb (szK L) (List.range k) = ordS L := by unfold ordS; rw [Hll.out]
      rw [hst] at Hown
      have hrp : RdN wr wr.heap.size A3 k c3 (ordS L) := RdR.own (ls := ivR (ordS L)) Hown.out (by unfold ivR; rw [List.length_map, ord_len]; exact Hll.out) (iv_row _)
      have hown := Hown.out
      clear Hown hst
      go_wp2
      go_ret
      exact ⟨A3, c3, rfl, hrp, hown, hb⟩
theorem order31_any (A : Option Addr) (n c : Nat) (L : List PtT) (w : World) (h : RdP w w.heap.size A n c L) (hn : n ≤ 1000) :
    Calls Tryz.prog 35 #[.slice A n c] w fun e w' => ∃ (A' : Option Addr) (c' : Nat), e = .returned (.slice A' n c') ∧ RdN w' w'.heap.size A' n c' (ordS L) ∧ Below w.heap.size w w' :=
  (order31_own A n c L w h hn).mono fun e w' ⟨A', c', h1, h2, _, h4⟩ => ⟨A', c', h1, h2, h4⟩

end Go.Proofs.YtonejdjhdjckjaaGreat
