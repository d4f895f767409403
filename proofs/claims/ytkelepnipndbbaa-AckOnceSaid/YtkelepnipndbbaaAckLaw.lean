/-
  The book's plain law: what is heard is one less.
-/
import Derived.Test.YtkelepnipndbbaaAck12
set_option linter.unusedSimpArgs false
set_option linter.unusedVariables false
namespace Go.Proofs.Ytkelepnipndbbaa

theorem cntA_cons (q p : Int × Int) (l : List (Int × Int)) : cntA q (p :: l) = (if (p.1 == q.1 && p.2 == q.2) = true then 1 else 0) + cntA q l := by
  unfold cntA
  simp only [List.filter_cons]
  split <;> simp <;> omega
theorem idxI_none (q : Int × Int) : ∀ (l : List (Int × Int)) (k : Nat), idxI q k l < 0 → cntA q l = 0
  | [], _, _ => rfl
  | p :: l, k, h => by
    unfold idxI at h
    split at h
    · omega
    · rename_i hne
      rw [cntA_cons, if_neg hne, idxI_none q l (k + 1) h]
theorem idxI_some (q : Int × Int) : ∀ (l : List (Int × Int)) (k j : Nat), idxI q k l = ((k + j : Nat) : Int) → j < l.length ∧ cntA q l = cntA q (l.take j ++ l.drop (j + 1)) + 1
  | [], k, j, h => by unfold idxI at h; omega
  | p :: l, k, 0, h => by
    unfold idxI at h
    split at h
    · rename_i hp
      refine ⟨by simp, ?_⟩
      rw [cntA_cons, if_pos hp]
      simp; omega
    · have := idxI_range q l (k + 1)
      simp at h this
      omega
  | p :: l, k, j + 1, h => by
    unfold idxI at h
    split at h
    · simp at h; omega
    · rename_i hp
      obtain ⟨h1, h2⟩ := idxI_some q l (k + 1) j (by rw [h]; simp; omega)
      refine ⟨by simp; omega, ?_⟩
      rw [cntA_cons, if_neg hp, h2]
      simp only [List.take_succ_cons, List.drop_succ_cons, List.cons_append]
      rw [cntA_cons, if_neg hp]
      omega
/-- What Hear leaves. -/
theorem hear_cnt (q : Int × Int) (l : List (Int × Int)) : (idxI q 0 l < 0 ∧ dropAt l (idxI q 0 l) = l ∧ cntA q l = 0) ∨ (0 ≤ idxI q 0 l ∧ cntA q l = cntA q (dropAt l (idxI q 0 l)) + 1 ∧ l.length = (dropAt l (idxI q 0 l)).length + 1) := by
  rcases idxI_range q l 0 with h | ⟨h1, h2⟩
  · left
    refine ⟨by omega, ?_, idxI_none q l 0 (by omega)⟩
    unfold dropAt; rw [if_pos (by omega)]
  · right
    obtain ⟨j, hj⟩ : ∃ j : Nat, idxI q 0 l = j := ⟨(idxI q 0 l).toNat, by omega⟩
    obtain ⟨g1, g2⟩ := idxI_some q l 0 j (by rw [hj]; simp)
    have e : dropAt l (idxI q 0 l) = l.take j ++ l.drop (j + 1) := by rw [hj]; unfold dropAt; rw [if_neg (by omega)]; simp
    rw [e]
    refine ⟨by omega, g2, ?_⟩
    rw [List.length_append, List.length_take, List.length_drop]; omega

end Go.Proofs.Ytkelepnipndbbaa
