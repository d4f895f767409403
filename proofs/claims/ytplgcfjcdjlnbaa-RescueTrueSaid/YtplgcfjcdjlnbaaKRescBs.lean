/-
  Plain law of RescueBurst: a log of which one page was changed to one that cannot be taken.
-/
import Derived.Test.YtplgcfjcdjlnbaaKGU
set_option linter.unusedSimpArgs false
set_option linter.unusedVariables false
namespace Go.Proofs.Ytplgcfjcdjlnbaa
open Go.RowKit NumLaw CrcLaw

def setP (l : List UInt8) (i : Nat) (p : List UInt8) : List UInt8 := l.take (256 * i) ++ (p ++ l.drop (256 * i + 256))
theorem pgR_set_same {l p : List UInt8} {i : Nat} (hp : p.length = 256) (hi : 256 * i ≤ l.length) : pgR (setP l i p) i = p := by
  unfold pgR setP
  have h1 : (l.take (256 * i)).length = 256 * i := by rw [List.length_take]; omega
  rw [List.drop_append, List.drop_eq_nil_of_le (by omega), List.nil_append, h1, Nat.sub_self, List.drop_zero, List.take_append_of_le_length (by omega), List.take_of_length_le (by omega)]
theorem pgR_set_low {l p : List UInt8} {i k : Nat} (hk : k < i) (hi : 256 * i ≤ l.length) : pgR (setP l i p) k = pgR l k := by
  unfold pgR setP
  have h1 : (l.take (256 * i)).length = 256 * i := by rw [List.length_take]; omega
  rw [List.drop_append_of_le_length (by omega), List.take_append_of_le_length (by rw [List.length_drop]; omega), List.drop_take, List.take_take, show min 256 (256 * i - 256 * k) = 256 by omega]
set_option maxRecDepth 20000 in
theorem pgR_set_high {l p : List UInt8} {i k : Nat} (hp : p.length = 256) (hk : i < k) (hi : 256 * i ≤ l.length) : pgR (setP l i p) k = pgR l k := by
  unfold pgR setP
  have h1 : (l.take (256 * i)).length = 256 * i := by rw [List.length_take]; omega
  rw [List.drop_append, List.drop_eq_nil_of_le (by omega), List.nil_append, h1, List.drop_append, List.drop_eq_nil_of_le (by omega), List.nil_append, hp, List.drop_drop, show 256 * i + 256 + (256 * k - 256 * i - 256) = 256 * k by omega]
theorem readS_set_low {l p : List UInt8} {i : Nat} (hi : 256 * i ≤ l.length) : ∀ k, k ≤ i → readS (setP l i p) k = readS l k
  | 0, _ => rfl
  | k + 1, h => by
    show rdStep _ _ _ = rdStep _ _ _
    rw [readS_set_low hi k (by omega), pgR_set_low (by omega) hi]
/-- Behind the page that was changed: it alone is bad, its records are missing. -/
theorem readS_set_high {l p : List UInt8} {i : Nat} {L : List (Nat × List Int)} (hp : p.length = 256) (hi : 256 * i ≤ l.length) (hb : blkE p ≠ 0) (hl : readS l (i + 1) = ((readS l i).1 ++ L, (readS l i).2)) :
    ∀ j, (readS (setP l i p) (i + 1 + j)).1.length + L.length = (readS l (i + 1 + j)).1.length ∧ ∀ b, (readS l (i + 1 + j)).2 = b → (readS l i).2 = [] → b = [] → (readS (setP l i p) (i + 1 + j)).2 = [i]
  | 0 => by
    have hbad : ¬ goodR (pgR (setP l i p) i) i := fun h => hb (by rw [← pgR_set_same (l := l) (i := i) hp hi]; exact h.1)
    rw [Nat.add_zero, readS_bad hbad, readS_set_low hi i (Nat.le_refl _), hl]
    refine ⟨by rw [List.length_append], fun b h1 h2 h3 => ?_⟩
    show (readS l i).2 ++ [i] = _
    rw [h2]
    rfl
  | j + 1 => by
    obtain ⟨ih1, ih2⟩ := readS_set_high hp hi hb hl j
    rw [show i + 1 + (j + 1) = (i + 1 + j) + 1 by omega]
    have hpg : pgR (setP l i p) (i + 1 + j) = pgR l (i + 1 + j) := pgR_set_high hp (by omega) hi
    by_cases hg : goodR (pgR l (i + 1 + j)) (i + 1 + j)
    · rw [readS_good (l := l) hg, readS_good (l := setP l i p) (by rw [hpg]; exact hg), hpg]
      refine ⟨by simp only [List.length_append]; omega, ih2⟩
    · rw [readS_bad (l := l) hg, readS_bad (l := setP l i p) (by rw [hpg]; exact hg)]
      refine ⟨ih1, fun b h1 h2 h3 => ?_⟩
      rw [h3] at h1
      have h4 : (readS l (i + 1 + j)).2 ++ [i + 1 + j] = [] := h1
      simp at h4

end Go.Proofs.Ytplgcfjcdjlnbaa
