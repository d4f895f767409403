/-
  Whole roots: the plain law.
-/
import Derived.Test.YtkelepnipndbbaaNumLaw
namespace Go.Proofs.Ytkelepnipndbbaa

def isq : Nat → Nat
  | 0 => 0
  | n + 1 => if (isq n + 1) * (isq n + 1) ≤ n + 1 then isq n + 1 else isq n
theorem isq_spec : ∀ n, isq n * isq n ≤ n ∧ n < (isq n + 1) * (isq n + 1)
  | 0 => by simp [isq]
  | n + 1 => by
    obtain ⟨h1, h2⟩ := isq_spec n
    unfold isq
    split
    · rename_i h
      refine ⟨h, ?_⟩
      have e : (isq n + 1 + 1) * (isq n + 1 + 1) = (isq n + 1) * (isq n + 1) + 2 * isq n + 3 := by
        simp only [Nat.add_mul, Nat.mul_add]; omega
      omega
    · rename_i h
      exact ⟨by omega, by omega⟩
theorem isq_uniq {n s : Nat} (h1 : s * s ≤ n) (h2 : n < (s + 1) * (s + 1)) : isq n = s := by
  obtain ⟨g1, g2⟩ := isq_spec n
  rcases Nat.lt_trichotomy (isq n) s with h | h | h
  · have : (isq n + 1) * (isq n + 1) ≤ s * s := Nat.mul_le_mul h h
    omega
  · exact h
  · have : (s + 1) * (s + 1) ≤ isq n * isq n := Nat.mul_le_mul h h
    omega
theorem isq_le {n k : Nat} (h : k * k ≤ n) : k ≤ isq n := by
  obtain ⟨_, g2⟩ := isq_spec n
  rcases Nat.lt_or_ge (isq n) k with hh | hh
  · have : (isq n + 1) * (isq n + 1) ≤ k * k := Nat.mul_le_mul hh hh
    omega
  · exact hh
theorem isq_lt {n k : Nat} (h : n < k * k) : isq n < k := by
  obtain ⟨g1, _⟩ := isq_spec n
  rcases Nat.lt_or_ge (isq n) k with hh | hh
  · exact hh
  · have : k * k ≤ isq n * isq n := Nat.mul_le_mul hh hh
    omega
theorem isq_32 {n : Nat} (h : n < 18446744073709551616) : isq n < 4294967296 := isq_lt h
/-- A step from above stays above. -/
theorem newton_above {n r : Nat} (hr : isq n ≤ r) (h0 : 0 < r) : isq n ≤ (r + n / r) / 2 := by
  obtain ⟨h1, _⟩ := isq_spec n
  obtain ⟨d, rfl⟩ : ∃ d, r = isq n + d := ⟨r - isq n, by omega⟩
  generalize isq n = s at *
  have key : s - d ≤ n / (s + d) := by
    rw [Nat.le_div_iff_mul_le h0]
    rcases Nat.lt_or_ge s d with h | h
    · rw [show s - d = 0 by omega]; simp
    · obtain ⟨t, rfl⟩ : ∃ t, s = t + d := ⟨s - d, by omega⟩
      rw [show t + d - d = t by omega]
      have e : (t + d) * (t + d) = t * (t + d + d) + d * d := by
        simp only [Nat.add_mul, Nat.mul_add, Nat.mul_comm d t]; omega
      omega
  omega
/-- Where a step leads no further down, the root is there. -/
theorem newton_stop {n r : Nat} (hr : isq n ≤ r) (h0 : 0 < r) (hs : r ≤ (r + n / r) / 2) : r = isq n := by
  have h : r ≤ n / r := by omega
  rw [Nat.le_div_iff_mul_le h0] at h
  exact Nat.le_antisymm (isq_le h) hr
/-- The quotient is near. -/
theorem newton_quo {n r : Nat} (hr : isq n ≤ r) (h0 : 0 < r) : n / r ≤ r + 2 := by
  obtain ⟨_, h2⟩ := isq_spec n
  have h3 : (isq n + 1) * (isq n + 1) ≤ (r + 1) * (r + 1) := Nat.mul_le_mul (by omega) (by omega)
  have e : (r + 1) * (r + 1) = r * r + 2 * r + 1 := by simp only [Nat.add_mul, Nat.mul_add]; omega
  have h4 : n < (r + 3) * r := by simp only [Nat.add_mul]; omega
  have := (Nat.div_lt_iff_lt_mul h0).2 h4
  omega
def nearR (n : Nat) : Nat := if n - isq n * isq n ≤ isq n then isq n else isq n + 1
def togR (a b : Int) : Int := if 0 ≤ a ∧ a ≤ 65535 ∧ 0 ≤ b ∧ b ≤ 65535 then (nearR (a.toNat * a.toNat + b.toNat * b.toNat) : Int) else 0
theorem nearR_le {n k : Nat} (h : n ≤ k * k) : nearR n ≤ k := by
  obtain ⟨g1, g2⟩ := isq_spec n
  have hk : isq n ≤ k := by
    rcases Nat.lt_or_ge k (isq n) with hh | hh
    · have : (k + 1) * (k + 1) ≤ isq n * isq n := Nat.mul_le_mul hh hh
      have e : (k + 1) * (k + 1) = k * k + 2 * k + 1 := by simp only [Nat.add_mul, Nat.mul_add]; omega
      omega
    · exact hh
  unfold nearR
  split
  · exact hk
  · rename_i hne
    rcases Nat.eq_or_lt_of_le hk with he | hl
    · rw [← he] at h; omega
    · omega
theorem nearR_ge {n k : Nat} (h : k * k ≤ n) : k ≤ nearR n := by
  have := isq_le h
  unfold nearR
  split <;> omega
theorem togR_bound (a b : Int) : 0 ≤ togR a b ∧ togR a b ≤ 131070 := by
  unfold togR
  split
  · rename_i h
    obtain ⟨h1, h2, h3, h4⟩ := h
    have := nearR_le (n := a.toNat * a.toNat + b.toNat * b.toNat) (k := a.toNat + b.toNat) (by simp only [Nat.add_mul, Nat.mul_add]; omega)
    omega
  · omega
theorem togR_comm (a b : Int) : togR a b = togR b a := by
  unfold togR
  by_cases h : 0 ≤ a ∧ a ≤ 65535 ∧ 0 ≤ b ∧ b ≤ 65535
  · rw [if_pos h, if_pos (by omega), Nat.add_comm]
  · rw [if_neg h, if_neg (by omega)]
theorem togR_ge {a b : Nat} (ha : a ≤ 65535) (hb : b ≤ 65535) : (a : Int) ≤ togR a b ∧ (b : Int) ≤ togR a b ∧ togR a b ≤ a + b := by
  unfold togR
  rw [if_pos (by omega)]
  simp only [Int.toNat_natCast]
  have h1 := nearR_ge (n := a * a + b * b) (k := a) (by omega)
  have h2 := nearR_ge (n := a * a + b * b) (k := b) (by omega)
  have h3 := nearR_le (n := a * a + b * b) (k := a + b) (by simp only [Nat.add_mul, Nat.mul_add]; omega)
  omega

/-- A power of two above the root. -/
theorem above_root {n k : Nat} (h : n < 2 ^ k) : isq n < 2 ^ ((k + 1) / 2) := by
  refine isq_lt (Nat.lt_of_lt_of_le h ?_)
  rw [← Nat.pow_add]
  exact Nat.pow_le_pow_right (by omega) (by omega)

/- the document's root, bit by bit -/
theorem bit_step {n r b : Nat} (h1 : r ≤ isq n) (h2 : isq n < r + 2 * b) : (if (r + b) * (r + b) ≤ n then r + b else r) ≤ isq n ∧ isq n < (if (r + b) * (r + b) ≤ n then r + b else r) + b := by
  split
  · rename_i h
    exact ⟨isq_le h, by omega⟩
  · rename_i h
    exact ⟨h1, isq_lt (by omega)⟩

def nearB (a b : Int) : Bool := decide (a ≤ b + 2) && decide (b - 2 ≤ a)
def soundR (g p t v h n e : Int) : Bool := (nearB p (togR v h) && nearB g (togR p t)) && nearB h (togR n e)

end Go.Proofs.Ytkelepnipndbbaa
