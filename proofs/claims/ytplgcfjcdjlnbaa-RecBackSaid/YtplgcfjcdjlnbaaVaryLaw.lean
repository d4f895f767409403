/-
  vary: the plain law: what is put is taken, what is taken, put, is those bytes; zig and zag.
-/
import Derived.Test.YtplgcfjcdjlnbaaVary1
set_option linter.unusedSimpArgs false
set_option linter.unusedVariables false
namespace Go.Proofs.Ytplgcfjcdjlnbaa
open Go.RowKit NumLaw

/-- The number that bytes begin with, from place i on: the number, how many bytes, the error. -/
def varTL : Nat → List UInt8 → Nat × Nat × Nat
  | _, [] => (0, 0, 2)
  | i, c :: r => if (i = 9 ∧ 1 < c.toNat) ∨ (c.toNat = 0 ∧ 0 < i) then (0, 0, 3) else if c.toNat < 128 then (c.toNat, 1, 0) else
      if (varTL (i + 1) r).2.2 = 0 then (c.toNat - 128 + 128 * (varTL (i + 1) r).1, (varTL (i + 1) r).2.1 + 1, 0) else (0, 0, (varTL (i + 1) r).2.2)
def varT (b : List UInt8) : Nat × Nat × Nat := varTL 0 b
theorem varTL_bad {i : Nat} {c : UInt8} {r : List UInt8} (h : (i = 9 ∧ 1 < c.toNat) ∨ (c.toNat = 0 ∧ 0 < i)) : varTL i (c :: r) = (0, 0, 3) := by unfold varTL; rw [if_pos h]
theorem varTL_end {i : Nat} {c : UInt8} {r : List UInt8} (h : ¬ ((i = 9 ∧ 1 < c.toNat) ∨ (c.toNat = 0 ∧ 0 < i))) (h2 : c.toNat < 128) : varTL i (c :: r) = (c.toNat, 1, 0) := by unfold varTL; rw [if_neg h, if_pos h2]
theorem varTL_more {i : Nat} {c : UInt8} {r : List UInt8} (h : ¬ ((i = 9 ∧ 1 < c.toNat) ∨ (c.toNat = 0 ∧ 0 < i))) (h2 : ¬ c.toNat < 128) :
    varTL i (c :: r) = if (varTL (i + 1) r).2.2 = 0 then (c.toNat - 128 + 128 * (varTL (i + 1) r).1, (varTL (i + 1) r).2.1 + 1, 0) else (0, 0, (varTL (i + 1) r).2.2) := by
  conv => lhs; unfold varTL
  rw [if_neg h, if_neg h2]
theorem le_cases9 {i : Nat} (h : i ≤ 9) : i = 0 ∨ i = 1 ∨ i = 2 ∨ i = 3 ∨ i = 4 ∨ i = 5 ∨ i = 6 ∨ i = 7 ∨ i = 8 ∨ i = 9 := by omega
theorem ofNat_toNat8 {n : Nat} (h : n < 256) : (UInt8.ofNat n).toNat = n := by rw [UInt8.toNat_ofNat']; omega
theorem varTL_there (k : Nat) : ∀ (i u : Nat) (R : List UInt8), i + k = 9 → (0 < i → 0 < u) → u * 128 ^ i < 18446744073709551616 → varTL i (varN k u ++ R) = (u, (varN k u).length, 0) := by
  induction k with
  | zero =>
    intro i u R hi h0 hb
    obtain rfl : i = 9 := by omega
    have h9 : (128 : Nat) ^ 9 = 9223372036854775808 := by decide
    rw [h9] at hb
    have := h0 (by omega)
    have e := ofNat_toNat8 (n := u) (by omega)
    show varTL 9 (UInt8.ofNat u :: R) = _
    rw [varTL_end (by rw [e]; omega) (by rw [e]; omega), e]
    rfl
  | succ k ih =>
    intro i u R hi h0 hb
    by_cases h : u < 128
    · have e := ofNat_toNat8 (n := u) (by omega)
      rw [varN_small h]
      show varTL i (UInt8.ofNat u :: R) = _
      rw [varTL_end (by rw [e]; omega) (by rw [e]; omega), e]
      rfl
    · have e := ofNat_toNat8 (n := u % 128 + 128) (by omega)
      have hd : u / 128 * 128 ^ (i + 1) ≤ u * 128 ^ i := by
        rw [Nat.pow_succ, Nat.mul_comm (128 ^ i), ← Nat.mul_assoc]
        exact Nat.mul_le_mul_right _ (Nat.div_mul_le_self u 128)
      rw [varN_big h]
      show varTL i (UInt8.ofNat (u % 128 + 128) :: (varN k (u / 128) ++ R)) = _
      rw [varTL_more (by rw [e]; omega) (by rw [e]; omega), ih (i + 1) (u / 128) R (by omega) (fun _ => by omega) (by omega), if_pos rfl, e]
      simp only [List.length_cons, Prod.mk.injEq, and_true]
      omega
theorem varT_there (u : Nat) (R : List UInt8) (hu : u < 18446744073709551616) : varT (varB u ++ R) = (u, (varB u).length, 0) := varTL_there 9 0 u R rfl (fun h => absurd h (by omega)) (by omega)
theorem var_bound {i d u : Nat} (hi : i ≤ 8) (hd : d < 128) (h : u * 128 ^ (i + 1) < 18446744073709551616) : (d + 128 * u) * 128 ^ i < 18446744073709551616 := by
  obtain ⟨M, hM⟩ : ∃ M, 128 ^ (i + 1) * M = 18446744073709551616 := by
    refine ⟨18446744073709551616 / 128 ^ (i + 1), ?_⟩
    rcases (by omega : i = 0 ∨ i = 1 ∨ i = 2 ∨ i = 3 ∨ i = 4 ∨ i = 5 ∨ i = 6 ∨ i = 7 ∨ i = 8) with rfl | rfl | rfl | rfl | rfl | rfl | rfl | rfl | rfl <;> decide
  have hu : u < M := by
    rw [← hM, Nat.mul_comm] at h
    exact Nat.lt_of_mul_lt_mul_left h
  have h1 : (d + 128 * u) * 128 ^ i < (128 * M) * 128 ^ i := Nat.mul_lt_mul_of_pos_right (by omega) (Nat.pow_pos (by omega))
  rw [show (128 * M) * 128 ^ i = 128 ^ (i + 1) * M by rw [Nat.pow_succ]; ac_rfl, hM] at h1
  exact h1
theorem varTL_back : ∀ (b : List UInt8) (i k : Nat), i + k = 9 → (varTL i b).2.2 = 0 →
    b.take (varTL i b).2.1 = varN k (varTL i b).1 ∧ (varTL i b).2.1 ≤ b.length ∧ 1 ≤ (varTL i b).2.1 ∧ (0 < i → 0 < (varTL i b).1) ∧ (varTL i b).1 * 128 ^ i < 18446744073709551616
  | [], i, k, _, h => by simp [varTL] at h
  | c :: r, i, k, hi, h => by
    have hc := c.toNat_lt
    by_cases h1 : (i = 9 ∧ 1 < c.toNat) ∨ (c.toNat = 0 ∧ 0 < i)
    · rw [varTL_bad h1] at h; simp at h
    by_cases h2 : c.toNat < 128
    · rw [varTL_end h1 h2]
      refine ⟨?_, by simp, by simp, fun _ => by simp only; omega, ?_⟩
      · rw [varN_small (by simpa using h2)]
        simp
      · simp only
        rcases le_cases9 (show i ≤ 9 by omega) with rfl | rfl | rfl | rfl | rfl | rfl | rfl | rfl | rfl | rfl <;> simp at h1 ⊢ <;> omega
    · rw [varTL_more h1 h2] at h ⊢
      by_cases h3 : (varTL (i + 1) r).2.2 = 0
      · rw [if_pos h3]
        obtain ⟨k', rfl⟩ : ∃ k', k = k' + 1 := ⟨k - 1, by omega⟩
        obtain ⟨a1, a2, a3, a4, a5⟩ := varTL_back r (i + 1) k' (by omega) h3
        generalize (varTL (i + 1) r).1 = u' at *
        generalize (varTL (i + 1) r).2.1 = n' at *
        have hu := a4 (by omega)
        refine ⟨?_, by simp only [List.length_cons]; omega, by simp only; omega, fun _ => by simp only; omega, ?_⟩
        · simp only
          rw [varN_big (by omega), List.take_succ_cons, a1]
          have e1 : (c.toNat - 128 + 128 * u') % 128 + 128 = c.toNat := by omega
          have e2 : (c.toNat - 128 + 128 * u') / 128 = u' := by omega
          rw [e1, e2]
          simp
        · exact var_bound (by omega) (by omega) a5
      · rw [if_neg h3] at h
        exact absurd h h3
theorem varT_back {b : List UInt8} (h : (varT b).2.2 = 0) : b.take (varT b).2.1 = varB (varT b).1 ∧ (varT b).2.1 ≤ b.length ∧ 1 ≤ (varT b).2.1 ∧ (varT b).1 < 18446744073709551616 := by
  obtain ⟨a1, a2, a3, _, a5⟩ := varTL_back b 0 9 rfl h
  exact ⟨a1, a2, a3, by rw [Nat.pow_zero, Nat.mul_one] at a5; exact a5⟩
theorem varTL_none : ∀ (b : List UInt8) (i : Nat), (varTL i b).2.2 ≠ 0 → (varTL i b).1 = 0 ∧ (varTL i b).2.1 = 0
  | [], i, _ => ⟨rfl, rfl⟩
  | c :: r, i, h => by
    by_cases h1 : (i = 9 ∧ 1 < c.toNat) ∨ (c.toNat = 0 ∧ 0 < i)
    · rw [varTL_bad h1]; exact ⟨rfl, rfl⟩
    by_cases h2 : c.toNat < 128
    · rw [varTL_end h1 h2] at h; exact absurd rfl h
    · rw [varTL_more h1 h2] at h ⊢
      by_cases h3 : (varTL (i + 1) r).2.2 = 0
      · rw [if_pos h3] at h; exact absurd rfl h
      · rw [if_neg h3]; exact ⟨rfl, rfl⟩
/-- Zig and zag. -/
def zigV (n : Int) : Nat := if n < 0 then (2 * (-(n + 1)) + 1).toNat else (2 * n).toNat
def zagV (u : Nat) : Int := if u % 2 = 1 then -((u / 2 : Nat) : Int) - 1 else ((u / 2 : Nat) : Int)
theorem zag_zig (n : Int) : zagV (zigV n) = n := by
  unfold zigV zagV
  split <;> split <;> omega
theorem zig_zag (u : Nat) : zigV (zagV u) = u := by
  unfold zigV zagV
  split <;> split <;> omega
theorem zig_lt {n : Int} (h : -9223372036854775808 ≤ n ∧ n ≤ 9223372036854775807) : zigV n < 18446744073709551616 := by
  unfold zigV
  split <;> omega
theorem zag_in {u : Nat} (h : u < 18446744073709551616) : -9223372036854775808 ≤ zagV u ∧ zagV u ≤ 9223372036854775807 := by
  unfold zagV
  split <;> omega

end Go.Proofs.Ytplgcfjcdjlnbaa
