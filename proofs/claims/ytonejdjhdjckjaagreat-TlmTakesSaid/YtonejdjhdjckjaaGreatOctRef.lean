/-
  The document's answer for layer 4 (landfallref04), its reader: what each function computes.
-/
import Derived.Test.YtonejdjhdjckjaaGreatOctRow
import Derived.Test.YtonejdjhdjckjaaGreatOrder
import Derived.Deep.RegionHeld3
import Derived.Deep.QuietTactic
import Derived.BigQuiet
set_option linter.unusedSimpArgs false
set_option linter.unusedVariables false
namespace Go.Proofs.YtonejdjhdjckjaaGreat
open Go.RowKit NumLaw

theorem blk_lt {w : World} {g : Nat} {o : Obj} (h : w.heap[g]? = some o) : g < w.heap.size := by
  rcases Nat.lt_or_ge g w.heap.size with h1 | h1
  · exact h1
  · rw [Array.getElem?_eq_none h1] at h; cases h

/- half -/
theorem half_step {k : Nat} (h : k < 8) : IntKind.u64.wrap (((128 * 256 ^ (k - 1) : Nat) : Int) * 256) = ((128 * 256 ^ (k - 1) * 256 : Nat) : Int) := by
  have h3 : 256 ^ (k - 1) ≤ 256 ^ 6 := Nat.pow_le_pow_right (by omega) (by omega)
  have h4 : (256 : Nat) ^ 6 = 281474976710656 := by decide
  rw [IntWalk.u64_in _ (by omega)]
  simp
set_option maxHeartbeats 400000 in
theorem half_any (n : Nat) (w : World) (h1 : 1 ≤ n) (h8 : n ≤ 8) :
    Calls Tryz.prog 108 #[.int .i64 n] w fun e w' => e = .returned (.int .u64 ((128 * 256 ^ (n - 1) : Nat) : Int)) ∧ w = w' := by
  obtain ⟨D, hD⟩ : ∃ D, D = 128 * 256 ^ (n - 1) := ⟨_, rfl⟩
  rw [← hD]
  have HD := Lib.hid hD
  clear hD
  go_enter Tryz.func108, Tryz.ntmps108
  go_wp2
  go_loop [3, 4] (fun h i => ∃ k : Nat, 1 ≤ k ∧ k ≤ n ∧ i = .int .i64 k ∧ h = .int .u64 ((128 * 256 ^ (k - 1) : Nat) : Int)) (fun _ i => n - (intOf i).toNat)
  case atStart => exact ⟨1, by omega, by omega, rfl, rfl⟩
  case round =>
    obtain ⟨k, hk1, hk, rfl, rfl⟩ := hrel
    by_cases hlt : k < n
    · have hs := half_step (k := k) (by omega)
      have e : 128 * 256 ^ (k - 1) * 256 = 128 * 256 ^ (k + 1 - 1) := by
        obtain ⟨j, rfl⟩ : ∃ j, k = j + 1 := ⟨k - 1, by omega⟩
        simp only [Nat.add_sub_cancel, Nat.pow_succ]; omega
      rw [e] at hs
      have Hs := Lib.hid hs
      clear hs e
      generalize 128 * 256 ^ (k - 1) = d at *
      go_wp2
      go_round
      case rel => exact ⟨k + 1, by omega, by omega, by go_num, val_int Hs.out⟩
      case measure => simp [intOf]; omega
    · obtain rfl : k = n := by omega
      rw [← HD.out]
      go_wp2
      go_ret
      exact ⟨rfl, rfl⟩

/- Signed -/
set_option maxHeartbeats 400000 in
theorem signed_any (n u : Nat) (w : World) (h1 : 1 ≤ n) (h8 : n ≤ 8) (hu : u < 256 ^ n) :
    Calls Tryz.prog 99 #[.int .i64 n, .int .u64 u] w fun e w' => e = .returned (.int .i64 (sgn n u)) ∧ w = w' := by
  have hh := half_any n w h1 h8
  have hs : sgn n u = if u < 128 * 256 ^ (n - 1) then (u : Int) else (u : Int) - 256 ^ n := rfl
  have he : (256 : Nat) ^ n = 2 * (128 * 256 ^ (n - 1)) := by
    obtain ⟨j, rfl⟩ : ∃ j, n = j + 1 := ⟨n - 1, by omega⟩
    simp only [Nat.add_sub_cancel, Nat.pow_succ]; omega
  have hle : 128 * 256 ^ (n - 1) ≤ 9223372036854775808 := by
    have h3 : 256 ^ (n - 1) ≤ 256 ^ 7 := Nat.pow_le_pow_right (by omega) (by omega)
    have h4 : (256 : Nat) ^ 7 = 72057594037927936 := by decide
    omega
  have he' : (256 : Int) ^ n = 2 * ((128 * 256 ^ (n - 1) : Nat) : Int) := by
    have := congrArg (Nat.cast (R := Int)) he
    simpa using this
  have hpos : 0 < 128 * 256 ^ (n - 1) := Nat.mul_pos (by omega) (Nat.pow_pos (by omega))
  rw [he] at hu
  rw [he'] at hs
  clear he he'
  generalize 128 * 256 ^ (n - 1) = d at *
  have Hs := Lib.hid hs
  clear hs
  go_enter Tryz.func99, Tryz.ntmps99
  by_cases hud : u < d
  · have hr := Hs.out
    rw [if_pos hud] at hr
    rw [hr]
    clear hr
    go_wp2_with fail
    go_fit hh
    rintro x w1 ⟨rfl, rfl⟩
    go_wp2
    go_ret
    exact ⟨rfl, rfl⟩
  · have hr := Hs.out
    rw [if_neg hud] at hr
    rw [hr]
    clear hr
    go_wp2_with fail
    go_fit hh
    rintro x w1 ⟨rfl, rfl⟩
    go_wp2
    go_ret
    exact ⟨ret_int (by omega), rfl⟩

/- Number -/
theorem num_step {a : List UInt8} {x : UInt8} (h : a.length < 8) : IntKind.u64.wrap (IntKind.u64.wrap ((num a : Nat) * 256) + IntKind.u64.wrap (x.toNat : Int)) = ((num (x :: a) : Nat) : Int) := by
  have hx := x.toNat_lt
  have h2 := num_lt a
  have h3 : 256 ^ a.length ≤ 256 ^ 7 := Nat.pow_le_pow_right (by omega) (by omega)
  have h4 : (256 : Nat) ^ 7 = 72057594037927936 := by decide
  rw [IntWalk.u64_in (x.toNat : Int) (by omega), IntWalk.u64_in ((num a : Nat) * 256) (by omega), IntWalk.u64_in _ (by omega)]
  simp only [num]
  omega
set_option maxHeartbeats 400000 in
theorem number_any (A : Option Addr) (n c B : Nat) (l : List UInt8) (w : World) (h : Rd w B 1 A n c (bv l)) (hn : n ≤ 8) :
    Calls Tryz.prog 98 #[.slice A n c] w fun e w' => e = .returned (.int .u64 (num l)) ∧ w = w' := by
  have Hl := Lib.hid h.blen
  go_enter Tryz.func98, Tryz.ntmps98
  go_wp2
  go_loop [3, 4] (fun u i => ∃ k : Nat, k ≤ n ∧ i = .int .i64 ((k : Int) - 1) ∧ u = .int .u64 (num (l.drop k))) (fun _ i => (intOf i + 1).toNat)
  case atStart => exact ⟨n, by omega, rfl, by rw [List.drop_of_length_le (by rw [Hl.out]; omega)]; rfl⟩
  case round =>
    obtain ⟨k, hk, rfl, rfl⟩ := hrel
    by_cases hlt : 1 ≤ k
    · obtain ⟨j, rfl⟩ : ∃ j, k = j + 1 := ⟨k - 1, by omega⟩
      obtain ⟨ad, x, rfl, hx, hcell⟩ := h.byte (k := j) (by omega)
      have hd : l.drop j = x :: l.drop (j + 1) := by
        have hj : j < l.length := by rw [Hl.out]; omega
        rw [List.drop_eq_getElem_cons hj]
        rw [List.getElem?_eq_getElem hj] at hx
        injection hx with hx
        rw [hx]
      have hs := num_step (a := l.drop (j + 1)) (x := x) (by rw [List.length_drop, Hl.out]; omega)
      rw [← hd] at hs
      have Hs := Lib.hid hs
      have e1 : ((j + 1 : Nat) : Int) - 1 = (j : Int) := by omega
      rw [e1]
      clear hs hd hx e1
      generalize num (l.drop (j + 1)) = d at *
      go_wp2
      go_round
      case rel => exact ⟨j, by omega, rfl, val_int Hs.out⟩
      case measure => simp [intOf]
    · obtain rfl : k = 0 := by omega
      rw [List.drop_zero]
      go_wp2
      go_ret
      exact ⟨rfl, rfl⟩

/-- What a reading hands back: the reader as a plain value, and v. -/
def RetQ (w : World) (B : Nat) (v : Value) (l' : List UInt8) (bad : Bool) (e : Ending) (w' : World) : Prop :=
  ∃ A n c, e = .returned (.tuple #[.agg #[.slice A n c, .bool bad], v]) ∧ Rd w' B 1 A n c (bv l') ∧ Below w.heap.size w w'
/-- The same, v new bytes. -/
def RetQB (w : World) (B : Nat) (l l' : List UInt8) (bad : Bool) (e : Ending) (w' : World) : Prop :=
  ∃ A n c A' n' c', e = .returned (.tuple #[.agg #[.slice A n c, .bool bad], .slice A' n' c']) ∧ Rd w' B 1 A n c (bv l') ∧ w'.ownsRow w.heap.size 5 1 (.slice A' n' c') n' (bv l) ∧ Below w.heap.size w w'

/- Raw -/
/- U -/
/- I -/
theorem iV_bad {n : Int} {l : List UInt8} {bad : Bool} (h : rdF (nU n) l bad = true) : iV n l bad = 0 := by
  unfold iV
  by_cases h1 : n < 1 ∨ 8 < n
  · rw [if_pos h1]
  · rw [if_neg h1]
    rw [nU, if_neg h1] at h
    rw [h, if_pos rfl]
theorem iV_ok {n : Int} {l : List UInt8} {bad : Bool} (h : rdF (nU n) l bad = false) : ∃ k : Nat, n = k ∧ 1 ≤ k ∧ k ≤ 8 ∧ iV n l bad = sgn k (num (rdB (nU n) l bad)) ∧ num (rdB (nU n) l bad) < 256 ^ k := by
  by_cases h1 : n < 1 ∨ 8 < n
  · rw [nU, if_pos h1] at h
    simp [rdF] at h
  · obtain ⟨k, rfl⟩ : ∃ k : Nat, n = k := ⟨n.toNat, by omega⟩
    have e : nU (k : Int) = k := by rw [nU, if_neg h1]
    rw [e] at h ⊢
    refine ⟨k, rfl, by omega, by omega, ?_, ?_⟩
    · unfold iV
      rw [if_neg h1, h, if_neg (by simp)]
      rfl
    · have h3 := num_lt (rdB k l bad)
      have h4 : (rdB k l bad).length ≤ k := by unfold rdB; split <;> simp; omega
      exact Nat.lt_of_lt_of_le h3 (Nat.pow_le_pow_right (by omega) h4)
end Go.Proofs.YtonejdjhdjckjaaGreat
