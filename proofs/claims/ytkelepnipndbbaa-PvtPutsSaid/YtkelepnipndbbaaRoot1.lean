/-
  Whole roots: math/bits' Len64 by the shelf's contract; root.above, Sqrt, Near walked.
-/
import Derived.Test.YtkelepnipndbbaaRootLaw
import Derived.Test.YtkelepnipndbbaaBase
import Derived.Shelf.Strconv.Itoa0
import Derived.Shelf.Spec.BitsCarry
import Derived.WalkMore
import Derived.Deep.LoopGhost
set_option linter.unusedSimpArgs false
set_option linter.unusedVariables false
namespace Go.Proofs.Ytkelepnipndbbaa
open Go.RowKit Go.Shelf

def lenRen : Ren := ⟨fun _ => 179, fun x => if x = 3 then 3 else if x = 4 then 4 else if x = 5 then 5 else if x = 9 then 9 else if x = 46 then 144 else 121, fun x => x⟩
theorem lenLays : Lays.n129 Try.prog lenRen := {
  mixed := by kernel_rfl
  f129 := by kernel_rfl
  t3 := by kernel_rfl
  a3 := fun _ => by kernel_rfl
  z3 := fun _ => by kernel_rfl
  v3 := fun _ => by kernel_rfl
  t4 := by kernel_rfl
  a4 := fun _ => by kernel_rfl
  z4 := fun _ => by kernel_rfl
  v4 := fun _ => by kernel_rfl
  t5 := by kernel_rfl
  a5 := fun _ => by kernel_rfl
  z5 := fun _ => by kernel_rfl
  v5 := fun _ => by kernel_rfl
  t9 := by kernel_rfl
  a9 := fun _ => by kernel_rfl
  z9 := fun _ => by kernel_rfl
  v9 := fun _ => by kernel_rfl
  t46 := by kernel_rfl
  a46 := fun _ => by kernel_rfl
  z46 := fun _ => by kernel_rfl
  v46 := fun _ => by kernel_rfl
  t53 := by kernel_rfl
  a53 := fun _ => by kernel_rfl
  z53 := fun _ => by kernel_rfl
  v53 := fun _ => by kernel_rfl }
theorem bitLenAux_lt : ∀ (f x : Nat), x < 2 ^ f → x < 2 ^ Lib.bitLenAux f x
  | 0, x, h => by simp [Lib.bitLenAux] at h ⊢; exact h
  | f + 1, x, h => by
    unfold Lib.bitLenAux
    split
    · rename_i h0; subst h0; simp
    · have := bitLenAux_lt f (x / 2) (by rw [Nat.pow_succ] at h; omega)
      rw [Nat.add_comm, Nat.pow_succ]
      omega
theorem len64_any (n : Nat) (w : World) (h : n < 18446744073709551616) :
    Calls Try.prog 179 #[.int .u64 n] w fun e w' => ∃ k : Nat, e = .returned (.int .i64 (k : Int)) ∧ w = w' ∧ k ≤ 64 ∧ n < 2 ^ k := by
  refine (Any.bits_Len64 lenLays (n : Int) w (by omega) (by omega)).mono ?_
  rintro e w' ⟨rfl, rfl⟩
  refine ⟨_, rfl, rfl, ?_, ?_⟩
  · exact Lib.bitLen_le _ 64 (Nat.le_refl _) (by simpa using h)
  · show n < 2 ^ Lib.bitLenAux 64 n
    exact bitLenAux_lt 64 n (by simpa using h)
theorem above_any (n : Nat) (w : World) (h : n < 18446744073709551616) :
    Calls Try.prog 169 #[.int .u64 n] w fun e w' => ∃ r : Nat, e = .returned (.int .u64 (r : Int)) ∧ w = w' ∧ isq n < r ∧ r ≤ 4294967296 := by
  go_enter Try.func169, Try.ntmps169
  go_wp2_with fail
  go_fit (len64_any n _ h)
  rintro e w1 ⟨k, rfl, rfl, hk, hn⟩
  have hab := above_root hn
  have hp : 2 ^ ((k + 1) / 2) ≤ 2 ^ 32 := Nat.pow_le_pow_right (by omega) (by omega)
  clear hn
  go_wp2
  have e1 : IntKind.u64.wrap (2 ^ ((k + 1) / 2)) = ((2 ^ ((k + 1) / 2) : Nat) : Int) := by
    rw [IntKind.wrap_u64, show ((2 : Int) ^ ((k + 1) / 2)) = ((2 ^ ((k + 1) / 2) : Nat) : Int) from by simp]
    generalize 2 ^ ((k + 1) / 2) = z at *
    omega
  generalize 2 ^ ((k + 1) / 2) = z at *
  go_ret
  exact ⟨z, ret_int e1, rfl, hab, by omega⟩

set_option maxHeartbeats 1000000 in
theorem sqrt_any (n : Nat) (w : World) (h : n < 18446744073709551616) :
    Calls Try.prog 147 #[.int .u64 n] w fun e w' => e = .returned (.int .u32 (isq n : Int)) ∧ w = w' := by
  obtain ⟨s, hs⟩ : ∃ s, s = isq n := ⟨_, rfl⟩
  have h32 := isq_32 h
  rw [← hs] at h32 ⊢
  have hab := above_any n w h
  rw [← hs] at hab
  have HA := Lib.hid (fun r : Nat => @newton_above n r)
  have HS := Lib.hid (fun r : Nat => @newton_stop n r)
  have HQ := Lib.hid (fun r : Nat => @newton_quo n r)
  rw [← hs] at HA HS HQ
  by_cases h0 : n = 0
  · have : s = 0 := by rw [hs, h0]; rfl
    subst this
    have h0' : (n : Int) = 0 := by omega
    clear hs hab HA HS HQ h0 h
    go_enter Try.func147, Try.ntmps147
    go_wp2
    go_step3
    go_wp2
    simp only [Exit.noGoto_ret]
    go_ret
    exact ⟨rfl, rfl⟩
  · have hs1 : 1 ≤ s := by rw [hs]; exact isq_le (by omega)
    clear hs
    have h0' : ¬ (n : Int) = 0 := by omega
    go_enter Try.func147, Try.ntmps147
    go_wp2
    go_step3
    go_wp2_with fail
    go_fit hab
    rintro e w1 ⟨r, rfl, rfl, hr, hr32⟩
    go_wp2_with fail
    go_step3
    go_wp2_with fail
    go_loopw [3] (fun i wr => ∃ (k : Nat), i = .int .u64 k ∧ s ≤ k ∧ 0 < k ∧ k ≤ 4294967296 ∧ wr = w) (fun i _ => (intOf i).toNat)
    case atStart => exact ⟨r, rfl, by omega, by omega, hr32, rfl⟩
    case round =>
      clear hr hr32
      obtain ⟨k, rfl, hsk, hk0, hk32, rfl⟩ := hrel
      have hq := HQ.out k hsk hk0
      have ha := HA.out k hsk hk0
      have hst := HS.out k hsk hk0
      obtain ⟨q, hq'⟩ : ∃ q, q = n / k := ⟨_, rfl⟩
      rw [← hq'] at hq ha hst
      have hqi : (n : Int) / (k : Int) = (q : Int) := by rw [hq']; simp
      clear hq'
      by_cases hlt : (k + q) / 2 < k
      · have hst : True := trivial
        go_wp2
        go_roundw
        case rel => exact ⟨(k + q) / 2, by go_num, ha, by omega, by omega, trivial⟩
        case measure => simp [intOf]; omega
      · obtain rfl := hst (by omega)
        have h4 : k < 4294967296 := h32
        go_wp2
        go_ret
        refine ⟨?_, rfl⟩
        refine ret_int ?_
        omega

set_option maxHeartbeats 1000000 in
theorem near_any (n : Nat) (w : World) (h : n < 18446744073709551616) :
    Calls Try.prog 99 #[.int .u64 n] w fun e w' => e = .returned (.int .u64 (nearR n : Int)) ∧ w = w' := by
  obtain ⟨g1, g2⟩ := isq_spec n
  have h32 := isq_32 h
  have hc := sqrt_any n w h
  unfold nearR
  generalize isq n = s at *
  obtain ⟨z, hz⟩ : ∃ z, z = s * s := ⟨_, rfl⟩
  have hzi : (s : Int) * (s : Int) = (z : Int) := by rw [hz]; simp
  rw [← hz] at g1 ⊢
  clear hz g2
  by_cases hle : n - z ≤ s
  · rw [if_pos hle]
    go_enter Try.func99, Try.ntmps99
    go_wp2_with fail
    go_fit hc
    rintro e w1 ⟨rfl, rfl⟩
    go_wp2
    go_ret
    exact ⟨rfl, rfl⟩
  · rw [if_neg hle]
    go_enter Try.func99, Try.ntmps99
    go_wp2_with fail
    go_fit hc
    rintro e w1 ⟨rfl, rfl⟩
    go_wp2
    go_ret
    exact ⟨by simp, rfl⟩

set_option maxHeartbeats 1000000 in
theorem qSqrt_any (n : Nat) (w : World) (h : n < 18446744073709551616) :
    Calls Try.prog 149 #[.int .u64 n] w fun e w' => e = .returned (.int .u32 (isq n : Int)) ∧ w = w' := by
  obtain ⟨s, hs⟩ : ∃ s, s = isq n := ⟨_, rfl⟩
  have h32 := isq_32 h
  have HB := Lib.hid (fun r b : Nat => @bit_step n r b)
  rw [← hs] at h32 HB ⊢
  clear hs
  go_enter Try.func149, Try.ntmps149
  go_wp2_with fail
  go_loopw [3, 4] (fun i b wr => ∃ (r j p d : Nat), i = .int .u64 r ∧ b = .int .u64 d ∧ r ≤ s ∧ s < r + p ∧ r + p ≤ 4294967296 ∧ Hid (p = 2 ^ j) ∧ d = p / 2 ∧ wr = w) (fun _ b _ => (intOf b).toNat)
  case atStart => exact ⟨0, 32, 4294967296, 2147483648, rfl, rfl, by omega, by omega, by omega, Lib.hid (by decide), by decide, rfl⟩
  case round =>
    obtain ⟨r, j, p, d, rfl, rfl, h1, h2, h3, hp, hd, rfl⟩ := hrel
    by_cases hd0 : d = 0
    · subst hd0
      have hp1 : p = 1 := by have : 0 < p := by rw [hp.out]; exact Nat.two_pow_pos j
                             omega
      obtain rfl : r = s := by omega
      clear hd
      go_wp2
      go_ret
      exact ⟨ret_int (by omega), rfl⟩
    · obtain ⟨i, rfl⟩ : ∃ i, j = i + 1 := by
        cases j with
        | zero => have := hp.out; simp at this; omega
        | succ i => exact ⟨i, rfl⟩
      have hpd : d = 2 ^ i := by rw [hd, hp.out, Nat.pow_succ]; omega
      have hpp : p = 2 * d := by rw [hpd, hp.out, Nat.pow_succ]; omega
      clear hd hp
      have Hpd := Lib.hid hpd
      clear hpd
      subst hpp
      have hb := HB.out r d h1 h2
      obtain ⟨z, hz⟩ : ∃ z, z = (r + d) * (r + d) := ⟨_, rfl⟩
      have hzb : z < 18446744073709551616 := by
        rw [hz]
        have : (r + d) * (r + d) ≤ 4294967295 * 4294967295 := Nat.mul_le_mul (by omega) (by omega)
        omega
      have hzi : ((r : Int) + (d : Int)) * ((r : Int) + (d : Int)) = (z : Int) := by rw [hz]; simp
      rw [← hz] at hb
      clear hz
      by_cases hle : z ≤ n
      · rw [if_pos hle] at hb
        go_wp2
        go_roundw
        case rel => exact ⟨r + d, i, d, d / 2, by go_num, by go_num, hb.1, hb.2, by omega, Hpd, rfl, trivial⟩
        case measure => simp [intOf]; omega
      · rw [if_neg hle] at hb
        go_wp2
        go_roundw
        case rel => exact ⟨r, i, d, d / 2, by go_num, by go_num, hb.1, hb.2, by omega, Hpd, rfl, trivial⟩
        case measure => simp [intOf]; omega

set_option maxHeartbeats 1000000 in
theorem qNear_any (n : Nat) (w : World) (h : n < 18446744073709551616) :
    Calls Try.prog 112 #[.int .u64 n] w fun e w' => e = .returned (.int .u64 (nearR n : Int)) ∧ w = w' := by
  obtain ⟨g1, g2⟩ := isq_spec n
  have h32 := isq_32 h
  have hc := qSqrt_any n w h
  unfold nearR
  generalize isq n = s at *
  obtain ⟨z, hz⟩ : ∃ z, z = s * s := ⟨_, rfl⟩
  have hzi : (s : Int) * (s : Int) = (z : Int) := by rw [hz]; simp
  rw [← hz] at g1 ⊢
  clear hz g2
  by_cases hle : n - z ≤ s
  · rw [if_pos hle]
    go_enter Try.func112, Try.ntmps112
    go_wp2_with fail
    go_fit hc
    rintro e w1 ⟨rfl, rfl⟩
    go_wp2
    go_ret
    exact ⟨rfl, rfl⟩
  · rw [if_neg hle]
    go_enter Try.func112, Try.ntmps112
    go_wp2_with fail
    go_fit hc
    rintro e w1 ⟨rfl, rfl⟩
    go_wp2
    go_ret
    exact ⟨by simp, rfl⟩

end Go.Proofs.Ytkelepnipndbbaa
