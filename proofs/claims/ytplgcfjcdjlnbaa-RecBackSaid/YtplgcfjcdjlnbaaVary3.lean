/-
  vary.Zig, Zag, Take, Ints, and the document's, walked.
-/
import Derived.Lib.Zigzag
import Derived.Test.YtplgcfjcdjlnbaaVary2
import Derived.Test.YtplgcfjcdjlnbaaVaryLaw
import Derived.Test.YtplgcfjcdjlnbaaRecLaw
set_option linter.unusedSimpArgs false
set_option linter.unusedVariables false
namespace Go.Proofs.Ytplgcfjcdjlnbaa
open Go.RowKit NumLaw

theorem xor_i64_comm (a b : Int) : bits .xor .i64 a b = bits .xor .i64 b a := by
  show IntKind.i64.wrap ((BitVec.ofInt 64 a ^^^ BitVec.ofInt 64 b).toNat : Int) = IntKind.i64.wrap ((BitVec.ofInt 64 b ^^^ BitVec.ofInt 64 a).toNat : Int)
  rw [BitVec.xor_comm]
theorem xor_i64_zero (x : Nat) (hx : x < 9223372036854775808) : bits .xor .i64 (x : Int) 0 = (x : Int) := by
  show IntKind.i64.wrap ((BitVec.ofInt 64 (x : Int) ^^^ BitVec.ofInt 64 0).toNat : Int) = _
  have h2 : (BitVec.ofInt 64 (x : Int)).toNat = x := by
    rw [BitVec.ofInt_natCast, BitVec.toNat_ofNat]; exact Nat.mod_eq_of_lt (by omega)
  rw [show BitVec.ofInt 64 0 = 0#64 from rfl, BitVec.xor_zero, h2, IntKind.wrap_i64]
  omega
theorem zig_bits (n : Int) (hn : -9223372036854775808 ≤ n ∧ n ≤ 9223372036854775807) : bits .xor .u64 (IntKind.u64.wrap (IntKind.u64.wrap n * 2)) (IntKind.u64.wrap (n / 9223372036854775808)) = (zigV n : Int) := by
  unfold zigV
  by_cases h : n < 0
  · rw [if_pos h]
    have e1 : IntKind.u64.wrap (IntKind.u64.wrap n * 2) = (((2 * n + 18446744073709551616).toNat : Nat) : Int) := by
      rw [IntKind.wrap_u64, IntKind.wrap_u64]
      omega
    have e2 : IntKind.u64.wrap (n / 9223372036854775808) = ((2 ^ 64 - 1 : Nat) : Int) := by
      rw [show n / 9223372036854775808 = -1 by omega]
      decide
    rw [e1, e2, u64_xor_nat _ _ (by omega) (by decide), Nat.xor_comm, Lib.xor_ones64 _ (by omega)]
    omega
  · rw [if_neg h]
    have e1 : IntKind.u64.wrap (IntKind.u64.wrap n * 2) = (((2 * n).toNat : Nat) : Int) := by
      rw [IntKind.wrap_u64, IntKind.wrap_u64]
      omega
    have e2 : IntKind.u64.wrap (n / 9223372036854775808) = ((0 : Nat) : Int) := by
      rw [show n / 9223372036854775808 = 0 by omega]
      decide
    rw [e1, e2, u64_xor_nat _ _ (by omega) (by decide), Nat.xor_zero]
theorem zag_bits (u : Nat) (hu : u < 18446744073709551616) : bits .xor .i64 ((u : Int) / 2) (wrap64 (-wrap64 (bits .and .u64 (u : Int) 1))) = zagV u := by
  rw [Lib.u64_and1 _ (by omega) (by omega)]
  unfold zagV
  by_cases h : u % 2 = 1
  · rw [if_pos h, show (u : Int) % 2 = 1 by omega, show wrap64 (-wrap64 1) = -1 by decide +kernel, xor_i64_comm, show (u : Int) / 2 = ((u / 2 : Nat) : Int) by omega, Lib.i64_not _ (by omega)]
  · rw [if_neg h, show (u : Int) % 2 = 0 by omega, show wrap64 (-wrap64 0) = 0 by decide +kernel, show (u : Int) / 2 = ((u / 2 : Nat) : Int) by omega, xor_i64_zero _ (by omega)]
theorem varyZig_any (n : Int) (w : World) (hn : -9223372036854775808 ≤ n ∧ n ≤ 9223372036854775807) : Calls Try.prog 108 #[.int .i64 n] w fun e w' => e = .returned (.int .u64 (zigV n : Int)) ∧ w = w' := by
  go_enter Try.func108, Try.ntmps108
  go_wp2
  go_ret
  refine ⟨congrArg (fun z => Ending.returned (Value.int .u64 z)) (?_ : _ = (zigV n : Int)), rfl⟩
  exact zig_bits n hn
theorem varyZag_any (u : Nat) (w : World) (hu : u < 18446744073709551616) : Calls Try.prog 112 #[.int .u64 u] w fun e w' => e = .returned (.int .i64 (zagV u)) ∧ w = w' := by
  go_enter Try.func112, Try.ntmps112
  go_wp2
  go_ret
  refine ⟨congrArg (fun z => Ending.returned (Value.int .i64 z)) (?_ : _ = zagV u), rfl⟩
  exact zag_bits u hu
theorem qZig_any (n : Int) (w : World) (hn : -9223372036854775808 ≤ n ∧ n ≤ 9223372036854775807) : Calls Try.prog 77 #[.int .i64 n] w fun e w' => e = .returned (.int .u64 (zigV n : Int)) ∧ w = w' := by
  go_enter Try.func77, Try.ntmps77
  by_cases h : n < 0
  · go_wp2
    go_ret
    refine ⟨congrArg (fun z => Ending.returned (Value.int .u64 z)) (?_ : _ = (zigV n : Int)), rfl⟩
    unfold zigV
    rw [if_pos h]
    omega
  · go_wp2
    go_ret
    refine ⟨congrArg (fun z => Ending.returned (Value.int .u64 z)) (?_ : _ = (zigV n : Int)), rfl⟩
    unfold zigV
    rw [if_neg (by omega)]
    omega
theorem qZag_any (u : Nat) (w : World) (hu : u < 18446744073709551616) : Calls Try.prog 86 #[.int .u64 u] w fun e w' => e = .returned (.int .i64 (zagV u)) ∧ w = w' := by
  go_enter Try.func86, Try.ntmps86
  by_cases h : (u : Int) % 2 = 1
  · go_wp2
    go_ret
    refine ⟨congrArg (fun z => Ending.returned (Value.int .i64 z)) (?_ : _ = zagV u), rfl⟩
    unfold zagV
    rw [if_pos (by omega)]
    omega
  · go_wp2
    go_ret
    refine ⟨congrArg (fun z => Ending.returned (Value.int .i64 z)) (?_ : _ = zagV u), rfl⟩
    unfold zagV
    rw [if_neg (by omega)]
    omega
theorem later_any (a b : Nat) (w : World) (ha : a < 4294967296) (hb : b < 4294967296) : Calls Try.prog 76 #[.int .u32 a, .int .u32 b] w fun e w' => e = .returned (.int .u64 (laterN a b : Int)) ∧ w = w' := by
  go_enter Try.func76, Try.ntmps76
  go_wp2
  go_ret
  refine ⟨congrArg (fun z => Ending.returned (Value.int .u64 z)) (?_ : _ = (laterN a b : Int)), rfl⟩
  unfold laterN
  omega

/-- The state of Take's rounds: k bytes are read, u is their number. -/
def TkV (b : List UInt8) (k u : Nat) : Prop := varT b = if (varTL k (b.drop k)).2.2 = 0 then (u + 128 ^ k * (varTL k (b.drop k)).1, k + (varTL k (b.drop k)).2.1, 0) else (0, 0, (varTL k (b.drop k)).2.2)
theorem tkV_start (b : List UInt8) : TkV b 0 0 := by
  have hn := varTL_none b 0
  unfold TkV varT
  rw [List.drop_zero]
  generalize varTL 0 b = x at *
  obtain ⟨p, q, r⟩ := x
  simp only at *
  by_cases h : r = 0
  · subst h
    simp
  · obtain ⟨rfl, rfl⟩ := hn h
    rw [if_neg h]
theorem drop_at {α : Type} {b : List α} {k : Nat} {c : α} (h : b[k]? = some c) : b.drop k = c :: b.drop (k + 1) := by
  obtain ⟨hk, e⟩ := List.getElem?_eq_some_iff.1 h
  rw [List.drop_eq_getElem_cons hk, e]
theorem tkV_bad {b : List UInt8} {k u : Nat} {c : UInt8} (h : TkV b k u) (hc : b[k]? = some c) (h1 : (k = 9 ∧ 1 < c.toNat) ∨ (c.toNat = 0 ∧ 0 < k)) : varT b = (0, 0, 3) := by
  unfold TkV at h
  rw [drop_at hc, varTL_bad h1] at h
  exact h
theorem tkV_end {b : List UInt8} {k u : Nat} {c : UInt8} (h : TkV b k u) (hc : b[k]? = some c) (h1 : ¬ ((k = 9 ∧ 1 < c.toNat) ∨ (c.toNat = 0 ∧ 0 < k))) (h2 : c.toNat < 128) : varT b = (u + 128 ^ k * c.toNat, k + 1, 0) := by
  unfold TkV at h
  rw [drop_at hc, varTL_end h1 h2] at h
  exact h
theorem tkV_more {b : List UInt8} {k u : Nat} {c : UInt8} (h : TkV b k u) (hc : b[k]? = some c) (h1 : ¬ ((k = 9 ∧ 1 < c.toNat) ∨ (c.toNat = 0 ∧ 0 < k))) (h2 : ¬ c.toNat < 128) : TkV b (k + 1) (u + 128 ^ k * (c.toNat - 128)) := by
  unfold TkV at h ⊢
  rw [drop_at hc, varTL_more h1 h2] at h
  by_cases h3 : (varTL (k + 1) (b.drop (k + 1))).2.2 = 0
  · rw [if_pos h3] at h ⊢
    simp only [if_true] at h
    rw [h, Nat.pow_succ, Nat.mul_add, ← Nat.add_assoc, ← Nat.mul_assoc]
    simp only [Prod.mk.injEq, and_true, true_and]
    omega
  · rw [if_neg h3] at h ⊢
    rw [if_neg h3] at h
    exact h
theorem tkV_short {b : List UInt8} {k u : Nat} (h : TkV b k u) (hk : b.length ≤ k) : varT b = (0, 0, 2) := by
  unfold TkV at h
  rw [List.drop_eq_nil_of_le hk] at h
  exact h
theorem and127 : ∀ v : Fin 256, bits .and .u8 ((v.val : Nat) : Int) 127 = ((v.val % 128 : Nat) : Int) := by decide +kernel

end Go.Proofs.Ytplgcfjcdjlnbaa
