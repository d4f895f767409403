/-
  The document's shapes: Most, Any, U, I, room, Right, Width walked.
-/
import Derived.Test.YtonejdjhdjckjaaGreatShape3
set_option linter.unusedSimpArgs false
set_option linter.unusedVariables false
namespace Go.Proofs.YtonejdjhdjckjaaGreat
open Go.RowKit NumLaw
attribute [local go_sem] Addr.add_mid

def mostF (n : Int) (sg : Bool) : Int := if n = 8 then 9223372036854775807 else if sg = true then 128 * 256 ^ (n.toNat - 1) - 1 else 2 * (128 * 256 ^ (n.toNat - 1)) - 1
theorem pow_le5 {k : Nat} (h : k ≤ 5) : 128 * 256 ^ k ≤ 140737488355328 := by
  have := Nat.pow_le_pow_right (n := 256) (by omega) h
  have h4 : (256 : Nat) ^ 5 = 1099511627776 := by decide
  omega
theorem pow_le6 {k : Nat} (h : k ≤ 6) : 128 * 256 ^ k ≤ 36028797018963968 := by
  have := Nat.pow_le_pow_right (n := 256) (by omega) h
  have h4 : (256 : Nat) ^ 6 = 281474976710656 := by decide
  omega
set_option maxHeartbeats 1000000 in
theorem qMost_any (n : Int) (sg : Bool) (w : World) (h : fitsF n = true) :
    Calls Tryz.prog 100 #[.int .i64 n, .bool sg] w fun e w' => e = .returned (.int .i64 (mostF n sg)) ∧ w = w' := by
  have hb := of_decide_eq_true h
  obtain ⟨n, rfl⟩ : ∃ k : Nat, n = k := ⟨n.toNat, by omega⟩
  by_cases h8 : n = 8
  · subst h8
    go_enter Tryz.func100, Tryz.ntmps100
    go_wp2
    go_ret
    exact ⟨rfl, rfl⟩
  · have h8' : ¬ (n : Int) = 8 := by omega
    obtain ⟨D, hD⟩ : ∃ D, D = 128 * 256 ^ (n - 1) := ⟨_, rfl⟩
    have hDb : D ≤ 36028797018963968 := by rw [hD]; exact pow_le6 (by omega)
    have hm : mostF n sg = if sg = true then (D : Int) - 1 else 2 * (D : Int) - 1 := by
      unfold mostF
      rw [if_neg h8', hD]
      simp
    rw [hm]
    have HD := Lib.hid hD
    clear hD hm h
    go_enter Tryz.func100, Tryz.ntmps100
    go_wp2_with fail
    go_loop [5, 6] (fun h i => ∃ k : Nat, 1 ≤ k ∧ k ≤ n ∧ i = .int .i64 k ∧ h = .int .i64 ((128 * 256 ^ (k - 1) : Nat) : Int)) (fun _ i => n - (intOf i).toNat)
    case atStart => exact ⟨1, by omega, by omega, rfl, rfl⟩
    case round =>
      obtain ⟨k, hk1, hk, rfl, rfl⟩ := hrel
      by_cases hlt : k < n
      · have hdb := pow_le5 (k := k - 1) (by omega)
        have e : 128 * 256 ^ (k - 1) * 256 = 128 * 256 ^ (k + 1 - 1) := by
          obtain ⟨j, rfl⟩ : ∃ j, k = j + 1 := ⟨k - 1, by omega⟩
          simp only [Nat.add_sub_cancel, Nat.pow_succ]; omega
        have Hs := Lib.hid e
        clear e
        generalize 128 * 256 ^ (k - 1) = d at *
        go_wp2
        go_round
        case rel => exact ⟨k + 1, by omega, by omega, by go_num, val_int (by rw [← Hs.out]; omega)⟩
        case measure => simp [intOf]; omega
      · obtain rfl : k = n := by omega
        rw [← HD.out]
        cases sg with
        | true =>
          go_wp2
          go_ret
          exact ⟨ret_int (by simp), rfl⟩
        | false =>
          go_wp2
          go_ret
          exact ⟨ret_int (by simp), rfl⟩
set_option maxRecDepth 10000 in
set_option maxHeartbeats 4000000 in
theorem qAny14_any (n : Int) (sg : Bool) (w : World) : Calls Tryz.prog 70 #[.int .i64 n, .bool sg] w fun e w' => e = .returned (fv (anyF n sg)) ∧ Below w.heap.size w w' := by
  have hb1 : ∀ o1, Below w.heap.size w (w.alloc o1) := fun o1 => (Below.refl _ _).alloc (Nat.le_refl _) _
  have hb2 : ∀ o1 o2, Below w.heap.size w ((w.alloc o1).alloc o2) := fun o1 o2 => (hb1 o1).alloc (hb1 o1).size _
  have Hb1 := Lib.hid hb1
  have Hb2 := Lib.hid hb2
  clear hb1 hb2
  cases hf : fitsF n with
  | false =>
    have hn := of_decide_eq_false hf
    rw [show anyF n sg = ⟨0, false, 0, 0⟩ by unfold anyF; rw [hf]; rfl]
    clear hf
    rcases (by omega : n < 1 ∨ (¬ n < 1 ∧ 8 < n)) with h1 | ⟨h1, h2⟩
    all_goals
      clear hn
      go_enter Tryz.func70, Tryz.ntmps70
      go_wp2
      refine bodyPost_ret (v := .agg #[.int .i64 0, .bool false, .int .i64 0, .int .i64 0]) (by simp [results, go_sem]) rfl ⟨rfl, ?_⟩
      exact Hb1.out _
  | true =>
    rcases fits_cases hf with rfl | rfl | rfl | rfl | rfl | rfl | rfl | rfl
    all_goals cases sg
    all_goals
      go_enter Tryz.func70, Tryz.ntmps70
      go_wp2_with fail
      go_fit (qMost_any _ _ _ hf)
      rintro e w1 ⟨rfl, rfl⟩
      simp only [show mostF 1 true = 127 from rfl, show mostF 1 false = 255 from rfl, show mostF 2 true = 32767 from rfl, show mostF 2 false = 65535 from rfl, show mostF 3 true = 8388607 from rfl, show mostF 3 false = 16777215 from rfl, show mostF 4 true = 2147483647 from rfl, show mostF 4 false = 4294967295 from rfl, show mostF 5 true = 549755813887 from rfl, show mostF 5 false = 1099511627775 from rfl, show mostF 6 true = 140737488355327 from rfl, show mostF 6 false = 281474976710655 from rfl, show mostF 7 true = 36028797018963967 from rfl, show mostF 7 false = 72057594037927935 from rfl, show mostF 8 true = 9223372036854775807 from rfl, show mostF 8 false = 9223372036854775807 from rfl]
      go_wp2
    all_goals
      refine bodyPost_ret (v := fv (anyF _ _)) (by simp [results, go_sem, fv, anyF, fitsF] <;> first | rfl | decide) rfl ⟨rfl, ?_⟩
      exact Hb2.out _ _
end Go.Proofs.YtonejdjhdjckjaaGreat
