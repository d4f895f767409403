/-
  fix.Clamp, root.Squares of few numbers, dop.Together and the document's, walked.
-/
import Derived.Test.YtkelepnipndbbaaRoot1
import Derived.Test.YtkelepnipndbbaaOpen
set_option linter.unusedSimpArgs false
set_option linter.unusedVariables false
namespace Go.Proofs.Ytkelepnipndbbaa
open Go.RowKit Go.Shelf

theorem ret_bool' {a b : Bool} (h : a = b) : Ending.returned (.bool a) = .returned (.bool b) := by rw [h]

/-- A literal's row of plain cells. -/
theorem rd_new (w : World) (e : TypeId) (cs : List Value) (hm : cs.length ≤ maxLen) : Rd (w.alloc (.cells cs.toArray e)) (w.heap.size + 1) 1 (some ⟨w.heap.size, 0, none⟩) cs.length cs.length cs := by
  refine ⟨by simp, Nat.le_refl _, hm, fun _ => ⟨_, rfl, Nat.lt_succ_self _, fun j u hu => ?_⟩⟩
  have e1 : (⟨w.heap.size, 0, none⟩ : Addr).add j = ⟨w.heap.size, j, none⟩ := by unfold Addr.add; split <;> simp_all
  rw [e1, World.cell?, show (⟨w.heap.size, j, none⟩ : Addr).block = w.heap.size from rfl, heap_alloc_new w _]
  simpa using hu
def clampV (n : Int) : Int := if n < -2147483648 then -2147483648 else if 2147483647 < n then 2147483647 else n
theorem clamp_any (n : Int) (w : World) (h : -9223372036854775808 ≤ n ∧ n ≤ 9223372036854775807) :
    Calls Try.prog 98 #[.int .i64 n] w fun e w' => e = .returned (.tuple #[.int .i32 (clampV n), .bool (clampV n != n)]) ∧ w = w' := by
  have hm : max (-2147483648) (min n 2147483647) = clampV n := by unfold clampV; split <;> (try split) <;> omega
  have hc : -2147483648 ≤ clampV n ∧ clampV n ≤ 2147483647 := by omega
  generalize clampV n = c at *
  go_enter Try.func98, Try.ntmps98
  go_wp2
  go_ret2
  exact ⟨rfl, rfl⟩
theorem fits18_any (n : Int) (w : World) :
    Calls Try.prog 97 #[.int .i64 n] w fun e w' => e = .returned (.bool (decide (0 ≤ n ∧ n ≤ 65535))) ∧ w = w' := by
  go_enter Try.func97, Try.ntmps97
  by_cases h : 0 ≤ n
  · go_wp2
    go_ret
    exact ⟨by simp [h], rfl⟩
  · go_wp2
    go_ret
    exact ⟨ret_bool' (by simp; omega), rfl⟩
theorem addLays : Lays7.n25 Try.prog ⟨fun _ => 148, fun _ => 121, fun x => x⟩ := {
  mixed := by kernel_rfl
  f25 := by kernel_rfl
  t22 := by kernel_rfl
  a22 := fun _ => by kernel_rfl
  z22 := fun _ => by kernel_rfl
  v22 := fun _ => by kernel_rfl
  i22 := by kernel_rfl }
theorem add64_run (x y : Nat) (w : World) : (callFunc 148 #[.int .u64 x, .int .u64 y, .int .u64 0]).run Try.prog w =
      .ok (.value (.tuple #[.int .u64 (((x + y) % 18446744073709551616 : Nat) : Int), .int .u64 (((x + y) / 18446744073709551616 : Nat) : Int)])) w :=
  Any7.bits_Add64 addLays x y 0 (by omega) w

def sqs (xs : List Int) : Nat := (xs.map fun x => (x * x).toNat).sum
theorem sqs_snoc (xs : List Int) (x : Int) : sqs (xs ++ [x]) = sqs xs + (x * x).toNat := by simp [sqs]
theorem sq_bound {x : Int} (h : -2147483648 ≤ x ∧ x ≤ 2147483647) : ∃ z : Nat, x * x = (z : Int) ∧ z ≤ 4611686018427387904 := by
  refine ⟨x.natAbs * x.natAbs, by rw [← Int.natAbs_mul_self], ?_⟩
  have : x.natAbs * x.natAbs ≤ 2147483648 * 2147483648 := Nat.mul_le_mul (by omega) (by omega)
  omega
set_option maxHeartbeats 1000000 in
theorem squares_any (A : Option Addr) (n c B : Nat) (xs : List Int) (w : World) (h : Rd w B 1 A n c (xs.map (Value.int .i32))) (hB : B ≤ w.heap.size) (hb : ∀ x ∈ xs, -2147483648 ≤ x ∧ x ≤ 2147483647) (hn : n ≤ 3) :
    Calls Try.prog 100 #[.slice A n c] w fun e w' => e = .returned (.int .u64 (sqs xs : Int)) ∧ w = w' := by
  have hle := h.le
  have hmx := h.max
  unfold maxLen at hmx
  have hxl : xs.length = n := by have := h.len; simpa using this
  obtain ⟨t, ht⟩ : ∃ t, t = sqs xs := ⟨_, rfl⟩
  rw [← ht]
  have Ht := Lib.hid ht
  have Hb := Lib.hid hb
  have Hxl := Lib.hid hxl
  clear ht hb hxl
  go_enter Try.func100, Try.ntmps100
  go_wp2_with fail
  go_loopw [3, 11] (fun s i wr => ∃ (k p : Nat), k ≤ n ∧ i = .int .i64 k ∧ s = .int .u64 p ∧ p ≤ k * 4611686018427387904 ∧ Hid (p = sqs (xs.take k)) ∧ wr = w) (fun _ i _ => n - (intOf i).toNat)
  case atStart => exact ⟨0, 0, by omega, rfl, rfl, by omega, Lib.hid rfl, rfl⟩
  case round =>
    obtain ⟨k, p, hk, rfl, rfl, hp, Hp, rfl⟩ := hrel
    by_cases hlt : k < n
    · obtain ⟨ad, u, rfl, hu, hc⟩ := h.one hlt
      obtain ⟨x, hx, rfl⟩ : ∃ x, xs[k]? = some x ∧ Value.int .i32 x = u := by simpa using hu
      have hxb := Hb.out x (List.mem_of_getElem? hx)
      obtain ⟨z, hz, hz2⟩ := sq_bound hxb
      have Hz := Lib.hid hz
      have hs := sqs_snoc (xs.take k) x
      rw [← take_succ hx, ← Hp.out, hz, Int.toNat_natCast] at hs
      have Hs := Lib.hid hs
      have ha := fun w : World => add64_run p z w
      have e1 : (p + z) % 18446744073709551616 = p + z := Nat.mod_eq_of_lt (by omega)
      have e2 : (p + z) / 18446744073709551616 = 0 := Nat.div_eq_of_lt (by omega)
      rw [e1, e2] at ha
      clear hs hu e1 e2 hx
      go_wp2_with (simp only [ha])
      go_roundw
      case rel => exact ⟨k + 1, p + z, by omega, by go_num, by go_num, by omega, Lib.hid Hs.out.symm, trivial⟩
      case measure => simp [intOf]; omega
    · obtain rfl : k = n := by omega
      have e : xs.take k = xs := List.take_of_length_le (by rw [Hxl.out]; omega)
      have hpt : p = t := by rw [Hp.out, e, Ht.out]
      subst hpt
      go_wp2
      go_ret
      exact ⟨rfl, rfl⟩
theorem clampV_in {n : Int} (h : 0 ≤ n ∧ n ≤ 65535) : clampV n = n := by unfold clampV; rw [if_neg (by omega), if_neg (by omega)]
set_option maxHeartbeats 1000000 in
theorem together_any (a b : Int) (w : World) (ha : -9223372036854775808 ≤ a ∧ a ≤ 9223372036854775807) (hb : -9223372036854775808 ≤ b ∧ b ≤ 9223372036854775807) :
    Calls Try.prog 35 #[.int .i64 a, .int .i64 b] w fun e w' => e = .returned (.int .i64 (togR a b)) ∧ Below w.heap.size w w' := by
  by_cases h1 : 0 ≤ a ∧ a ≤ 65535
  · have f1 := fits18_any a w
    rw [decide_eq_true h1] at f1
    have f2 := fits18_any b w
    by_cases h2 : 0 ≤ b ∧ b ≤ 65535
    · rw [decide_eq_true h2] at f2
      have c1 := clamp_any a w ha
      have c2 := clamp_any b w hb
      rw [clampV_in h1, bne_self_eq_false] at c1
      rw [clampV_in h2, bne_self_eq_false] at c2
      have hrd : Rd (w.alloc (.cells #[.int .i32 a, .int .i32 b] 21)) (w.heap.size + 1) 1 (some ⟨w.heap.size, 0, none⟩) 2 2 ([a, b].map (Value.int .i32)) := rd_new w 21 [.int .i32 a, .int .i32 b] (by simp [maxLen])
      have hsq := squares_any _ _ _ _ _ _ hrd (by simp) (by intro x hx; simp at hx; omega) (by omega)
      have e1 : sqs [a, b] = a.toNat * a.toNat + b.toNat * b.toNat := by
        obtain ⟨x, rfl⟩ : ∃ x : Nat, a = x := ⟨a.toNat, by omega⟩
        obtain ⟨y, rfl⟩ : ∃ y : Nat, b = y := ⟨b.toNat, by omega⟩
        simp [sqs, ← Int.natCast_mul]
      have hlt : sqs [a, b] < 18446744073709551616 := by
        rw [e1]
        have := Nat.mul_le_mul (show a.toNat ≤ 65535 by omega) (show a.toNat ≤ 65535 by omega)
        have := Nat.mul_le_mul (show b.toNat ≤ 65535 by omega) (show b.toNat ≤ 65535 by omega)
        omega
      have hnr := near_any (sqs [a, b]) (w.alloc (.cells #[.int .i32 a, .int .i32 b] 21)) hlt
      have ht : togR a b = (nearR (sqs [a, b]) : Int) := by unfold togR; rw [if_pos ⟨h1.1, h1.2, h2.1, h2.2⟩, e1]
      have htb := togR_bound a b
      rw [ht] at htb ⊢
      generalize sqs [a, b] = s at *
      generalize nearR s = t at *
      have hbl : Below w.heap.size w (w.alloc (.cells #[.int .i32 a, .int .i32 b] 21)) := (Below.refl _ _).alloc (Nat.le_refl _) _
      clear ht hrd e1
      go_enter Try.func35, Try.ntmps35
      go_wp2_with fail
      go_fit f1
      rintro e w1 ⟨rfl, rfl⟩
      go_wp2_with fail
      go_fit f2
      rintro e w1 ⟨rfl, rfl⟩
      go_wp2_with fail
      go_fit c1
      rintro e w1 ⟨rfl, rfl⟩
      go_wp2_with fail
      go_fit c2
      rintro e w1 ⟨rfl, rfl⟩
      go_wp2_with fail
      go_fit hsq
      rintro e w1 ⟨rfl, rfl⟩
      go_wp2_with fail
      go_fit hnr
      rintro e w1 ⟨rfl, rfl⟩
      go_wp2
      go_ret
      exact ⟨by simp, hbl⟩
    · rw [decide_eq_false h2] at f2
      have ht : togR a b = 0 := by unfold togR; rw [if_neg (by omega)]
      rw [ht]
      go_enter Try.func35, Try.ntmps35
      go_wp2_with fail
      go_fit f1
      rintro e w1 ⟨rfl, rfl⟩
      go_wp2_with fail
      go_fit f2
      rintro e w1 ⟨rfl, rfl⟩
      go_wp2
      go_ret
      exact ⟨rfl, Below.refl _ _⟩
  · have f1 := fits18_any a w
    rw [decide_eq_false h1] at f1
    have ht : togR a b = 0 := by unfold togR; rw [if_neg (by omega)]
    rw [ht]
    go_enter Try.func35, Try.ntmps35
    go_wp2_with fail
    go_fit f1
    rintro e w1 ⟨rfl, rfl⟩
    go_wp2
    go_ret
    exact ⟨rfl, Below.refl _ _⟩
set_option maxRecDepth 10000 in
set_option maxHeartbeats 1000000 in
theorem qTogether_any (a b : Int) (w : World) (ha : -9223372036854775808 ≤ a ∧ a ≤ 9223372036854775807) (hb : -9223372036854775808 ≤ b ∧ b ≤ 9223372036854775807) :
    Calls Try.prog 44 #[.int .i64 a, .int .i64 b] w fun e w' => e = .returned (.int .i64 (togR a b)) ∧ w = w' := by
  by_cases h : 0 ≤ a ∧ a ≤ 65535 ∧ 0 ≤ b ∧ b ≤ 65535
  · obtain ⟨h1, h2, h3, h4⟩ := h
    obtain ⟨x, rfl⟩ : ∃ x : Nat, a = x := ⟨a.toNat, by omega⟩
    obtain ⟨y, rfl⟩ : ∃ y : Nat, b = y := ⟨b.toNat, by omega⟩
    have ht : togR x y = (nearR (x * x + y * y) : Int) := by unfold togR; rw [if_pos ⟨h1, h2, h3, h4⟩]; simp
    have m1 := Nat.mul_le_mul (show x ≤ 65535 by omega) (show x ≤ 65535 by omega)
    have m2 := Nat.mul_le_mul (show y ≤ 65535 by omega) (show y ≤ 65535 by omega)
    have htb := togR_bound x y
    rw [ht] at htb ⊢
    have e1 : (x : Int) * (x : Int) = ((x * x : Nat) : Int) := by simp
    have e2 : (y : Int) * (y : Int) = ((y * y : Nat) : Int) := by simp
    have hnr := fun w : World => qNear_any (x * x + y * y) w (by omega)
    have hp2 : x * x ≤ 4294836225 := m1
    have hq2 : y * y ≤ 4294836225 := m2
    clear m1 m2 ht
    generalize x * x = p at *
    generalize y * y = q at *
    generalize nearR (p + q) = t at *
    go_enter Try.func44, Try.ntmps44
    go_wp2_with fail
    go_fit (hnr _)
    rintro e w1 ⟨rfl, rfl⟩
    go_wp2
    go_ret
    exact ⟨by simp, rfl⟩
  · have ht : togR a b = 0 := by unfold togR; rw [if_neg h]
    rw [ht]
    rcases (by omega : a < 0 ∨ (¬ a < 0 ∧ 65535 < a) ∨ (¬ a < 0 ∧ ¬ 65535 < a ∧ b < 0) ∨ (¬ a < 0 ∧ ¬ 65535 < a ∧ ¬ b < 0 ∧ 65535 < b)) with g1 | ⟨g1, g2⟩ | ⟨g1, g2, g3⟩ | ⟨g1, g2, g3, g4⟩
    all_goals
      clear h ht
      go_enter Try.func44, Try.ntmps44
      go_wp2
      go_ret
      exact ⟨rfl, rfl⟩

end Go.Proofs.Ytkelepnipndbbaa
