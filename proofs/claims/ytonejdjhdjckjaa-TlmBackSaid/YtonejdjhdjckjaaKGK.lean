/-
  Several texts in one: CrcLaw CrcWalks CrcMore CrcOpen CrcTurn.
-/
import Derived.Test.YtonejdjhdjckjaaKGA
import Derived.Deep.RegionWith
import Derived.Deep.DeepFit
import Derived.Deep.RegionHeld3
import Derived.Deep.QuietTactic
import Derived.BigQuiet
/-
  Plain facts about the 16-bit sum of package crc, with no program in sight: one bit's turn T, its linearity, the sum of a list of bytes as turns of one number, and what turned bits do to it.
-/
namespace Go.Proofs.Ytonejdjhdjckjaa.CrcLaw

/-- One bit's turn. -/
def T (c : Nat) : Nat := c / 2 ^^^ (c % 2 * 33800)
def Tn : Nat → Nat → Nat
  | 0, c => c
  | k + 1, c => T (Tn k c)
/-- Bytes as a number, the lowest first. -/
def num : List UInt8 → Nat
  | [] => 0
  | x :: l => x.toNat + 256 * num l
/-- The sum's step, and the sum from c on. -/
def stepN (c x : Nat) : Nat := Tn 8 (c ^^^ x)
def moreN (c : Nat) (l : List UInt8) : Nat := l.foldl (fun c x => stepN c x.toNat) c

theorem T_lt {c : Nat} (h : c < 65536) : T c < 65536 := by
  have h1 : c / 2 < 2 ^ 16 := by omega
  have h2 : c % 2 * 33800 < 2 ^ 16 := by have := Nat.mod_lt c (show 0 < 2 by omega); omega
  exact Nat.xor_lt_two_pow h1 h2
theorem Tn_lt (k : Nat) {c : Nat} (h : c < 65536) : Tn k c < 65536 := by
  induction k with
  | zero => exact h
  | succ k ih => exact T_lt ih
theorem xor_lt {a b : Nat} (ha : a < 65536) (hb : b < 65536) : a ^^^ b < 65536 := Nat.xor_lt_two_pow (n := 16) ha hb
theorem stepN_lt {c x : Nat} (h : c < 65536) (hx : x < 256) : stepN c x < 65536 := Tn_lt 8 (xor_lt h (by omega))
theorem moreN_lt (l : List UInt8) : ∀ {c : Nat}, c < 65536 → moreN c l < 65536 := by
  induction l with
  | nil => intro c h; exact h
  | cons x l ih => intro c h; exact ih (stepN_lt h x.toNat_lt)
theorem moreN_append (c : Nat) (a b : List UInt8) : moreN c (a ++ b) = moreN (moreN c a) b := by simp [moreN]
theorem moreN_snoc (c : Nat) (a : List UInt8) (x : UInt8) : moreN c (a ++ [x]) = stepN (moreN c a) x.toNat := by simp [moreN]

theorem xor_mod2 (a b : Nat) : (a ^^^ b) % 2 = (a % 2 + b % 2) % 2 := by
  have := Nat.xor_mod_two_eq_one (a := a) (b := b)
  omega
theorem xor_zero_eq {a b : Nat} (h : a ^^^ b = 0) : a = b := by
  have e := congrArg (· ^^^ b) h
  simpa [Nat.xor_assoc] using e
theorem xor_div2 (a b : Nat) : (a ^^^ b) / 2 = a / 2 ^^^ b / 2 := Nat.xor_div_two
theorem bit_mul (a b k : Nat) : (a ^^^ b) % 2 * k = a % 2 * k ^^^ b % 2 * k := by
  rw [xor_mod2]
  rcases Nat.mod_two_eq_zero_or_one a with h | h <;> rcases Nat.mod_two_eq_zero_or_one b with h' | h' <;> rw [h, h'] <;> simp
theorem T_xor (a b : Nat) : T (a ^^^ b) = T a ^^^ T b := by
  unfold T
  rw [xor_div2, bit_mul, Nat.xor_assoc, Nat.xor_assoc, ← Nat.xor_assoc (b / 2), Nat.xor_comm (b / 2), Nat.xor_assoc]
theorem Tn_xor (k a b : Nat) : Tn k (a ^^^ b) = Tn k a ^^^ Tn k b := by
  induction k with
  | zero => rfl
  | succ k ih => simp only [Tn]; rw [ih, T_xor]
theorem Tn_add (j k c : Nat) : Tn (j + k) c = Tn j (Tn k c) := by
  induction j with
  | zero => simp [Tn]
  | succ j ih => rw [Nat.add_right_comm]; simp only [Tn]; rw [ih]
theorem T_double (n : Nat) : T (2 * n) = n := by
  unfold T; simp
theorem Tn_shift (k n : Nat) : Tn k (2 ^ k * n) = n := by
  induction k with
  | zero => simp [Tn]
  | succ k ih =>
    have e : Tn (k + 1) (2 ^ (k + 1) * n) = Tn k (T (2 ^ (k + 1) * n)) := by
      have := Tn_add k 1 (2 ^ (k + 1) * n)
      simpa [Tn] using this
    rw [e, Nat.pow_succ, Nat.mul_comm (2 ^ k) 2, Nat.mul_assoc, T_double, ih]
theorem T_zero_of {c : Nat} (h : c < 65536) (h0 : T c = 0) : c = 0 := by
  unfold T at h0
  have e : c / 2 = c % 2 * 33800 := xor_zero_eq h0
  rcases Nat.mod_two_eq_zero_or_one c with h1 | h1 <;> rw [h1] at e <;> omega
theorem Tn_zero (k : Nat) : Tn k 0 = 0 := by
  induction k with
  | zero => rfl
  | succ k ih => simp [Tn, ih, T]
theorem Tn_zero_of (k : Nat) {c : Nat} (h : c < 65536) (h0 : Tn k c = 0) : c = 0 := by
  induction k with
  | zero => exact h0
  | succ k ih => exact ih (T_zero_of (Tn_lt k h) h0)

theorem xor_low (a b k : Nat) (h : a < 2 ^ k) : a + 2 ^ k * b = a ^^^ 2 ^ k * b := by
  refine Nat.eq_of_testBit_eq fun i => ?_
  rw [Nat.add_comm, Nat.testBit_two_pow_mul_add _ h, Nat.testBit_xor, Nat.testBit_two_pow_mul]
  by_cases hi : i < k
  · simp [hi, Nat.not_le.2 hi]
  · have h1 : a.testBit i = false := Nat.testBit_lt_two_pow (Nat.lt_of_lt_of_le h (Nat.pow_le_pow_right (by omega) (by omega)))
    simp [hi, h1, Nat.le_of_not_lt hi]
theorem moreN_eq (l : List UInt8) : ∀ c, moreN c l = Tn (8 * l.length) (c ^^^ num l) := by
  induction l with
  | nil => intro c; simp [moreN, num, Tn]
  | cons x l ih =>
    intro c
    have h1 : moreN c (x :: l) = moreN (stepN c x.toNat) l := rfl
    rw [h1, ih]
    have h2 : num (x :: l) = x.toNat ^^^ 2 ^ 8 * num l := by
      have := xor_low x.toNat (num l) 8 x.toNat_lt
      simpa [num] using this
    rw [h2, List.length_cons, Nat.mul_add, Nat.mul_one, Tn_add, ← Nat.xor_assoc, Tn_xor 8, Tn_shift]
    rfl

/-- The table of four bits. -/
def tabL : List Nat := [0, 4225, 8450, 12675, 16900, 21125, 25350, 29575, 33800, 38025, 42250, 46475, 50700, 54925, 59150, 63375]
def tab (n : Nat) : Nat := tabL.getD n 0
theorem tab_eq : ∀ k, k < 16 → Tn 4 k = tab k := by decide
theorem four_eq (c : Nat) : Tn 4 c = c / 16 ^^^ tab (c % 16) := by
  have h : c % 16 + 2 ^ 4 * (c / 16) = c := by omega
  have h2 : Tn 4 c = Tn 4 (c % 16 ^^^ 2 ^ 4 * (c / 16)) := by rw [← xor_low _ _ 4 (by omega), h]
  rw [h2, Tn_xor, Tn_shift, tab_eq _ (by omega), Nat.xor_comm]
theorem tab_lt : ∀ k, tab k < 65536 := by
  intro k
  rcases Nat.lt_or_ge k 16 with h | h
  · have : ∀ k, k < 16 → tab k < 65536 := by decide
    exact this k h
  · simp [tab, tabL, List.getD_eq_getElem?_getD, h]
theorem Tn8 (c : Nat) : Tn 4 (Tn 4 c) = Tn 8 c := (Tn_add 4 4 c).symm

/-- What was sealed has the sum 0. -/
theorem seal_zero {c : Nat} (h : c < 65536) : moreN c [UInt8.ofNat (c % 256), UInt8.ofNat (c / 256)] = 0 := by
  rw [moreN_eq]
  have e : num [UInt8.ofNat (c % 256), UInt8.ofNat (c / 256)] = c := by
    simp [num]; omega
  rw [e, Nat.xor_self, Tn_zero]
theorem zero_seal {c : Nat} (h : c < 65536) (x y : UInt8) (h0 : moreN c [x, y] = 0) : x = UInt8.ofNat (c % 256) ∧ y = UInt8.ofNat (c / 256) := by
  rw [moreN_eq] at h0
  have hx := x.toNat_lt
  have hy := y.toNat_lt
  have hn : num [x, y] < 65536 := by simp [num]; omega
  have e := xor_zero_eq (Tn_zero_of _ (xor_lt h hn) h0)
  simp [num] at e
  constructor
  · apply UInt8.toNat_inj.1; rw [UInt8.toNat_ofNat']; omega
  · apply UInt8.toNat_inj.1; rw [UInt8.toNat_ofNat']; omega

theorem num_lt (l : List UInt8) : num l < 2 ^ (8 * l.length) := by
  induction l with
  | nil => simp [num]
  | cons x l ih =>
    have := x.toNat_lt
    simp only [num, List.length_cons, Nat.mul_add, Nat.mul_one, Nat.pow_add]
    omega
/-- Bits turned: the number's bits are turned. -/
theorem num_set (l : List UInt8) : ∀ (k : Nat) (j : Nat) (y : UInt8), k < l.length → j < 8 → y.toNat = (l.getD k 0).toNat ^^^ 2 ^ j → num (l.set k y) = num l ^^^ 2 ^ (8 * k + j) := by
  induction l with
  | nil => intro k j y h; simp at h
  | cons x l ih =>
    intro k j y h hj hy
    have e : ∀ (x : UInt8) (n : Nat), x.toNat + 256 * n = x.toNat ^^^ 2 ^ 8 * n := fun x n => xor_low x.toNat n 8 x.toNat_lt
    cases k with
    | zero =>
      simp only [List.set_cons_zero, num]
      rw [e, e, hy]
      simp only [List.getD_cons_zero, Nat.mul_zero, Nat.zero_add]
      rw [Nat.xor_assoc, Nat.xor_comm (2 ^ j), ← Nat.xor_assoc]
    | succ k =>
      simp only [List.set_cons_succ, num]
      rw [e, e, ih k j y (by simpa using h) hj (by simpa using hy)]
      have hx : 2 ^ 8 * (num l ^^^ 2 ^ (8 * k + j)) = 2 ^ 8 * num l ^^^ 2 ^ (8 * (k + 1) + j) := by
        have h1 := Nat.shiftLeft_xor_distrib (a := num l) (b := 2 ^ (8 * k + j)) (i := 8)
        simp only [Nat.shiftLeft_eq] at h1
        rw [Nat.mul_comm, h1, Nat.mul_comm _ (2 ^ 8), ← Nat.pow_add]
        congr 2
        omega
      rw [hx, Nat.xor_assoc]
/-- Of what bits within 16 in a row were turned, the sum is no longer 0. -/
theorem burst {c : Nat} {s o : List UInt8} {at_ m : Nat} (hl : o.length = s.length) (hat : at_ ≤ 8 * s.length) (hm : m < 65536) (hn : num o = num s ^^^ 2 ^ at_ * m) (h0 : moreN c s = 0) (h1 : moreN c o = 0) : m = 0 := by
  rw [moreN_eq] at h0 h1
  rw [hl, hn, ← Nat.xor_assoc, Tn_xor, h0, Nat.zero_xor] at h1
  have e : 8 * s.length = (8 * s.length - at_) + at_ := by omega
  rw [e, Tn_add, Tn_shift] at h1
  exact Tn_zero_of _ hm h1

theorem mul_xor (t a b : Nat) : 2 ^ t * (a ^^^ b) = 2 ^ t * a ^^^ 2 ^ t * b := by
  have h1 := Nat.shiftLeft_xor_distrib (a := a) (b := b) (i := t)
  simp only [Nat.shiftLeft_eq] at h1
  rw [Nat.mul_comm, h1, Nat.mul_comm, Nat.mul_comm b]
/-- One bit more of a mask. -/
theorem mask_one {m k : Nat} (t : Nat) (h : m / 2 ^ k % 2 = 1) : 2 ^ t * (m % 2 ^ (k + 1)) = 2 ^ t * (m % 2 ^ k) ^^^ 2 ^ (t + k) ∧ m % 2 ^ (k + 1) ≠ 0 := by
  have e : m % 2 ^ (k + 1) = m % 2 ^ k + 2 ^ k * 1 := by rw [Nat.mod_pow_succ, h]
  have hp : 0 < 2 ^ k := Nat.pow_pos (by omega)
  refine ⟨?_, by omega⟩
  rw [e, xor_low _ _ _ (Nat.mod_lt _ hp), mul_xor, Nat.mul_one, ← Nat.pow_add]
theorem mask_none {m k : Nat} (h : m / 2 ^ k % 2 = 0) : m % 2 ^ (k + 1) = m % 2 ^ k := by
  rw [Nat.mod_pow_succ, h]; rfl
theorem num_inj : ∀ {a b : List UInt8}, a.length = b.length → num a = num b → a = b
  | [], [], _, _ => rfl
  | [], _ :: _, h, _ => by simp at h
  | _ :: _, [], h, _ => by simp at h
  | x :: a, y :: b, h, hn => by
    have hx := x.toNat_lt
    have hy := y.toNat_lt
    simp only [num] at hn
    have h1 : x.toNat = y.toNat := by omega
    have h2 : num a = num b := by omega
    rw [num_inj (by simpa using h) h2, UInt8.toNat_inj.1 h1]

end Go.Proofs.Ytonejdjhdjckjaa.CrcLaw

/-
  What the functions of package crc, and of its reference, compute: each called once, by its text.
-/
set_option linter.unusedSimpArgs false
set_option linter.unusedVariables false
namespace Go.Proofs.Ytonejdjhdjckjaa
open Go.RowKit CrcLaw

/- crc.Step -/
theorem step_val (c : Nat) (h : c < 65536) : bits .xor .u16 ((c : Int) / 2) (bits .and .u16 (IntKind.u16.wrap (-bits .and .u16 (c : Int) 1)) 33800) = ((T c : Nat) : Int) := by
  have e1 : bits .and .u16 (c : Int) 1 = ((c % 2 : Nat) : Int) := by
    have := u16_and_nat c 1 (by omega) (by omega)
    rw [show c &&& 1 = c % 2 from Nat.and_two_pow_sub_one_eq_mod c 1] at this
    exact this
  rw [e1, show ((c : Int) / 2) = ((c / 2 : Nat) : Int) by omega]
  rcases Nat.mod_two_eq_zero_or_one c with h0 | h0 <;> rw [h0]
  · have e2 : bits .and .u16 (IntKind.u16.wrap (-((0 : Nat) : Int))) 33800 = ((0 : Nat) : Int) := by decide
    rw [e2, u16_xor_nat _ _ (by omega) (by omega)]
    simp [T, h0]
  · have e2 : bits .and .u16 (IntKind.u16.wrap (-((1 : Nat) : Int))) 33800 = ((33800 : Nat) : Int) := by decide
    rw [e2, u16_xor_nat _ _ (by omega) (by omega)]
    simp [T, h0]
set_option maxHeartbeats 400000 in
theorem step_any (c b: Nat) (w : World) (h1 : c < 65536) (h2 : b < 256) :
    Calls Try.prog 55 #[.int .u16 c, .int .u8 b] w fun e w' => e = .returned (.int .u16 (stepN c b)) ∧ w = w' := by
  have e1 := u16_xor_nat c b h1 (by omega)
  go_enter Try.func55, Try.ntmps55
  go_wp2
  go_loop [0, 9] (fun c' i => ∃ k : Nat, k ≤ 8 ∧ i = .int .i64 k ∧ c' = .int .u16 (Tn k (c ^^^ b))) (fun _ i => 8 - (intOf i).toNat)
  case atStart => exact ⟨0, by omega, rfl, rfl⟩
  case round =>
    obtain ⟨k, hk, rfl, rfl⟩ := hrel
    have hd : Tn k (c ^^^ b) < 65536 := Tn_lt k (xor_lt h1 (by omega))
    by_cases hlt : k < 8
    · go_wp2
      go_round
      case rel => exact ⟨k + 1, by omega, by go_num, by rw [step_val _ hd]; rfl⟩
      case measure => simp [intOf]; omega
    · obtain rfl : k = 8 := by omega
      go_wp2
      go_ret
      exact ⟨rfl, rfl⟩

/- crc.four -/
theorem tab_cell (w : World) (k : Nat) (h : k < 16) : (w.alloc (Obj.cells #[.int .u16 0, .int .u16 4225, .int .u16 8450, .int .u16 12675, .int .u16 16900, .int .u16 21125, .int .u16 25350, .int .u16 29575, .int .u16 33800, .int .u16 38025, .int .u16 42250, .int .u16 46475, .int .u16 50700, .int .u16 54925, .int .u16 59150, .int .u16 63375] 126)).cell? ⟨w.heap.size, k, none⟩ = some (.int .u16 (tab k)) := by
  rcases (by omega : k = 0 ∨ k = 1 ∨ k = 2 ∨ k = 3 ∨ k = 4 ∨ k = 5 ∨ k = 6 ∨ k = 7 ∨ k = 8 ∨ k = 9 ∨ k = 10 ∨ k = 11 ∨ k = 12 ∨ k = 13 ∨ k = 14 ∨ k = 15) with rfl | rfl | rfl | rfl | rfl | rfl | rfl | rfl | rfl | rfl | rfl | rfl | rfl | rfl | rfl | rfl <;> simp [tab, tabL]
set_option maxHeartbeats 400000 in
theorem four_any (c : Nat) (w : World) (h : c < 65536) :
    Calls Try.prog 79 #[.int .u16 (c : Int)] w fun e w' => e = .returned (.int .u16 (Tn 4 c)) ∧ Below w.heap.size w w' := by
  have e1 : bits .and .u16 (c : Int) 15 = ((c % 16 : Nat) : Int) := by
    have := u16_and_nat c 15 (by omega) (by omega)
    rw [show c &&& 15 = c % 16 from Nat.and_two_pow_sub_one_eq_mod c 4] at this
    exact this
  have e3 : bits .xor .u16 ((c : Int) / 16) ((tab (c % 16) : Nat) : Int) = ((Tn 4 c : Nat) : Int) := by
    rw [show ((c : Int) / 16) = ((c / 16 : Nat) : Int) by omega, u16_xor_nat _ _ (by omega) (tab_lt _), four_eq]
  have E3 := Lib.hid e3
  clear e3
  obtain ⟨k, hk⟩ : ∃ k, k = c % 16 := ⟨_, rfl⟩
  rw [← hk] at e1 E3
  have hlt : k < 16 := by omega
  have hc := tab_cell w k hlt
  clear hk
  go_enter Try.func79, Try.ntmps79
  go_wp2
  go_ret
  exact ⟨ret_int E3.out, (Below.refl _ _).alloc (Nat.le_refl _) _⟩

/- crc.More -/
set_option maxHeartbeats 400000 in
theorem more_any (c : Nat) (A : Option Addr) (n cap B : Nat) (l : List UInt8) (w : World) (h1 : c < 65536) (h : Rd w B 1 A n cap (bv l)) (hB : B ≤ w.heap.size) :
    Calls Try.prog 53 #[.int .u16 c, .slice A n cap] w fun e w' => e = .returned (.int .u16 (moreN c l)) ∧ Below w.heap.size w w' := by
  have hn := h.le
  have hm := h.max
  unfold maxLen at hm
  have hl := h.blen
  go_enter Try.func53, Try.ntmps53
  clear hl
  go_wp2
  go_loopw [0, 6, 9] (fun c' _ i wr => ∃ k : Nat, k ≤ n ∧ i = .int .i64 k ∧ c' = .int .u16 (moreN c (l.take k)) ∧ Below w.heap.size w wr) (fun _ _ i _ => n - (intOf i).toNat)
  case atStart => exact ⟨0, by omega, rfl, rfl, Below.refl _ _⟩
  case round =>
    obtain ⟨k, hk, rfl, rfl, hb⟩ := hrel
    have hd : moreN c (l.take k) < 65536 := moreN_lt _ h1
    by_cases hlt : k < n
    · obtain ⟨ad, x, rfl, hx, hc⟩ := (h.up (hb.mono hB)).byte hlt
      have hs : moreN c (l.take (k + 1)) = Tn 4 (Tn 4 (moreN c (l.take k) ^^^ x.toNat)) := by rw [take_succ hx, moreN_snoc, Tn8]; rfl
      have Hs := Lib.hid hs
      clear hs hx
      generalize moreN c (l.take k) = d at *
      have hxl : x.toNat < 256 := x.toNat_lt
      have e1 := u16_xor_nat d x.toNat hd (by omega)
      have hdx : d ^^^ x.toNat < 65536 := xor_lt hd (by omega)
      have hd4 := Tn_lt 4 hdx
      go_wp2_with fail
      refine (four_any _ _ hdx).mono ?_
      rintro e w1 ⟨rfl, hb1⟩
      go_wp2_with fail
      refine (four_any _ _ hd4).mono ?_
      rintro e w2 ⟨rfl, hb2⟩
      have hb' : Below w.heap.size w w2 := (hb.trans (hb1.mono hb.size)).trans (hb2.mono (Nat.le_trans hb.size hb1.size))
      clear hb1 hb2 hc
      go_wp2
      go_roundw
      case rel => exact ⟨k + 1, by omega, by go_num, val_int (cast_ Hs.out.symm), hb'⟩
      case measure => simp [intOf]; omega
    · obtain rfl : k = n := by omega
      have hl := h.blen
      have ht : l.take k = l := List.take_of_length_le (by omega)
      clear hl
      rw [ht]
      go_wp2
      go_ret
      exact ⟨rfl, hb⟩

/- crc.Of -/
set_option maxHeartbeats 400000 in
theorem crcOf_any (A : Option Addr) (n cap B : Nat) (ls : List (List UInt8)) (w : World) (h : RdL w B A n cap ls) (hB : B ≤ w.heap.size) :
    Calls Try.prog 98 #[.slice A n cap] w fun e w' => e = .returned (.int .u16 (moreN 65535 ls.flatten)) ∧ Below w.heap.size w w' := by
  obtain ⟨hn, hm, hl⟩ : n ≤ cap ∧ cap ≤ maxLen ∧ ls.length = n := by obtain ⟨vs, h1, h2, _⟩ := h; exact ⟨h1.le, h1.max, h2⟩
  have Hl := Lib.hid hl
  clear hl
  unfold maxLen at hm
  go_enter Try.func98, Try.ntmps98
  go_wp2
  go_loopw [3, 5, 8] (fun c' _ i wr => ∃ k : Nat, k ≤ n ∧ i = .int .i64 k ∧ c' = .int .u16 (moreN 65535 (ls.take k).flatten) ∧ Below w.heap.size w wr) (fun _ _ i _ => n - (intOf i).toNat)
  case atStart => exact ⟨0, by omega, rfl, rfl, Below.refl _ _⟩
  case round =>
    obtain ⟨k, hk, rfl, rfl, hb⟩ := hrel
    have hd : moreN 65535 (ls.take k).flatten < 65536 := moreN_lt _ (by omega)
    by_cases hlt : k < n
    · obtain ⟨ad, l, A', n', c', rfl, hx, hc, hr⟩ := (h.up (hb.mono hB)).at_ hlt
      have hs : moreN 65535 (ls.take (k + 1)).flatten = moreN (moreN 65535 (ls.take k).flatten) l := by rw [flat_snoc hx, moreN_append]
      have Hs := Lib.hid hs
      clear hs hx
      generalize moreN 65535 (ls.take k).flatten = d at *
      go_wp2_with fail
      refine (more_any _ _ _ _ _ _ _ hd hr (Nat.le_trans hB hb.size)).mono ?_
      rintro e w1 ⟨rfl, hb1⟩
      have hb' : Below w.heap.size w w1 := (hb.trans (hb1.mono hb.size))
      clear hb1 hc
      go_wp2
      go_roundw
      case rel => exact ⟨k + 1, by omega, by go_num, val_int (cast_ Hs.out.symm), hb'⟩
      case measure => simp [intOf]; omega
    · obtain rfl : k = n := by omega
      have ht : ls.take k = ls := List.take_of_length_le (by rw [Hl.out]; omega)
      rw [ht]
      go_wp2
      go_ret
      exact ⟨rfl, hb⟩

end Go.Proofs.Ytonejdjhdjckjaa

/-
  What crc.Seal, crc.Open, their reference, and the statements' Turned compute.
-/
set_option linter.unusedSimpArgs false
set_option linter.unusedVariables false
namespace Go.Proofs.Ytonejdjhdjckjaa
open Go.RowKit CrcLaw

theorem T_odd {d : Nat} (h : d % 2 = 1) : T d = d / 2 ^^^ 33800 := by simp [T, h]
theorem T_even {d : Nat} (h : d % 2 = 0) : T d = d / 2 := by simp [T, h]
set_option maxHeartbeats 400000 in
theorem rstep_any (c b: Nat) (w : World) (h1 : c < 65536) (h2 : b < 256) :
    Calls Try.prog 99 #[.int .u16 c, .int .u8 b] w fun e w' => e = .returned (.int .u16 (stepN c b)) ∧ w = w' := by
  have e1 := u16_xor_nat c b h1 (by omega)
  go_enter Try.func99, Try.ntmps99
  go_wp2
  go_loop [0, 5, 6] (fun c' i _ => ∃ k : Nat, k ≤ 8 ∧ i = .int .i64 k ∧ c' = .int .u16 (Tn k (c ^^^ b))) (fun _ i _ => 8 - (intOf i).toNat)
  case atStart => exact ⟨0, by omega, rfl, rfl⟩
  case round =>
    obtain ⟨k, hk, rfl, rfl⟩ := hrel
    have hd : Tn k (c ^^^ b) < 65536 := Tn_lt k (xor_lt h1 (by omega))
    clear e1
    by_cases hlt : k < 8
    · have hs : Tn (k + 1) (c ^^^ b) = T (Tn k (c ^^^ b)) := rfl
      have Hs := Lib.hid hs
      clear hs
      generalize Tn k (c ^^^ b) = d at *
      rcases Nat.mod_two_eq_zero_or_one d with h0 | h0
      · have Ht := Lib.hid (T_even h0)
        have hq : ((d : Int) % 2 == 1) = false := by rw [beq_eq_false_iff_ne]; omega
        clear h0
        go_wp2
        go_round
        case rel => exact ⟨k + 1, by omega, by go_num, val_int (by rw [Hs.out, Ht.out]; omega)⟩
        case measure => simp [intOf]; omega
      · have Ht := Lib.hid (T_odd h0)
        have hq : ((d : Int) % 2 == 1) = true := by rw [beq_iff_eq]; omega
        have e1 : bits .xor .u16 ((d : Int) / 2) 33800 = ((d / 2 ^^^ 33800 : Nat) : Int) := by
          have := u16_xor_nat (d / 2) 33800 (by omega) (by omega)
          simpa using this
        clear h0
        go_wp2
        go_round
        case rel => exact ⟨k + 1, by omega, by go_num, val_int (by rw [Hs.out, Ht.out])⟩
        case measure => simp [intOf]; omega
    · obtain rfl : k = 8 := by omega
      go_wp2
      go_ret
      exact ⟨rfl, rfl⟩

set_option maxHeartbeats 400000 in
theorem rmore_any (c : Nat) (A : Option Addr) (n cap B : Nat) (l : List UInt8) (w : World) (h1 : c < 65536) (h : Rd w B 1 A n cap (bv l)) :
    Calls Try.prog 81 #[.int .u16 c, .slice A n cap] w fun e w' => e = .returned (.int .u16 (moreN c l)) ∧ w = w' := by
  have hn := h.le
  have hm := h.max
  unfold maxLen at hm
  go_enter Try.func81, Try.ntmps81
  go_wp2
  go_loop [0, 5] (fun c' i => ∃ k : Nat, k ≤ n ∧ i = .int .i64 k ∧ c' = .int .u16 (moreN c (l.take k))) (fun _ i => n - (intOf i).toNat)
  case atStart => exact ⟨0, by omega, rfl, rfl⟩
  case round =>
    obtain ⟨k, hk, rfl, rfl⟩ := hrel
    have hd : moreN c (l.take k) < 65536 := moreN_lt _ h1
    by_cases hlt : k < n
    · obtain ⟨ad, x, rfl, hx, hc⟩ := h.byte hlt
      have hs : moreN c (l.take (k + 1)) = stepN (moreN c (l.take k)) x.toNat := by rw [take_succ hx, moreN_snoc]
      have Hs := Lib.hid hs
      clear hs hx
      generalize moreN c (l.take k) = d at *
      go_wp2_with fail
      go_fit (rstep_any d x.toNat w hd x.toNat_lt)
      rintro e w1 ⟨rfl, rfl⟩
      go_wp2
      go_round
      case rel => exact ⟨k + 1, by omega, by go_num, val_int (cast_ Hs.out.symm)⟩
      case measure => simp [intOf]; omega
    · obtain rfl : k = n := by omega
      have ht : l.take k = l := List.take_of_length_le (by rw [h.blen]; exact Nat.le_refl _)
      rw [ht]
      clear ht
      go_wp2
      go_ret
      exact ⟨rfl, rfl⟩

set_option maxHeartbeats 400000 in
theorem rof_any (A : Option Addr) (n cap B : Nat) (l : List UInt8) (w : World) (h : Rd w B 1 A n cap (bv l)) :
    Calls Try.prog 57 #[.slice A n cap] w fun e w' => e = .returned (.int .u16 (moreN 65535 l)) ∧ w = w' := by
  go_enter Try.func57, Try.ntmps57
  go_wp2_with fail
  go_fit (rmore_any 65535 A n cap B l w (by omega) h)
  rintro e w1 ⟨rfl, rfl⟩
  go_wp2
  go_ret
  exact ⟨rfl, rfl⟩

/-- The seal's two bytes. -/
def tailN (l : List UInt8) : List UInt8 := [UInt8.ofNat (moreN 65535 l % 256), UInt8.ofNat (moreN 65535 l / 256)]
theorem rd_two (w : World) (e x y : Nat) (hx : x < 256) (hy : y < 256) : Rd (w.alloc (.cells #[.int .u8 x, .int .u8 y] e)) (w.heap.size + 1) 1 (some ⟨w.heap.size, 0, none⟩) 2 2 (bv [UInt8.ofNat x, UInt8.ofNat y]) := by
  have h := rd_const w e [UInt8.ofNat x, UInt8.ofNat y] (0, 0) (by simp [maxLen])
  have e1 : (UInt8.ofNat x).toNat = x := by rw [UInt8.toNat_ofNat']; omega
  have e2 : (UInt8.ofNat y).toNat = y := by rw [UInt8.toNat_ofNat']; omega
  simpa [bv, e1, e2] using h


end Go.Proofs.Ytonejdjhdjckjaa

/-
  What crc.Open and its reference compute.
-/
set_option linter.unusedSimpArgs false
set_option linter.unusedVariables false
namespace Go.Proofs.Ytonejdjhdjckjaa
open Go.RowKit CrcLaw

/-- What Open hands back: the bytes without their sum, and true; or nothing, and false. -/
def RetO (w : World) (l : List UInt8) (ok : Bool) (e : Ending) (w' : World) : Prop :=
  ∃ A c n, e = .returned (.tuple #[.slice A n c, .bool ok]) ∧ w'.ownsRow w.heap.size 5 1 (.slice A n c) n (bv l) ∧ Below w.heap.size w w'
/-- The bytes that Open hands back. -/
def openL (l : List UInt8) : List UInt8 := if moreN 65535 l = 0 then l.take (l.length - 2) else []
def openB (l : List UInt8) : Bool := moreN 65535 l == 0

end Go.Proofs.Ytonejdjhdjckjaa

/-
  Turned walked: of some bytes, bits within 16 in a row.
-/
set_option linter.unusedSimpArgs false
set_option linter.unusedVariables false
namespace Go.Proofs.Ytonejdjhdjckjaa
open Go.RowKit CrcLaw

/-- What Turned tells: as many bytes; none turned, or those of a mask that is not 0. -/
def Tn_ed (l o : List UInt8) (any : Bool) : Prop :=
  o.length = l.length ∧ ((any = false ∧ o = l) ∨ (any = true ∧ ∃ s m, s ≤ 8 * l.length ∧ m < 65536 ∧ m ≠ 0 ∧ num o = num l ^^^ 2 ^ s * m))
def RetT (w : World) (l : List UInt8) (e : Ending) (w' : World) : Prop :=
  ∃ o any A c n, Tn_ed l o any ∧ e = .returned (.tuple #[.slice A n c, .bool any]) ∧ w'.ownsRow w.heap.size 5 1 (.slice A n c) n (bv o) ∧ Below w.heap.size w w'
theorem own_g {w : World} {base : Nat} {e : TypeId} {A : Option Addr} {c n : Nat} {xs : List Value} (h : w.ownsRow base e 1 (.slice A n c) n xs) (hn : 0 < n) : ∃ g, A = some ⟨g, 0, none⟩ ∧ base ≤ g := by
  obtain ⟨g, cap, hv, hg, _⟩ := h.form hn
  injection hv with h1 _ _
  exact ⟨g, h1, hg⟩
theorem bv_set (l : List UInt8) (k : Nat) (y : UInt8) : bv (l.set k y) = (bv l).set k (.int .u8 (y.toNat : Int)) := by simp [bv, List.map_set]

set_option maxRecDepth 10000 in
set_option maxHeartbeats 2000000 in
theorem turned_main (t m n c : Nat) (A : Option Addr) (l : List UInt8) (w : World) (hn : n ≤ 1000000) (h : Rd w w.heap.size 1 A n c (bv l)) (ht : t < 8 * n) (hm : m < 65536) :
    Calls Try.prog 40 #[.slice A n c, .int .i64 (t : Int), .int .u16 (m : Int)] w (RetT w l) := by
  have m3 := h.max
  have m1 := h.le
  unfold maxLen at m3
  have Hl := Lib.hid h.blen
  obtain ⟨i0, hi⟩ := info_parts u8_info
  have Hi := Lib.hid hi
  clear hi
  go_enter Try.func40, Try.ntmps40
  go_wp2_with (at_builtin; refine stop_ ?_)
  refine go_ (wpList_app (base := w.heap.size) (n := 0) (xs := []) Try.underlying36 Hi.out rfl (by omega) (own_empty _ _ _ (Nat.le_refl _) 1) rfl (h.up ((Below.refl _ _).alloc (Nat.le_refl _) _)) rfl (bv_one _) (Nat.zero_add _) (List.nil_append _) (by unfold maxLen; omega) (by omega) (by simp) ?_)
  intro A3 c3 w3 hown3 hup3
  have hb3 : Below w.heap.size w w3 := hup3 ((Below.refl _ _).alloc (Nat.le_refl _) _) (by simp) (Nat.le_refl _)
  clear hup3
  obtain ⟨g, rfl, hg⟩ := own_g hown3 (by omega)
  go_wp2
  go_loopw [2, 9, 10, 11] (fun ms any i _ wr => ∃ (k : Nat) (o : List UInt8) (b : Bool), k ≤ 16 ∧ i = .int .i64 k ∧ ms = .int .u16 ((m / 2 ^ k : Nat) : Int) ∧ any = .bool b ∧ b = (m % 2 ^ k != 0) ∧ o.length = n ∧ num o = num l ^^^ 2 ^ t * (m % 2 ^ k) ∧ (k = 0 ∨ t + k ≤ 8 * n) ∧ wr.ownsRow w.heap.size 5 1 (.slice (some ⟨g, 0, none⟩) n c3) n (bv o) ∧ Below w.heap.size w wr) (fun _ _ i _ _ => 16 - (intOf i).toNat)
  case atStart => exact ⟨0, l, false, by omega, rfl, by simp, rfl, by simp [Nat.mod_one], Hl.out, by simp [Nat.mod_one], .inl rfl, hown3, hb3⟩
  case round =>
    clear hb3 hown3 w3
    obtain ⟨k, o, b, hk, rfl, rfl, rfl, hbb, hol, hnum, hin, hown, hb⟩ := hrel
    have Hb := Lib.hid (And.intro hbb (And.intro hol hnum))
    clear hbb hol hnum
    by_cases hlt : k < 16 ∧ t + k < 8 * n
    · obtain ⟨hlt, hlt2⟩ := hlt
      have hpow : m / 2 ^ k < 65536 := Nat.lt_of_le_of_lt (Nat.div_le_self _ _) hm
      have hdiv : m / 2 ^ (k + 1) = m / 2 ^ k / 2 := by rw [Nat.pow_succ, Nat.div_div_eq_div_mul]
      have Hd := Lib.hid hdiv
      clear hdiv
      obtain ⟨q, hqd⟩ : ∃ q, q = m / 2 ^ k := ⟨_, rfl⟩
      rw [← hqd] at hpow Hd ⊢
      have Hq := Lib.hid hqd.symm
      clear hqd
      by_cases hq : q % 2 = 1
      · have hq' : ((q : Int) % 2 == 1) = true := by rw [beq_iff_eq]; omega
        have Hq1 := Lib.hid hq
        clear hq
        obtain ⟨p, hpd⟩ : ∃ p, p = (t + k) / 8 := ⟨_, rfl⟩
        obtain ⟨j, hjd⟩ : ∃ j, j = (t + k) % 8 := ⟨_, rfl⟩
        have hp : p < n := by omega
        have hpi : (p : Int) < n := by omega
        have hj : j < 8 := by omega
        have htk : t + k = 8 * p + j := by omega
        have hw1 : IntKind.i64.wrap (((t : Int) + k).tdiv 8) = (p : Int) := by
          rw [Int.tdiv_eq_ediv_of_nonneg (by omega), IntWalk.i64_in _ (by omega)]; omega
        have hw2 : IntKind.i64.wrap (((t : Int) + k).tmod 8) = (j : Int) := by
          rw [Int.tmod_eq_emod_of_nonneg (by omega), IntWalk.i64_in _ (by omega)]; omega
        have hw3 : ((t : Int) + k).tmod 8 = (j : Int) := by
          rw [Int.tmod_eq_emod_of_nonneg (by omega)]; omega
        have Hp := Lib.hid (And.intro hpd (And.intro hjd htk))
        clear hpd hjd htk
        obtain ⟨x, hx, hxc⟩ : ∃ x : UInt8, o[p]? = some x ∧ wr.drew.cell? ⟨g, p, none⟩ = some (.int .u8 (x.toNat : Int)) := by
          have hlo : p < o.length := by rw [Hb.out.2.1]; exact hp
          refine ⟨o[p], List.getElem?_eq_getElem hlo, ?_⟩
          have := hown.cellAt p (by omega)
          rw [bv_at (List.getElem?_eq_getElem hlo)] at this
          exact this
        have Hx := Lib.hid hx
        clear hx
        go_wp2
        refine Ord.region_ (fun _ => True) false [51] (by kernel_rfl) (by kernel_rfl) trivial ?_
        repeat (first | (refine Ord.e_p (v := ?_) rfl (by rfl) ?_ ?_; rotate_left; · (intro w2; go_simp; try with_reducible rfl)) | (refine Ord.e_u (by rfl) ?_)); (try simp only [Act.put, List.setIfInBounds_toArray, List.set_cons_zero, List.set_cons_succ])
        refine Ord.e_load Try.underlying5 rfl hxc rfl (by rfl) (by kernel_rfl) ?_
        (try simp only [Act.put, List.setIfInBounds_toArray, List.set_cons_zero, List.set_cons_succ])
        repeat (first | (refine Ord.e_p (v := ?_) rfl (by rfl) ?_ ?_; rotate_left; · (intro w2; go_simp; try with_reducible rfl)) | (refine Ord.e_u (by rfl) ?_)); (try simp only [Act.put, List.setIfInBounds_toArray, List.set_cons_zero, List.set_cons_succ])
        have hfz : wr.drew.frozen? ⟨g, p, none⟩ = false := hown.frozenAt p
        refine Ord.e_x rfl (by rfl) ?_
        go_wp2_with fail
        refine Ord.Seg.go trivial (fun h => by cases h) ?_
        (try simp only [Act.put, List.setIfInBounds_toArray, List.set_cons_zero, List.set_cons_succ])
        refine Ord.e_nil ?_
        go_wp2
        go_roundw
        case rel =>
          have hx2 : x.toNat ^^^ 2 ^ j < 256 := Nat.xor_lt_two_pow (n := 8) x.toNat_lt (Nat.pow_lt_pow_right (by omega) hj)
          have hy : ((UInt8.ofNat (x.toNat ^^^ 2 ^ j)).toNat : Int) = bits .xor .u8 (x.toNat : Int) (2 ^ j % 256) := by
            have h2 : (2 : Nat) ^ j < 256 := Nat.pow_lt_pow_right (n := 8) (by omega) hj
            have e1 : ((2 : Int) ^ j % 256) = ((2 ^ j : Nat) : Int) := by
              rw [show ((2 : Int) ^ j) = ((2 ^ j : Nat) : Int) by simp]; exact Int.emod_eq_of_lt (Int.natCast_nonneg _) (Int.ofNat_lt.2 h2)
            rw [e1, u8_xor_nat _ _ x.toNat_lt h2, UInt8.toNat_ofNat']
            omega
          have hst := hown.stored p (Value.int .u8 (bits .xor .u8 (x.toNat : Int) (2 ^ j % 256)))
          rw [← hy, ← bv_set] at hst
          rw [← hy]
          have hmk := mask_one (m := m) (k := k) t (by rw [Hq.out]; exact Hq1.out)
          refine ⟨k + 1, o.set p (UInt8.ofNat (x.toNat ^^^ 2 ^ j)), true, by omega, by go_num, val_int (by rw [Hd.out]; omega), rfl, by simp [hmk.2], by simp [Hb.out.2.1], ?_, .inr (by omega), hst.1, (hb.setCell (p := ⟨g, p, none⟩) hg _).drew⟩
          rw [num_set o p j _ (by rw [Hb.out.2.1]; exact hp) hj (by rw [UInt8.toNat_ofNat', List.getD_eq_getElem?_getD, Hx.out]; simp; omega), Hb.out.2.2, hmk.1, ← Hp.out.2.2, Nat.xor_assoc]
        case measure => simp [intOf]; omega
      · have hq' : ((q : Int) % 2 == 1) = false := by rw [beq_eq_false_iff_ne]; omega
        have hmk := mask_none (m := m) (k := k) (by rw [Hq.out]; omega)
        have Hm := Lib.hid hmk
        clear hq hmk
        go_wp2
        go_roundw
        case rel => exact ⟨k + 1, o, b, by omega, by go_num, val_int (by rw [Hd.out]; omega), rfl, by rw [Hm.out]; exact Hb.out.1, Hb.out.2.1, by rw [Hm.out]; exact Hb.out.2.2, .inr (by omega), hown, hb⟩
        case measure => simp [intOf]; omega
    · have hend : Tn_ed l o b := by
        refine ⟨by rw [Hb.out.2.1, Hl.out], ?_⟩
        have h3 := Hb.out.2.2
        by_cases hz : m % 2 ^ k = 0
        · refine .inl ⟨by rw [Hb.out.1]; simp [hz], num_inj (by rw [Hb.out.2.1, Hl.out]) (by rw [h3, hz]; simp)⟩
        · exact .inr ⟨by rw [Hb.out.1]; simp [hz], t, m % 2 ^ k, by rw [Hl.out]; omega, Nat.lt_of_le_of_lt (Nat.mod_le _ _) hm, hz, h3⟩
      have He := Lib.hid hend
      clear hend
      by_cases hk16 : k < 16
      · have h8 : ¬ t + k < 8 * n := fun hx => hlt ⟨hk16, hx⟩
        clear hlt
        generalize m / 2 ^ k = q at *
        go_wp2
        go_ret2
        exact ⟨o, b, _, _, n, He.out, rfl, hown, hb⟩
      · clear hlt
        generalize m / 2 ^ k = q at *
        go_wp2
        go_ret2
        exact ⟨o, b, _, _, n, He.out, rfl, hown, hb⟩

set_option maxHeartbeats 400000 in
theorem turned_out (t : Int) (m n c : Nat) (A : Option Addr) (l : List UInt8) (w : World) (hn : n ≤ 1000000) (h : Rd w w.heap.size 1 A n c (bv l)) (ht : t < 0 ∨ 8 * (n : Int) ≤ t) :
    Calls Try.prog 40 #[.slice A n c, .int .i64 t, .int .u16 (m : Int)] w (RetT w l) := by
  have m3 := h.max
  have m1 := h.le
  unfold maxLen at m3
  have Hl := Lib.hid h.blen
  obtain ⟨i0, hi⟩ := info_parts u8_info
  have Hi := Lib.hid hi
  clear hi
  rcases ht with ht | ht
  all_goals
    go_enter Try.func40, Try.ntmps40
    go_wp2_with (at_builtin; refine stop_ ?_)
    refine go_ (wpList_app (base := w.heap.size) (n := 0) (xs := []) Try.underlying36 Hi.out rfl (by omega) (own_empty _ _ _ (Nat.le_refl _) 1) rfl (h.up ((Below.refl _ _).alloc (Nat.le_refl _) _)) rfl (bv_one _) (Nat.zero_add _) (List.nil_append _) (by unfold maxLen; omega) (by omega) (by simp) ?_)
    intro A3 c3 w3 hown3 hup3
    have hb3 : Below w.heap.size w w3 := hup3 ((Below.refl _ _).alloc (Nat.le_refl _) _) (by simp) (Nat.le_refl _)
    clear hup3
    go_wp2
    go_ret2
    exact ⟨l, false, _, _, n, ⟨rfl, .inl ⟨rfl, rfl⟩⟩, rfl, hown3, hb3⟩
theorem turned_any (t : Int) (m n c : Nat) (A : Option Addr) (l : List UInt8) (w : World) (hn : n ≤ 1000000) (h : Rd w w.heap.size 1 A n c (bv l)) (hm : m < 65536) :
    Calls Try.prog 40 #[.slice A n c, .int .i64 t, .int .u16 (m : Int)] w (RetT w l) := by
  by_cases ht : t < 0 ∨ 8 * (n : Int) ≤ t
  · exact turned_out t m n c A l w hn h ht
  · obtain ⟨k, rfl⟩ := Int.eq_ofNat_of_zero_le (a := t) (by omega)
    exact turned_main k m n c A l w hn h (by omega) hm
/-- A sealed list of which bits were turned is not opened. -/
theorem burst_open {s o : List UInt8} {any : Bool} (h : Tn_ed s o any) (h0 : moreN 65535 s = 0) : openB o = !any := by
  obtain ⟨hl, ⟨rfl, rfl⟩ | ⟨rfl, k, m, hk, hm, hm0, hn⟩⟩ := h
  · simp [openB, h0]
  · have h1 : moreN 65535 o ≠ 0 := fun h1 => hm0 (burst hl hk hm hn h0 h1)
    simp [openB, h1]

end Go.Proofs.Ytonejdjhdjckjaa
