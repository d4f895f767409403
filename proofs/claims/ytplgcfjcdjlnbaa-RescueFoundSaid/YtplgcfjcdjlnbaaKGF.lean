/-
  Several texts in one: CrcLaw CrcWalks CrcMore CrcOpen.
-/
import Derived.Test.YtplgcfjcdjlnbaaKGA
import Derived.Deep.RegionWith
import Derived.Deep.DeepFit
import Derived.Deep.RegionHeld3
import Derived.Deep.QuietTactic
import Derived.BigQuiet
/-
  Plain facts about the 16-bit sum of package crc, with no program in sight: one bit's turn T, its linearity, the sum of a list of bytes as turns of one number, and what turned bits do to it.
-/
namespace Go.Proofs.Ytplgcfjcdjlnbaa.CrcLaw

/-- One bit's turn. -/
def T (c : Nat) : Nat := c / 2 ^^^ (c % 2 * 33800)
def Tn : Nat → Nat → Nat
  | 0, c => c
  | k + 1, c => T (Tn k c)
/-- Bytes as a number, the lowest first. -/
def num : List UInt8 → Nat
  | [] => 0
  | x :: l => x.toNat + 256 * num l
/-- The sum's step, and the sum from c on. -/
def stepN (c x : Nat) : Nat := Tn 8 (c ^^^ x)
def moreN (c : Nat) (l : List UInt8) : Nat := l.foldl (fun c x => stepN c x.toNat) c

theorem T_lt {c : Nat} (h : c < 65536) : T c < 65536 := by
  have h1 : c / 2 < 2 ^ 16 := by omega
  have h2 : c % 2 * 33800 < 2 ^ 16 := by have := Nat.mod_lt c (show 0 < 2 by omega); omega
  exact Nat.xor_lt_two_pow h1 h2
theorem Tn_lt (k : Nat) {c : Nat} (h : c < 65536) : Tn k c < 65536 := by
  induction k with
  | zero => exact h
  | succ k ih => exact T_lt ih
theorem xor_lt {a b : Nat} (ha : a < 65536) (hb : b < 65536) : a ^^^ b < 65536 := Nat.xor_lt_two_pow (n := 16) ha hb
theorem stepN_lt {c x : Nat} (h : c < 65536) (hx : x < 256) : stepN c x < 65536 := Tn_lt 8 (xor_lt h (by omega))
theorem moreN_lt (l : List UInt8) : ∀ {c : Nat}, c < 65536 → moreN c l < 65536 := by
  induction l with
  | nil => intro c h; exact h
  | cons x l ih => intro c h; exact ih (stepN_lt h x.toNat_lt)
theorem moreN_append (c : Nat) (a b : List UInt8) : moreN c (a ++ b) = moreN (moreN c a) b := by simp [moreN]
theorem moreN_snoc (c : Nat) (a : List UInt8) (x : UInt8) : moreN c (a ++ [x]) = stepN (moreN c a) x.toNat := by simp [moreN]

theorem xor_mod2 (a b : Nat) : (a ^^^ b) % 2 = (a % 2 + b % 2) % 2 := by
  have := Nat.xor_mod_two_eq_one (a := a) (b := b)
  omega
theorem xor_zero_eq {a b : Nat} (h : a ^^^ b = 0) : a = b := by
  have e := congrArg (· ^^^ b) h
  simpa [Nat.xor_assoc] using e
theorem xor_div2 (a b : Nat) : (a ^^^ b) / 2 = a / 2 ^^^ b / 2 := Nat.xor_div_two
theorem bit_mul (a b k : Nat) : (a ^^^ b) % 2 * k = a % 2 * k ^^^ b % 2 * k := by
  rw [xor_mod2]
  rcases Nat.mod_two_eq_zero_or_one a with h | h <;> rcases Nat.mod_two_eq_zero_or_one b with h' | h' <;> rw [h, h'] <;> simp
theorem T_xor (a b : Nat) : T (a ^^^ b) = T a ^^^ T b := by
  unfold T
  rw [xor_div2, bit_mul, Nat.xor_assoc, Nat.xor_assoc, ← Nat.xor_assoc (b / 2), Nat.xor_comm (b / 2), Nat.xor_assoc]
theorem Tn_xor (k a b : Nat) : Tn k (a ^^^ b) = Tn k a ^^^ Tn k b := by
  induction k with
  | zero => rfl
  | succ k ih => simp only [Tn]; rw [ih, T_xor]
theorem Tn_add (j k c : Nat) : Tn (j + k) c = Tn j (Tn k c) := by
  induction j with
  | zero => simp [Tn]
  | succ j ih => rw [Nat.add_right_comm]; simp only [Tn]; rw [ih]
theorem T_double (n : Nat) : T (2 * n) = n := by
  unfold T; simp
theorem Tn_shift (k n : Nat) : Tn k (2 ^ k * n) = n := by
  induction k with
  | zero => simp [Tn]
  | succ k ih =>
    have e : Tn (k + 1) (2 ^ (k + 1) * n) = Tn k (T (2 ^ (k + 1) * n)) := by
      have := Tn_add k 1 (2 ^ (k + 1) * n)
      simpa [Tn] using this
    rw [e, Nat.pow_succ, Nat.mul_comm (2 ^ k) 2, Nat.mul_assoc, T_double, ih]
theorem T_zero_of {c : Nat} (h : c < 65536) (h0 : T c = 0) : c = 0 := by
  unfold T at h0
  have e : c / 2 = c % 2 * 33800 := xor_zero_eq h0
  rcases Nat.mod_two_eq_zero_or_one c with h1 | h1 <;> rw [h1] at e <;> omega
theorem Tn_zero (k : Nat) : Tn k 0 = 0 := by
  induction k with
  | zero => rfl
  | succ k ih => simp [Tn, ih, T]
theorem Tn_zero_of (k : Nat) {c : Nat} (h : c < 65536) (h0 : Tn k c = 0) : c = 0 := by
  induction k with
  | zero => exact h0
  | succ k ih => exact ih (T_zero_of (Tn_lt k h) h0)

theorem xor_low (a b k : Nat) (h : a < 2 ^ k) : a + 2 ^ k * b = a ^^^ 2 ^ k * b := by
  refine Nat.eq_of_testBit_eq fun i => ?_
  rw [Nat.add_comm, Nat.testBit_two_pow_mul_add _ h, Nat.testBit_xor, Nat.testBit_two_pow_mul]
  by_cases hi : i < k
  · simp [hi, Nat.not_le.2 hi]
  · have h1 : a.testBit i = false := Nat.testBit_lt_two_pow (Nat.lt_of_lt_of_le h (Nat.pow_le_pow_right (by omega) (by omega)))
    simp [hi, h1, Nat.le_of_not_lt hi]
theorem moreN_eq (l : List UInt8) : ∀ c, moreN c l = Tn (8 * l.length) (c ^^^ num l) := by
  induction l with
  | nil => intro c; simp [moreN, num, Tn]
  | cons x l ih =>
    intro c
    have h1 : moreN c (x :: l) = moreN (stepN c x.toNat) l := rfl
    rw [h1, ih]
    have h2 : num (x :: l) = x.toNat ^^^ 2 ^ 8 * num l := by
      have := xor_low x.toNat (num l) 8 x.toNat_lt
      simpa [num] using this
    rw [h2, List.length_cons, Nat.mul_add, Nat.mul_one, Tn_add, ← Nat.xor_assoc, Tn_xor 8, Tn_shift]
    rfl

/-- The table of four bits. -/
def tabL : List Nat := [0, 4225, 8450, 12675, 16900, 21125, 25350, 29575, 33800, 38025, 42250, 46475, 50700, 54925, 59150, 63375]
def tab (n : Nat) : Nat := tabL.getD n 0
theorem tab_eq : ∀ k, k < 16 → Tn 4 k = tab k := by decide
theorem four_eq (c : Nat) : Tn 4 c = c / 16 ^^^ tab (c % 16) := by
  have h : c % 16 + 2 ^ 4 * (c / 16) = c := by omega
  have h2 : Tn 4 c = Tn 4 (c % 16 ^^^ 2 ^ 4 * (c / 16)) := by rw [← xor_low _ _ 4 (by omega), h]
  rw [h2, Tn_xor, Tn_shift, tab_eq _ (by omega), Nat.xor_comm]
theorem tab_lt : ∀ k, tab k < 65536 := by
  intro k
  rcases Nat.lt_or_ge k 16 with h | h
  · have : ∀ k, k < 16 → tab k < 65536 := by decide
    exact this k h
  · simp [tab, tabL, List.getD_eq_getElem?_getD, h]
theorem Tn8 (c : Nat) : Tn 4 (Tn 4 c) = Tn 8 c := (Tn_add 4 4 c).symm

/-- What was sealed has the sum 0. -/
theorem seal_zero {c : Nat} (h : c < 65536) : moreN c [UInt8.ofNat (c % 256), UInt8.ofNat (c / 256)] = 0 := by
  rw [moreN_eq]
  have e : num [UInt8.ofNat (c % 256), UInt8.ofNat (c / 256)] = c := by
    simp [num]; omega
  rw [e, Nat.xor_self, Tn_zero]
theorem zero_seal {c : Nat} (h : c < 65536) (x y : UInt8) (h0 : moreN c [x, y] = 0) : x = UInt8.ofNat (c % 256) ∧ y = UInt8.ofNat (c / 256) := by
  rw [moreN_eq] at h0
  have hx := x.toNat_lt
  have hy := y.toNat_lt
  have hn : num [x, y] < 65536 := by simp [num]; omega
  have e := xor_zero_eq (Tn_zero_of _ (xor_lt h hn) h0)
  simp [num] at e
  constructor
  · apply UInt8.toNat_inj.1; rw [UInt8.toNat_ofNat']; omega
  · apply UInt8.toNat_inj.1; rw [UInt8.toNat_ofNat']; omega

theorem num_lt (l : List UInt8) : num l < 2 ^ (8 * l.length) := by
  induction l with
  | nil => simp [num]
  | cons x l ih =>
    have := x.toNat_lt
    simp only [num, List.length_cons, Nat.mul_add, Nat.mul_one, Nat.pow_add]
    omega
/-- Bits turned: the number's bits are turned. -/
theorem num_set (l : List UInt8) : ∀ (k : Nat) (j : Nat) (y : UInt8), k < l.length → j < 8 → y.toNat = (l.getD k 0).toNat ^^^ 2 ^ j → num (l.set k y) = num l ^^^ 2 ^ (8 * k + j) := by
  induction l with
  | nil => intro k j y h; simp at h
  | cons x l ih =>
    intro k j y h hj hy
    have e : ∀ (x : UInt8) (n : Nat), x.toNat + 256 * n = x.toNat ^^^ 2 ^ 8 * n := fun x n => xor_low x.toNat n 8 x.toNat_lt
    cases k with
    | zero =>
      simp only [List.set_cons_zero, num]
      rw [e, e, hy]
      simp only [List.getD_cons_zero, Nat.mul_zero, Nat.zero_add]
      rw [Nat.xor_assoc, Nat.xor_comm (2 ^ j), ← Nat.xor_assoc]
    | succ k =>
      simp only [List.set_cons_succ, num]
      rw [e, e, ih k j y (by simpa using h) hj (by simpa using hy)]
      have hx : 2 ^ 8 * (num l ^^^ 2 ^ (8 * k + j)) = 2 ^ 8 * num l ^^^ 2 ^ (8 * (k + 1) + j) := by
        have h1 := Nat.shiftLeft_xor_distrib (a := num l) (b := 2 ^ (8 * k + j)) (i := 8)
        simp only [Nat.shiftLeft_eq] at h1
        rw [Nat.mul_comm, h1, Nat.mul_comm _ (2 ^ 8), ← Nat.pow_add]
        congr 2
        omega
      rw [hx, Nat.xor_assoc]
/-- Of what bits within 16 in a row were turned, the sum is no longer 0. -/
theorem burst {c : Nat} {s o : List UInt8} {at_ m : Nat} (hl : o.length = s.length) (hat : at_ ≤ 8 * s.length) (hm : m < 65536) (hn : num o = num s ^^^ 2 ^ at_ * m) (h0 : moreN c s = 0) (h1 : moreN c o = 0) : m = 0 := by
  rw [moreN_eq] at h0 h1
  rw [hl, hn, ← Nat.xor_assoc, Tn_xor, h0, Nat.zero_xor] at h1
  have e : 8 * s.length = (8 * s.length - at_) + at_ := by omega
  rw [e, Tn_add, Tn_shift] at h1
  exact Tn_zero_of _ hm h1

theorem mul_xor (t a b : Nat) : 2 ^ t * (a ^^^ b) = 2 ^ t * a ^^^ 2 ^ t * b := by
  have h1 := Nat.shiftLeft_xor_distrib (a := a) (b := b) (i := t)
  simp only [Nat.shiftLeft_eq] at h1
  rw [Nat.mul_comm, h1, Nat.mul_comm, Nat.mul_comm b]
/-- One bit more of a mask. -/
theorem mask_one {m k : Nat} (t : Nat) (h : m / 2 ^ k % 2 = 1) : 2 ^ t * (m % 2 ^ (k + 1)) = 2 ^ t * (m % 2 ^ k) ^^^ 2 ^ (t + k) ∧ m % 2 ^ (k + 1) ≠ 0 := by
  have e : m % 2 ^ (k + 1) = m % 2 ^ k + 2 ^ k * 1 := by rw [Nat.mod_pow_succ, h]
  have hp : 0 < 2 ^ k := Nat.pow_pos (by omega)
  refine ⟨?_, by omega⟩
  rw [e, xor_low _ _ _ (Nat.mod_lt _ hp), mul_xor, Nat.mul_one, ← Nat.pow_add]
theorem mask_none {m k : Nat} (h : m / 2 ^ k % 2 = 0) : m % 2 ^ (k + 1) = m % 2 ^ k := by
  rw [Nat.mod_pow_succ, h]; rfl
theorem num_inj : ∀ {a b : List UInt8}, a.length = b.length → num a = num b → a = b
  | [], [], _, _ => rfl
  | [], _ :: _, h, _ => by simp at h
  | _ :: _, [], h, _ => by simp at h
  | x :: a, y :: b, h, hn => by
    have hx := x.toNat_lt
    have hy := y.toNat_lt
    simp only [num] at hn
    have h1 : x.toNat = y.toNat := by omega
    have h2 : num a = num b := by omega
    rw [num_inj (by simpa using h) h2, UInt8.toNat_inj.1 h1]

end Go.Proofs.Ytplgcfjcdjlnbaa.CrcLaw

/-
  What the functions of package crc, and of its reference, compute: each called once, by its text.
-/
set_option linter.unusedSimpArgs false
set_option linter.unusedVariables false
namespace Go.Proofs.Ytplgcfjcdjlnbaa
open Go.RowKit CrcLaw

/- crc.Step -/
theorem step_val (c : Nat) (h : c < 65536) : bits .xor .u16 ((c : Int) / 2) (bits .and .u16 (IntKind.u16.wrap (-bits .and .u16 (c : Int) 1)) 33800) = ((T c : Nat) : Int) := by
  have e1 : bits .and .u16 (c : Int) 1 = ((c % 2 : Nat) : Int) := by
    have := u16_and_nat c 1 (by omega) (by omega)
    rw [show c &&& 1 = c % 2 from Nat.and_two_pow_sub_one_eq_mod c 1] at this
    exact this
  rw [e1, show ((c : Int) / 2) = ((c / 2 : Nat) : Int) by omega]
  rcases Nat.mod_two_eq_zero_or_one c with h0 | h0 <;> rw [h0]
  · have e2 : bits .and .u16 (IntKind.u16.wrap (-((0 : Nat) : Int))) 33800 = ((0 : Nat) : Int) := by decide
    rw [e2, u16_xor_nat _ _ (by omega) (by omega)]
    simp [T, h0]
  · have e2 : bits .and .u16 (IntKind.u16.wrap (-((1 : Nat) : Int))) 33800 = ((33800 : Nat) : Int) := by decide
    rw [e2, u16_xor_nat _ _ (by omega) (by omega)]
    simp [T, h0]

/- crc.four -/
theorem tab_cell (w : World) (k : Nat) (h : k < 16) : (w.alloc (Obj.cells #[.int .u16 0, .int .u16 4225, .int .u16 8450, .int .u16 12675, .int .u16 16900, .int .u16 21125, .int .u16 25350, .int .u16 29575, .int .u16 33800, .int .u16 38025, .int .u16 42250, .int .u16 46475, .int .u16 50700, .int .u16 54925, .int .u16 59150, .int .u16 63375] 178)).cell? ⟨w.heap.size, k, none⟩ = some (.int .u16 (tab k)) := by
  rcases (by omega : k = 0 ∨ k = 1 ∨ k = 2 ∨ k = 3 ∨ k = 4 ∨ k = 5 ∨ k = 6 ∨ k = 7 ∨ k = 8 ∨ k = 9 ∨ k = 10 ∨ k = 11 ∨ k = 12 ∨ k = 13 ∨ k = 14 ∨ k = 15) with rfl | rfl | rfl | rfl | rfl | rfl | rfl | rfl | rfl | rfl | rfl | rfl | rfl | rfl | rfl | rfl <;> simp [tab, tabL]
set_option maxHeartbeats 400000 in
theorem four_any (c : Nat) (w : World) (h : c < 65536) :
    Calls Try.prog 125 #[.int .u16 (c : Int)] w fun e w' => e = .returned (.int .u16 (Tn 4 c)) ∧ Below w.heap.size w w' := by
  have e1 : bits .and .u16 (c : Int) 15 = ((c % 16 : Nat) : Int) := by
    have := u16_and_nat c 15 (by omega) (by omega)
    rw [show c &&& 15 = c % 16 from Nat.and_two_pow_sub_one_eq_mod c 4] at this
    exact this
  have e3 : bits .xor .u16 ((c : Int) / 16) ((tab (c % 16) : Nat) : Int) = ((Tn 4 c : Nat) : Int) := by
    rw [show ((c : Int) / 16) = ((c / 16 : Nat) : Int) by omega, u16_xor_nat _ _ (by omega) (tab_lt _), four_eq]
  have E3 := Lib.hid e3
  clear e3
  obtain ⟨k, hk⟩ : ∃ k, k = c % 16 := ⟨_, rfl⟩
  rw [← hk] at e1 E3
  have hlt : k < 16 := by omega
  have hc := tab_cell w k hlt
  clear hk
  go_enter Try.func125, Try.ntmps125
  go_wp2
  go_ret
  exact ⟨ret_int E3.out, (Below.refl _ _).alloc (Nat.le_refl _) _⟩

/- crc.More -/
set_option maxHeartbeats 400000 in
theorem more_any (c : Nat) (A : Option Addr) (n cap B : Nat) (l : List UInt8) (w : World) (h1 : c < 65536) (h : Rd w B 1 A n cap (bv l)) (hB : B ≤ w.heap.size) :
    Calls Try.prog 116 #[.int .u16 c, .slice A n cap] w fun e w' => e = .returned (.int .u16 (moreN c l)) ∧ Below w.heap.size w w' := by
  have hn := h.le
  have hm := h.max
  unfold maxLen at hm
  have hl := h.blen
  go_enter Try.func116, Try.ntmps116
  clear hl
  go_wp2
  go_loopw [0, 6, 9] (fun c' _ i wr => ∃ k : Nat, k ≤ n ∧ i = .int .i64 k ∧ c' = .int .u16 (moreN c (l.take k)) ∧ Below w.heap.size w wr) (fun _ _ i _ => n - (intOf i).toNat)
  case atStart => exact ⟨0, by omega, rfl, rfl, Below.refl _ _⟩
  case round =>
    obtain ⟨k, hk, rfl, rfl, hb⟩ := hrel
    have hd : moreN c (l.take k) < 65536 := moreN_lt _ h1
    by_cases hlt : k < n
    · obtain ⟨ad, x, rfl, hx, hc⟩ := (h.up (hb.mono hB)).byte hlt
      have hs : moreN c (l.take (k + 1)) = Tn 4 (Tn 4 (moreN c (l.take k) ^^^ x.toNat)) := by rw [take_succ hx, moreN_snoc, Tn8]; rfl
      have Hs := Lib.hid hs
      clear hs hx
      generalize moreN c (l.take k) = d at *
      have hxl : x.toNat < 256 := x.toNat_lt
      have e1 := u16_xor_nat d x.toNat hd (by omega)
      have hdx : d ^^^ x.toNat < 65536 := xor_lt hd (by omega)
      have hd4 := Tn_lt 4 hdx
      go_wp2_with fail
      refine (four_any _ _ hdx).mono ?_
      rintro e w1 ⟨rfl, hb1⟩
      go_wp2_with fail
      refine (four_any _ _ hd4).mono ?_
      rintro e w2 ⟨rfl, hb2⟩
      have hb' : Below w.heap.size w w2 := (hb.trans (hb1.mono hb.size)).trans (hb2.mono (Nat.le_trans hb.size hb1.size))
      clear hb1 hb2 hc
      go_wp2
      go_roundw
      case rel => exact ⟨k + 1, by omega, by go_num, val_int (cast_ Hs.out.symm), hb'⟩
      case measure => simp [intOf]; omega
    · obtain rfl : k = n := by omega
      have hl := h.blen
      have ht : l.take k = l := List.take_of_length_le (by omega)
      clear hl
      rw [ht]
      go_wp2
      go_ret
      exact ⟨rfl, hb⟩

/- crc.Of -/
set_option maxHeartbeats 400000 in
theorem of_any (A : Option Addr) (n cap B : Nat) (ls : List (List UInt8)) (w : World) (h : RdL w B A n cap ls) (hB : B ≤ w.heap.size) :
    Calls Try.prog 113 #[.slice A n cap] w fun e w' => e = .returned (.int .u16 (moreN 65535 ls.flatten)) ∧ Below w.heap.size w w' := by
  obtain ⟨hn, hm, hl⟩ : n ≤ cap ∧ cap ≤ maxLen ∧ ls.length = n := by obtain ⟨vs, h1, h2, _⟩ := h; exact ⟨h1.le, h1.max, h2⟩
  have Hl := Lib.hid hl
  clear hl
  unfold maxLen at hm
  go_enter Try.func113, Try.ntmps113
  go_wp2
  go_loopw [3, 5, 8] (fun c' _ i wr => ∃ k : Nat, k ≤ n ∧ i = .int .i64 k ∧ c' = .int .u16 (moreN 65535 (ls.take k).flatten) ∧ Below w.heap.size w wr) (fun _ _ i _ => n - (intOf i).toNat)
  case atStart => exact ⟨0, by omega, rfl, rfl, Below.refl _ _⟩
  case round =>
    obtain ⟨k, hk, rfl, rfl, hb⟩ := hrel
    have hd : moreN 65535 (ls.take k).flatten < 65536 := moreN_lt _ (by omega)
    by_cases hlt : k < n
    · obtain ⟨ad, l, A', n', c', rfl, hx, hc, hr⟩ := (h.up (hb.mono hB)).at_ hlt
      have hs : moreN 65535 (ls.take (k + 1)).flatten = moreN (moreN 65535 (ls.take k).flatten) l := by rw [flat_snoc hx, moreN_append]
      have Hs := Lib.hid hs
      clear hs hx
      generalize moreN 65535 (ls.take k).flatten = d at *
      go_wp2_with fail
      refine (more_any _ _ _ _ _ _ _ hd hr (Nat.le_trans hB hb.size)).mono ?_
      rintro e w1 ⟨rfl, hb1⟩
      have hb' : Below w.heap.size w w1 := (hb.trans (hb1.mono hb.size))
      clear hb1 hc
      go_wp2
      go_roundw
      case rel => exact ⟨k + 1, by omega, by go_num, val_int (cast_ Hs.out.symm), hb'⟩
      case measure => simp [intOf]; omega
    · obtain rfl : k = n := by omega
      have ht : ls.take k = ls := List.take_of_length_le (by rw [Hl.out]; omega)
      rw [ht]
      go_wp2
      go_ret
      exact ⟨rfl, hb⟩

end Go.Proofs.Ytplgcfjcdjlnbaa

/-
  What crc.Seal, crc.Open, their reference, and the statements' Turned compute.
-/
set_option linter.unusedSimpArgs false
set_option linter.unusedVariables false
namespace Go.Proofs.Ytplgcfjcdjlnbaa
open Go.RowKit CrcLaw

theorem T_odd {d : Nat} (h : d % 2 = 1) : T d = d / 2 ^^^ 33800 := by simp [T, h]
theorem T_even {d : Nat} (h : d % 2 = 0) : T d = d / 2 := by simp [T, h]
set_option maxHeartbeats 400000 in
theorem rstep_any (c b: Nat) (w : World) (h1 : c < 65536) (h2 : b < 256) :
    Calls Try.prog 127 #[.int .u16 c, .int .u8 b] w fun e w' => e = .returned (.int .u16 (stepN c b)) ∧ w = w' := by
  have e1 := u16_xor_nat c b h1 (by omega)
  go_enter Try.func127, Try.ntmps127
  go_wp2
  go_loop [0, 5, 6] (fun c' i _ => ∃ k : Nat, k ≤ 8 ∧ i = .int .i64 k ∧ c' = .int .u16 (Tn k (c ^^^ b))) (fun _ i _ => 8 - (intOf i).toNat)
  case atStart => exact ⟨0, by omega, rfl, rfl⟩
  case round =>
    obtain ⟨k, hk, rfl, rfl⟩ := hrel
    have hd : Tn k (c ^^^ b) < 65536 := Tn_lt k (xor_lt h1 (by omega))
    clear e1
    by_cases hlt : k < 8
    · have hs : Tn (k + 1) (c ^^^ b) = T (Tn k (c ^^^ b)) := rfl
      have Hs := Lib.hid hs
      clear hs
      generalize Tn k (c ^^^ b) = d at *
      rcases Nat.mod_two_eq_zero_or_one d with h0 | h0
      · have Ht := Lib.hid (T_even h0)
        have hq : ((d : Int) % 2 == 1) = false := by rw [beq_eq_false_iff_ne]; omega
        clear h0
        go_wp2
        go_round
        case rel => exact ⟨k + 1, by omega, by go_num, val_int (by rw [Hs.out, Ht.out]; omega)⟩
        case measure => simp [intOf]; omega
      · have Ht := Lib.hid (T_odd h0)
        have hq : ((d : Int) % 2 == 1) = true := by rw [beq_iff_eq]; omega
        have e1 : bits .xor .u16 ((d : Int) / 2) 33800 = ((d / 2 ^^^ 33800 : Nat) : Int) := by
          have := u16_xor_nat (d / 2) 33800 (by omega) (by omega)
          simpa using this
        clear h0
        go_wp2
        go_round
        case rel => exact ⟨k + 1, by omega, by go_num, val_int (by rw [Hs.out, Ht.out])⟩
        case measure => simp [intOf]; omega
    · obtain rfl : k = 8 := by omega
      go_wp2
      go_ret
      exact ⟨rfl, rfl⟩

set_option maxHeartbeats 400000 in
theorem rmore_any (c : Nat) (A : Option Addr) (n cap B : Nat) (l : List UInt8) (w : World) (h1 : c < 65536) (h : Rd w B 1 A n cap (bv l)) :
    Calls Try.prog 124 #[.int .u16 c, .slice A n cap] w fun e w' => e = .returned (.int .u16 (moreN c l)) ∧ w = w' := by
  have hn := h.le
  have hm := h.max
  unfold maxLen at hm
  go_enter Try.func124, Try.ntmps124
  go_wp2
  go_loop [0, 5] (fun c' i => ∃ k : Nat, k ≤ n ∧ i = .int .i64 k ∧ c' = .int .u16 (moreN c (l.take k))) (fun _ i => n - (intOf i).toNat)
  case atStart => exact ⟨0, by omega, rfl, rfl⟩
  case round =>
    obtain ⟨k, hk, rfl, rfl⟩ := hrel
    have hd : moreN c (l.take k) < 65536 := moreN_lt _ h1
    by_cases hlt : k < n
    · obtain ⟨ad, x, rfl, hx, hc⟩ := h.byte hlt
      have hs : moreN c (l.take (k + 1)) = stepN (moreN c (l.take k)) x.toNat := by rw [take_succ hx, moreN_snoc]
      have Hs := Lib.hid hs
      clear hs hx
      generalize moreN c (l.take k) = d at *
      go_wp2_with fail
      go_fit (rstep_any d x.toNat w hd x.toNat_lt)
      rintro e w1 ⟨rfl, rfl⟩
      go_wp2
      go_round
      case rel => exact ⟨k + 1, by omega, by go_num, val_int (cast_ Hs.out.symm)⟩
      case measure => simp [intOf]; omega
    · obtain rfl : k = n := by omega
      have ht : l.take k = l := List.take_of_length_le (by rw [h.blen]; exact Nat.le_refl _)
      rw [ht]
      clear ht
      go_wp2
      go_ret
      exact ⟨rfl, rfl⟩

set_option maxHeartbeats 400000 in
theorem rof_any (A : Option Addr) (n cap B : Nat) (l : List UInt8) (w : World) (h : Rd w B 1 A n cap (bv l)) :
    Calls Try.prog 115 #[.slice A n cap] w fun e w' => e = .returned (.int .u16 (moreN 65535 l)) ∧ w = w' := by
  go_enter Try.func115, Try.ntmps115
  go_wp2_with fail
  go_fit (rmore_any 65535 A n cap B l w (by omega) h)
  rintro e w1 ⟨rfl, rfl⟩
  go_wp2
  go_ret
  exact ⟨rfl, rfl⟩

/-- The seal's two bytes. -/
def tailN (l : List UInt8) : List UInt8 := [UInt8.ofNat (moreN 65535 l % 256), UInt8.ofNat (moreN 65535 l / 256)]
theorem rd_two (w : World) (e x y : Nat) (hx : x < 256) (hy : y < 256) : Rd (w.alloc (.cells #[.int .u8 x, .int .u8 y] e)) (w.heap.size + 1) 1 (some ⟨w.heap.size, 0, none⟩) 2 2 (bv [UInt8.ofNat x, UInt8.ofNat y]) := by
  have h := rd_const w e [UInt8.ofNat x, UInt8.ofNat y] (0, 0) (by simp [maxLen])
  have e1 : (UInt8.ofNat x).toNat = x := by rw [UInt8.toNat_ofNat']; omega
  have e2 : (UInt8.ofNat y).toNat = y := by rw [UInt8.toNat_ofNat']; omega
  simpa [bv, e1, e2] using h

set_option maxHeartbeats 400000 in
theorem seal_any (A : Option Addr) (n c B : Nat) (l : List UInt8) (w : World) (h : Rd w B 1 A n c (bv l)) (hB : B ≤ w.heap.size) (hn : n ≤ 1000000) :
    Calls Try.prog 89 #[.slice A n c] w (RetB w (l ++ tailN l)) := by
  have hl := Lib.hid h.blen
  have hlt := moreN_lt l (c := 65535) (by omega)
  have H := of_any _ _ _ _ _ _ (RdL.lit1 (e := 26) hB h) (by simp)
  simp only [World.size_alloc, List.flatten_cons, List.flatten_nil, List.append_nil] at H
  have HH := Lib.hid H
  clear H
  go_enter Try.func89, Try.ntmps89
  go_wp2_with fail
  go_fit HH.out
  rintro e w1 ⟨rfl, hb1⟩
  have hb1 := bnxa (Below.refl _ _) hb1
  have ht : tailN l = [UInt8.ofNat (moreN 65535 l % 256), UInt8.ofNat (moreN 65535 l / 256)] := rfl
  have Ht := Lib.hid ht
  clear ht HH
  generalize moreN 65535 l = m at *
  have h2 := rd_two w1 5 (m % 256) (m / 256) (by omega) (by omega)
  rw [show ((m % 256 : Nat) : Int) = (m : Int) % 256 by omega, show ((m / 256 : Nat) : Int) = (m : Int) / 256 by omega, ← Ht.out] at h2
  have h1 := h.up (below_nx (Below.refl B w) hB (bnx (Below.refl _ _) hb1))
  have ha := (Below.refl w1.heap.size w1).alloc (Nat.le_refl _) (.cells #[.int .u8 ((m : Int) % 256), .int .u8 ((m : Int) / 256)] 5)
  have H := concat_any _ _ _ _ _ _ (RdL.lit2 (e := 26) (B := w1.heap.size + 1) (by simp) ((h1.up (ha.mono (Nat.le_trans hB hb1.size))).more (by have := hb1.size; omega)) h2) (by simp) (by simp [hl.out, tailN]; omega)
  simp only [World.size_alloc, List.flatten_cons, List.flatten_nil, List.append_nil] at H
  go_wp2_with fail
  go_fit H
  clear H
  rintro e w2 hret
  obtain ⟨A2, c2, n2, rfl, hown2, hb2⟩ := hret.back ((hb1.alloc hb1.size _).alloc (by have := hb1.size; simp; omega) _)
  clear hret ha h1 h2
  go_wp2
  go_ret
  exact ⟨A2, c2, n2, rfl, hown2, hb2⟩

set_option maxHeartbeats 400000 in
theorem rseal_any (A : Option Addr) (n c B : Nat) (l : List UInt8) (w : World) (h : Rd w B 1 A n c (bv l)) (hB : B ≤ w.heap.size) (hn : n ≤ 1000000) :
    Calls Try.prog 91 #[.slice A n c] w (RetB w (l ++ tailN l)) := by
  obtain ⟨i0, hi⟩ := info_parts u8_info
  have Hi := Lib.hid hi
  have hl := Lib.hid h.blen
  have hlt := moreN_lt l (c := 65535) (by omega)
  have HH := Lib.hid (rof_any A n c B l w h)
  clear hi
  go_enter Try.func91, Try.ntmps91
  go_wp2_with fail
  go_fit HH.out
  rintro e w1 ⟨rfl, rfl⟩
  have ht : tailN l = [UInt8.ofNat (moreN 65535 l % 256), UInt8.ofNat (moreN 65535 l / 256)] := rfl
  have Ht := Lib.hid ht
  clear ht HH
  generalize moreN 65535 l = m at *
  have hb0 := Below.refl w.heap.size w
  go_wp2_with (at_builtin; refine stop_ ?_)
  refine go_ (wpList_app (base := w.heap.size) (n := 0) (xs := []) Try.underlying26 Hi.out rfl (by omega) (own_empty _ _ _ hb0.size 1) rfl (h.up ((Below.refl B w).alloc hB _)) rfl (bv_one _) (Nat.zero_add _) (List.nil_append _) (by unfold maxLen; omega) (by omega) (by simp) ?_)
  intro A3 c3 w3 hown3 hup3
  have hb3 : Below w.heap.size w w3 := hup3 (hb0.alloc hb0.size _) (by simp) (Nat.le_refl _)
  clear hup3 hb0
  have h2 := rd_two w3 5 (m % 256) (m / 256) (by omega) (by omega)
  rw [show ((m % 256 : Nat) : Int) = (m : Int) % 256 by omega, show ((m / 256 : Nat) : Int) = (m : Int) / 256 by omega, ← Ht.out] at h2
  have H2 := Lib.hid h2
  clear h2
  go_wp2_with (at_builtin; refine stop_ ?_)
  refine go_ (wpList_app (base := w.heap.size) Try.underlying26 Hi.out rfl (by omega) (hown3.alloc _) rfl H2.out rfl (bv_one _) (k := (l ++ tailN l).length) (by simp [hl.out, tailN]) (bv_app _ _).symm (by simp [hl.out, tailN, maxLen]; omega) (by simp [hl.out, tailN]; omega) (by have := hb3.size; simp; omega) ?_)
  intro A4 c4 w4 hown4 hup4
  have hb4 : Below w.heap.size w w4 := hup4 (hb3.alloc hb3.size _) (by have := hb3.size; simp; omega) (Nat.le_refl _)
  clear hup4 hb3 hown3
  generalize hll : (l ++ tailN l).length = ll at *
  have Hll := Lib.hid hll
  clear hll
  go_wp2
  go_ret
  exact ⟨A4, c4, ll, rfl, hown4, hb4⟩

end Go.Proofs.Ytplgcfjcdjlnbaa

/-
  What crc.Open and its reference compute.
-/
set_option linter.unusedSimpArgs false
set_option linter.unusedVariables false
namespace Go.Proofs.Ytplgcfjcdjlnbaa
open Go.RowKit CrcLaw

/-- What Open hands back: the bytes without their sum, and true; or nothing, and false. -/
def RetO (w : World) (l : List UInt8) (ok : Bool) (e : Ending) (w' : World) : Prop :=
  ∃ A c n, e = .returned (.tuple #[.slice A n c, .bool ok]) ∧ w'.ownsRow w.heap.size 5 1 (.slice A n c) n (bv l) ∧ Below w.heap.size w w'
set_option maxHeartbeats 400000 in
theorem open_short (A : Option Addr) (n c : Nat) (w : World) (hn : n < 2) : Calls Try.prog 92 #[.slice A n c] w (RetO w [] false) := by
  rcases (by omega : n = 0 ∨ n = 1) with rfl | rfl
  all_goals
    go_enter Try.func92, Try.ntmps92
    go_wp2
    go_quiet (fail)
    go_wp2
    go_ret2
    exact ⟨none, 0, 0, rfl, World.ownsRow_nil _ _ _ _, below_drewN (Below.refl _ _) _⟩
/-- The bytes that Open hands back. -/
def openL (l : List UInt8) : List UInt8 := if moreN 65535 l = 0 then l.take (l.length - 2) else []
def openB (l : List UInt8) : Bool := moreN 65535 l == 0
set_option maxHeartbeats 400000 in
theorem open_any (A : Option Addr) (m c B : Nat) (l : List UInt8) (w : World) (h : Rd w B 1 A (m + 2) c (bv l)) (hB : B ≤ w.heap.size) (hn : m ≤ 1000000) : Calls Try.prog 92 #[.slice A (m + 2) c] w (RetO w (openL l) (openB l)) := by
  have hle := h.le
  have hd : decide ((m : Int) < 0) = false := by simp
  have hm := h.max
  unfold maxLen at hm
  go_enter Try.func92, Try.ntmps92
  go_wp2
  obtain ⟨i0, hi⟩ := info_parts u8_info
  have Hl := Lib.hid h.blen
  have h0 := h.up ((Below.refl B w).drew)
  have hT : Rd w.drew B 1 A m c (bv (l.take m)) := h0.btake (by omega)
  have hD : Rd w.drew B 1 (cutA A c m 1) 2 (c - m) (bv (l.drop m)) := by
    have := h0.bdrop (k := m) (by omega)
    rwa [show m + 2 - m = 2 by omega] at this
  have hs1 := run_cut_h (P := Try.prog) Try.underlying26 hi.1 A (m + 2) c m (by omega)
  have hs2 := run_cut_l (P := Try.prog) Try.underlying26 hi.1 hi.2.2.1 A (m + 2) c m (by omega)
  rw [show m + 2 - m = 2 by omega] at hs2
  have H := of_any _ _ _ _ _ _ (RdL.lit1 (w := w.drew) (e := 26) (show B ≤ w.drew.heap.size from hB) hT) (by simp)
  simp only [World.size_alloc, List.flatten_cons, List.flatten_nil, List.append_nil] at H
  have HO := Lib.hid H
  have HD := Lib.hid hD
  have hlt := moreN_lt (l.take m) (c := 65535) (by omega)
  have hml : moreN (moreN 65535 (l.take m)) (l.drop m) = moreN 65535 l := by rw [← moreN_append, List.take_append_drop]
  have HM := Lib.hid hml
  have hz : (moreN 65535 l = 0 → openL l = l.take m ∧ openB l = true) ∧ (moreN 65535 l ≠ 0 → openL l = [] ∧ openB l = false) := by
    constructor
    · intro h0; simp [openL, openB, h0, h.blen]
    · intro h0; simp [openL, openB, h0]
  replace hz := Lib.hid hz
  clear H hT hD hml h0 hi
  generalize moreN 65535 (l.take m) = x at *
  go_region_held3 (fun _ => True) (exact trivial) (first | (go_at_call 113; go_fit HO.out; rintro e w1 ⟨rfl, hb1⟩; have hb1 := bnxa (Below.refl w.drew.heap.size w.drew) hb1) | (go_at_call 116; go_fit (more_any x (cutA A c m 1) 2 (c - m) B (l.drop m) w1 hlt (HD.out.up (hb1.mono hB)) (Nat.le_trans hB hb1.size)); rintro e w2 ⟨rfl, hb2⟩; have hb2 := bnx hb1 hb2; rw [HM.out]))
  generalize moreN 65535 l = y at *
  by_cases hy : y = 0
  · have Hr := Lib.hid (hz.out.1 hy)
    have hy' : ((y : Int) != 0) = false := by simp [hy]
    clear hy
    have hc := clone_any A m c B (l.take m) w2 ((h.up ((Below.refl B w).drew.trans (hb2.mono hB))).btake (by omega)) (Nat.le_trans hB hb2.size) (by omega)
    go_wp2_with fail
    go_fit hc
    rintro e w3 hret
    obtain ⟨A3, c3, n3, rfl, hown3, hb3⟩ := hret.back ((Below.refl w.heap.size w).drew.trans hb2)
    clear hret
    go_wp2
    go_ret2
    exact ⟨A3, c3, n3, by rw [Hr.out.2]; rfl, by rw [Hr.out.1]; exact hown3, hb3⟩
  · have Hr := Lib.hid (hz.out.2 hy)
    have hy' : ((y : Int) != 0) = true := by simp [hy]
    clear hy
    go_wp2
    go_ret2
    exact ⟨none, 0, 0, by rw [Hr.out.2]; rfl, by rw [Hr.out.1]; exact World.ownsRow_nil _ _ _ _, (Below.refl w.heap.size w).drew.trans hb2⟩

theorem seal_iff {l : List UInt8} {m : Nat} (h : l.length = m + 2) : l.take m ++ tailN (l.take m) = l ↔ moreN 65535 l = 0 := by
  have hlt := moreN_lt (l.take m) (c := 65535) (by omega)
  have e : moreN 65535 l = moreN (moreN 65535 (l.take m)) (l.drop m) := by rw [← moreN_append, List.take_append_drop]
  have hd : (l.drop m).length = 2 := by simp; omega
  constructor
  · intro hs
    have h1 : tailN (l.take m) = l.drop m := by
      have : l.take m ++ tailN (l.take m) = l.take m ++ l.drop m := by rw [hs, List.take_append_drop]
      exact List.append_cancel_left this
    rw [e, ← h1]
    exact seal_zero hlt
  · intro h0
    rw [e] at h0
    match hx : l.drop m, hd with
    | [x, y], _ =>
      rw [hx] at h0
      obtain ⟨h1, h2⟩ := zero_seal hlt x y h0
      have : tailN (l.take m) = l.drop m := by rw [hx, h1, h2]; rfl
      rw [this, List.take_append_drop]
set_option maxHeartbeats 400000 in
theorem ropen_short (A : Option Addr) (n c : Nat) (w : World) (hn : n < 2) : Calls Try.prog 95 #[.slice A n c] w (RetO w [] false) := by
  rcases (by omega : n = 0 ∨ n = 1) with rfl | rfl
  all_goals
    go_enter Try.func95, Try.ntmps95
    go_wp2
    go_quiet (fail)
    go_wp2
    go_ret2
    exact ⟨none, 0, 0, rfl, World.ownsRow_nil _ _ _ _, below_drewN (Below.refl _ _) _⟩
set_option maxRecDepth 10000 in
set_option maxHeartbeats 1000000 in
theorem ropen_any (A : Option Addr) (m c B : Nat) (l : List UInt8) (w : World) (h : Rd w B 1 A (m + 2) c (bv l)) (hB : B ≤ w.heap.size) (hn : m ≤ 1000000) : Calls Try.prog 95 #[.slice A (m + 2) c] w (RetO w (openL l) (openB l)) := by
  have hle := h.le
  have hd : decide ((m : Int) < 0) = false := by simp
  have hm := h.max
  unfold maxLen at hm
  go_enter Try.func95, Try.ntmps95
  go_wp2
  obtain ⟨i0, hi⟩ := info_parts u8_info
  have Hi := Lib.hid hi
  have h0 := h.up ((Below.refl B w).drew)
  have hT : Rd w.drew B 1 A m c (bv (l.take m)) := h0.btake (by omega)
  have hs1 := run_cut_h (P := Try.prog) Try.underlying26 hi.1 A (m + 2) c m (by omega)
  have HS := Lib.hid (rseal_any A m c B (l.take m) w.drew hT hB (by omega))
  have hcv : ∀ w', Below w.heap.size w w' → (convert 26 9 (.slice A (m + 2) c)).run Try.prog w' = .ok (.string ⟨l.toArray⟩) w' := fun w' hb => run_str w' _ _ 5 Try.underlying26 Try.underlying5 Try.underlying9 (h.up (hb.mono hB))
  have hz : (moreN 65535 l = 0 → openL l = l.take m ∧ openB l = true) ∧ (moreN 65535 l ≠ 0 → openL l = [] ∧ openB l = false) := by
    constructor
    · intro h0; simp [openL, openB, h0, h.blen]
    · intro h0; simp [openL, openB, h0]
  replace hz := Lib.hid hz
  have hq := Lib.hid (seal_iff h.blen)
  clear hT h0 hi
  refine Ord.region_at [0, 1, 2, 3, 4, 5, 8, 9, 6, 7, 10, 11] (fun _ => True) true [15, 17] (by kernel_rfl) (by kernel_rfl) rfl trivial ?_
  simp only [Ord.lst, List.filterMap_cons, List.filterMap_nil, List.getElem?_toArray, List.getElem?_cons_succ, List.getElem?_cons_zero]
  repeat (first | (refine Ord.e_p (v := ?_) rfl (by rfl) ?_ ?_; rotate_left; · (intro w2; go_simp; try with_reducible rfl)) | (refine Ord.e_u (by rfl) ?_)); (try simp only [Act.put, List.setIfInBounds_toArray, List.set_cons_zero, List.set_cons_succ])
  refine Ord.e_str Try.underlying26 Try.underlying5 Try.underlying9 ((h.up (Below.refl B w).drew).more (show B ≤ w.drew.heap.size from hB)) rfl (by rfl) (by rfl) ?_
  (try simp only [Act.put, List.setIfInBounds_toArray, List.set_cons_zero, List.set_cons_succ])
  refine Ord.e_x rfl (by rfl) ?_
  go_wp2_with fail
  go_fit HS.out
  rintro e w1 ⟨A1, c1, n1, rfl, hown1, hb1⟩
  go_wp2_with fail
  refine Ord.Seg.go trivial (fun _ => hb1) ?_
  (try simp only [Act.put, List.setIfInBounds_toArray, List.set_cons_zero, List.set_cons_succ])
  refine Ord.e_str Try.underlying26 Try.underlying5 Try.underlying9 (Rd.own hown1) rfl (by rfl) (by rfl) ?_
  (try simp only [Act.put, List.setIfInBounds_toArray, List.set_cons_zero, List.set_cons_succ])
  have hb2 : Below w.heap.size w w1 := ((Below.refl _ _).drew).trans hb1
  have hbe : (List.take m l ++ tailN (List.take m l) == l) = true ∨ (List.take m l ++ tailN (List.take m l) == l) = false := by cases (List.take m l ++ tailN (List.take m l) == l) <;> simp
  clear HS hb1 hown1 hcv
  have Hx := Lib.hid hbe
  clear hbe
  generalize hgx : (List.take m l ++ tailN (List.take m l)) = X at *
  have Hg := Lib.hid hgx
  clear hgx
  rcases Hx.out with hx | hx
  · have hy : X = l := by simpa using hx
    have Hr := Lib.hid (hz.out.1 (hq.out.1 hy))
    clear hy
    repeat (first | (refine Ord.e_p (v := ?_) rfl (by rfl) ?_ ?_; rotate_left; · (intro w2; go_simp; try with_reducible rfl)) | (refine Ord.e_u (by rfl) ?_)); (try simp only [Act.put, List.setIfInBounds_toArray, List.set_cons_zero, List.set_cons_succ])
    refine Ord.e_nil ?_
    go_wp2_with (at_builtin; refine stop_ ?_)
    refine go_ (wpList_app (base := w.heap.size) (n := 0) (xs := []) Try.underlying26 Hi.out rfl (by omega) (own_empty _ _ _ hb2.size 1) rfl ((h.up ((hb2.mono hB).alloc (Nat.le_trans hB hb2.size) _)).btake (k := m) (by omega)) rfl (bv_one _) (Nat.zero_add _) (List.nil_append _) (by unfold maxLen; omega) (by omega) (by have := hb2.size; simp; omega) ?_)
    intro A3 c3 w3 hown3 hup3
    have hb3 : Below w.heap.size w w3 := hup3 (hb2.alloc hb2.size _) (by have := hb2.size; simp; omega) (Nat.le_refl _)
    go_wp2
    go_ret2
    exact ⟨A3, c3, m, by rw [Hr.out.2]; rfl, by rw [Hr.out.1]; exact hown3, hb3⟩
  · have hy : X ≠ l := by simpa using hx
    have Hr := Lib.hid (hz.out.2 (fun h0 => hy (hq.out.2 h0)))
    clear hy
    repeat (first | (refine Ord.e_p (v := ?_) rfl (by rfl) ?_ ?_; rotate_left; · (intro w2; go_simp; try with_reducible rfl)) | (refine Ord.e_u (by rfl) ?_)); (try simp only [Act.put, List.setIfInBounds_toArray, List.set_cons_zero, List.set_cons_succ])
    refine Ord.e_nil ?_
    go_wp2
    go_ret2
    exact ⟨none, 0, 0, by rw [Hr.out.2]; rfl, by rw [Hr.out.1]; exact World.ownsRow_nil _ _ _ _, hb2⟩

end Go.Proofs.Ytplgcfjcdjlnbaa
