/-
  Several texts in one: CrcLaw CrcWalks CrcMore ShRef2 ShRef3 ShRef4 ShRef5 ShTells.
-/
import Derived.Test.YtonejdjhdjckjaaGreatSlices
import Derived.Deep.RegionWith
import Derived.Deep.DeepFit
import Derived.Test.YtonejdjhdjckjaaGreatShRef1
import Derived.Test.YtonejdjhdjckjaaGreatShapeLaw
import Derived.Test.YtonejdjhdjckjaaGreatOctRefW
import Derived.Deep.QuietTactic
import Derived.BigQuiet
import Derived.Test.YtonejdjhdjckjaaGreatShBack
/-
  Plain facts about the 16-bit sum of package crc, with no program in sight: one bit's turn T, its linearity, the sum of a list of bytes as turns of one number, and what turned bits do to it.
-/
namespace Go.Proofs.YtonejdjhdjckjaaGreat.CrcLaw

/-- One bit's turn. -/
def T (c : Nat) : Nat := c / 2 ^^^ (c % 2 * 33800)
def Tn : Nat → Nat → Nat
  | 0, c => c
  | k + 1, c => T (Tn k c)
/-- Bytes as a number, the lowest first. -/
def num : List UInt8 → Nat
  | [] => 0
  | x :: l => x.toNat + 256 * num l
/-- The sum's step, and the sum from c on. -/
def stepN (c x : Nat) : Nat := Tn 8 (c ^^^ x)
def moreN (c : Nat) (l : List UInt8) : Nat := l.foldl (fun c x => stepN c x.toNat) c

theorem T_lt {c : Nat} (h : c < 65536) : T c < 65536 := by
  have h1 : c / 2 < 2 ^ 16 := by omega
  have h2 : c % 2 * 33800 < 2 ^ 16 := by have := Nat.mod_lt c (show 0 < 2 by omega); omega
  exact Nat.xor_lt_two_pow h1 h2
theorem Tn_lt (k : Nat) {c : Nat} (h : c < 65536) : Tn k c < 65536 := by
  induction k with
  | zero => exact h
  | succ k ih => exact T_lt ih
theorem xor_lt {a b : Nat} (ha : a < 65536) (hb : b < 65536) : a ^^^ b < 65536 := Nat.xor_lt_two_pow (n := 16) ha hb
theorem stepN_lt {c x : Nat} (h : c < 65536) (hx : x < 256) : stepN c x < 65536 := Tn_lt 8 (xor_lt h (by omega))
theorem moreN_lt (l : List UInt8) : ∀ {c : Nat}, c < 65536 → moreN c l < 65536 := by
  induction l with
  | nil => intro c h; exact h
  | cons x l ih => intro c h; exact ih (stepN_lt h x.toNat_lt)
theorem moreN_append (c : Nat) (a b : List UInt8) : moreN c (a ++ b) = moreN (moreN c a) b := by simp [moreN]
theorem moreN_snoc (c : Nat) (a : List UInt8) (x : UInt8) : moreN c (a ++ [x]) = stepN (moreN c a) x.toNat := by simp [moreN]

theorem xor_mod2 (a b : Nat) : (a ^^^ b) % 2 = (a % 2 + b % 2) % 2 := by
  have := Nat.xor_mod_two_eq_one (a := a) (b := b)
  omega
theorem xor_zero_eq {a b : Nat} (h : a ^^^ b = 0) : a = b := by
  have e := congrArg (· ^^^ b) h
  simpa [Nat.xor_assoc] using e
theorem xor_div2 (a b : Nat) : (a ^^^ b) / 2 = a / 2 ^^^ b / 2 := Nat.xor_div_two
theorem bit_mul (a b k : Nat) : (a ^^^ b) % 2 * k = a % 2 * k ^^^ b % 2 * k := by
  rw [xor_mod2]
  rcases Nat.mod_two_eq_zero_or_one a with h | h <;> rcases Nat.mod_two_eq_zero_or_one b with h' | h' <;> rw [h, h'] <;> simp
theorem T_xor (a b : Nat) : T (a ^^^ b) = T a ^^^ T b := by
  unfold T
  rw [xor_div2, bit_mul, Nat.xor_assoc, Nat.xor_assoc, ← Nat.xor_assoc (b / 2), Nat.xor_comm (b / 2), Nat.xor_assoc]
theorem Tn_xor (k a b : Nat) : Tn k (a ^^^ b) = Tn k a ^^^ Tn k b := by
  induction k with
  | zero => rfl
  | succ k ih => simp only [Tn]; rw [ih, T_xor]
theorem Tn_add (j k c : Nat) : Tn (j + k) c = Tn j (Tn k c) := by
  induction j with
  | zero => simp [Tn]
  | succ j ih => rw [Nat.add_right_comm]; simp only [Tn]; rw [ih]
theorem T_double (n : Nat) : T (2 * n) = n := by
  unfold T; simp
theorem Tn_shift (k n : Nat) : Tn k (2 ^ k * n) = n := by
  induction k with
  | zero => simp [Tn]
  | succ k ih =>
    have e : Tn (k + 1) (2 ^ (k + 1) * n) = Tn k (T (2 ^ (k + 1) * n)) := by
      have := Tn_add k 1 (2 ^ (k + 1) * n)
      simpa [Tn] using this
    rw [e, Nat.pow_succ, Nat.mul_comm (2 ^ k) 2, Nat.mul_assoc, T_double, ih]
theorem T_zero_of {c : Nat} (h : c < 65536) (h0 : T c = 0) : c = 0 := by
  unfold T at h0
  have e : c / 2 = c % 2 * 33800 := xor_zero_eq h0
  rcases Nat.mod_two_eq_zero_or_one c with h1 | h1 <;> rw [h1] at e <;> omega
theorem Tn_zero (k : Nat) : Tn k 0 = 0 := by
  induction k with
  | zero => rfl
  | succ k ih => simp [Tn, ih, T]
theorem Tn_zero_of (k : Nat) {c : Nat} (h : c < 65536) (h0 : Tn k c = 0) : c = 0 := by
  induction k with
  | zero => exact h0
  | succ k ih => exact ih (T_zero_of (Tn_lt k h) h0)

theorem xor_low (a b k : Nat) (h : a < 2 ^ k) : a + 2 ^ k * b = a ^^^ 2 ^ k * b := by
  refine Nat.eq_of_testBit_eq fun i => ?_
  rw [Nat.add_comm, Nat.testBit_two_pow_mul_add _ h, Nat.testBit_xor, Nat.testBit_two_pow_mul]
  by_cases hi : i < k
  · simp [hi, Nat.not_le.2 hi]
  · have h1 : a.testBit i = false := Nat.testBit_lt_two_pow (Nat.lt_of_lt_of_le h (Nat.pow_le_pow_right (by omega) (by omega)))
    simp [hi, h1, Nat.le_of_not_lt hi]
theorem moreN_eq (l : List UInt8) : ∀ c, moreN c l = Tn (8 * l.length) (c ^^^ num l) := by
  induction l with
  | nil => intro c; simp [moreN, num, Tn]
  | cons x l ih =>
    intro c
    have h1 : moreN c (x :: l) = moreN (stepN c x.toNat) l := rfl
    rw [h1, ih]
    have h2 : num (x :: l) = x.toNat ^^^ 2 ^ 8 * num l := by
      have := xor_low x.toNat (num l) 8 x.toNat_lt
      simpa [num] using this
    rw [h2, List.length_cons, Nat.mul_add, Nat.mul_one, Tn_add, ← Nat.xor_assoc, Tn_xor 8, Tn_shift]
    rfl

/-- The table of four bits. -/
def tabL : List Nat := [0, 4225, 8450, 12675, 16900, 21125, 25350, 29575, 33800, 38025, 42250, 46475, 50700, 54925, 59150, 63375]
def tab (n : Nat) : Nat := tabL.getD n 0
theorem tab_eq : ∀ k, k < 16 → Tn 4 k = tab k := by decide
theorem four_eq (c : Nat) : Tn 4 c = c / 16 ^^^ tab (c % 16) := by
  have h : c % 16 + 2 ^ 4 * (c / 16) = c := by omega
  have h2 : Tn 4 c = Tn 4 (c % 16 ^^^ 2 ^ 4 * (c / 16)) := by rw [← xor_low _ _ 4 (by omega), h]
  rw [h2, Tn_xor, Tn_shift, tab_eq _ (by omega), Nat.xor_comm]
theorem tab_lt : ∀ k, tab k < 65536 := by
  intro k
  rcases Nat.lt_or_ge k 16 with h | h
  · have : ∀ k, k < 16 → tab k < 65536 := by decide
    exact this k h
  · simp [tab, tabL, List.getD_eq_getElem?_getD, h]
theorem Tn8 (c : Nat) : Tn 4 (Tn 4 c) = Tn 8 c := (Tn_add 4 4 c).symm

/-- What was sealed has the sum 0. -/
theorem seal_zero {c : Nat} (h : c < 65536) : moreN c [UInt8.ofNat (c % 256), UInt8.ofNat (c / 256)] = 0 := by
  rw [moreN_eq]
  have e : num [UInt8.ofNat (c % 256), UInt8.ofNat (c / 256)] = c := by
    simp [num]; omega
  rw [e, Nat.xor_self, Tn_zero]
theorem zero_seal {c : Nat} (h : c < 65536) (x y : UInt8) (h0 : moreN c [x, y] = 0) : x = UInt8.ofNat (c % 256) ∧ y = UInt8.ofNat (c / 256) := by
  rw [moreN_eq] at h0
  have hx := x.toNat_lt
  have hy := y.toNat_lt
  have hn : num [x, y] < 65536 := by simp [num]; omega
  have e := xor_zero_eq (Tn_zero_of _ (xor_lt h hn) h0)
  simp [num] at e
  constructor
  · apply UInt8.toNat_inj.1; rw [UInt8.toNat_ofNat']; omega
  · apply UInt8.toNat_inj.1; rw [UInt8.toNat_ofNat']; omega

theorem num_lt (l : List UInt8) : num l < 2 ^ (8 * l.length) := by
  induction l with
  | nil => simp [num]
  | cons x l ih =>
    have := x.toNat_lt
    simp only [num, List.length_cons, Nat.mul_add, Nat.mul_one, Nat.pow_add]
    omega
/-- Bits turned: the number's bits are turned. -/
theorem num_set (l : List UInt8) : ∀ (k : Nat) (j : Nat) (y : UInt8), k < l.length → j < 8 → y.toNat = (l.getD k 0).toNat ^^^ 2 ^ j → num (l.set k y) = num l ^^^ 2 ^ (8 * k + j) := by
  induction l with
  | nil => intro k j y h; simp at h
  | cons x l ih =>
    intro k j y h hj hy
    have e : ∀ (x : UInt8) (n : Nat), x.toNat + 256 * n = x.toNat ^^^ 2 ^ 8 * n := fun x n => xor_low x.toNat n 8 x.toNat_lt
    cases k with
    | zero =>
      simp only [List.set_cons_zero, num]
      rw [e, e, hy]
      simp only [List.getD_cons_zero, Nat.mul_zero, Nat.zero_add]
      rw [Nat.xor_assoc, Nat.xor_comm (2 ^ j), ← Nat.xor_assoc]
    | succ k =>
      simp only [List.set_cons_succ, num]
      rw [e, e, ih k j y (by simpa using h) hj (by simpa using hy)]
      have hx : 2 ^ 8 * (num l ^^^ 2 ^ (8 * k + j)) = 2 ^ 8 * num l ^^^ 2 ^ (8 * (k + 1) + j) := by
        have h1 := Nat.shiftLeft_xor_distrib (a := num l) (b := 2 ^ (8 * k + j)) (i := 8)
        simp only [Nat.shiftLeft_eq] at h1
        rw [Nat.mul_comm, h1, Nat.mul_comm _ (2 ^ 8), ← Nat.pow_add]
        congr 2
        omega
      rw [hx, Nat.xor_assoc]
/-- Of what bits within 16 in a row were turned, the sum is no longer 0. -/
theorem burst {c : Nat} {s o : List UInt8} {at_ m : Nat} (hl : o.length = s.length) (hat : at_ ≤ 8 * s.length) (hm : m < 65536) (hn : num o = num s ^^^ 2 ^ at_ * m) (h0 : moreN c s = 0) (h1 : moreN c o = 0) : m = 0 := by
  rw [moreN_eq] at h0 h1
  rw [hl, hn, ← Nat.xor_assoc, Tn_xor, h0, Nat.zero_xor] at h1
  have e : 8 * s.length = (8 * s.length - at_) + at_ := by omega
  rw [e, Tn_add, Tn_shift] at h1
  exact Tn_zero_of _ hm h1

theorem mul_xor (t a b : Nat) : 2 ^ t * (a ^^^ b) = 2 ^ t * a ^^^ 2 ^ t * b := by
  have h1 := Nat.shiftLeft_xor_distrib (a := a) (b := b) (i := t)
  simp only [Nat.shiftLeft_eq] at h1
  rw [Nat.mul_comm, h1, Nat.mul_comm, Nat.mul_comm b]
/-- One bit more of a mask. -/
theorem mask_one {m k : Nat} (t : Nat) (h : m / 2 ^ k % 2 = 1) : 2 ^ t * (m % 2 ^ (k + 1)) = 2 ^ t * (m % 2 ^ k) ^^^ 2 ^ (t + k) ∧ m % 2 ^ (k + 1) ≠ 0 := by
  have e : m % 2 ^ (k + 1) = m % 2 ^ k + 2 ^ k * 1 := by rw [Nat.mod_pow_succ, h]
  have hp : 0 < 2 ^ k := Nat.pow_pos (by omega)
  refine ⟨?_, by omega⟩
  rw [e, xor_low _ _ _ (Nat.mod_lt _ hp), mul_xor, Nat.mul_one, ← Nat.pow_add]
theorem mask_none {m k : Nat} (h : m / 2 ^ k % 2 = 0) : m % 2 ^ (k + 1) = m % 2 ^ k := by
  rw [Nat.mod_pow_succ, h]; rfl
theorem num_inj : ∀ {a b : List UInt8}, a.length = b.length → num a = num b → a = b
  | [], [], _, _ => rfl
  | [], _ :: _, h, _ => by simp at h
  | _ :: _, [], h, _ => by simp at h
  | x :: a, y :: b, h, hn => by
    have hx := x.toNat_lt
    have hy := y.toNat_lt
    simp only [num] at hn
    have h1 : x.toNat = y.toNat := by omega
    have h2 : num a = num b := by omega
    rw [num_inj (by simpa using h) h2, UInt8.toNat_inj.1 h1]

end Go.Proofs.YtonejdjhdjckjaaGreat.CrcLaw

/-
  What the functions of package crc, and of its reference, compute: each called once, by its text.
-/
set_option linter.unusedSimpArgs false
set_option linter.unusedVariables false
namespace Go.Proofs.YtonejdjhdjckjaaGreat
open Go.RowKit CrcLaw

/- crc.Step -/
theorem step_val (c : Nat) (h : c < 65536) : bits .xor .u16 ((c : Int) / 2) (bits .and .u16 (IntKind.u16.wrap (-bits .and .u16 (c : Int) 1)) 33800) = ((T c : Nat) : Int) := by
  have e1 : bits .and .u16 (c : Int) 1 = ((c % 2 : Nat) : Int) := by
    have := u16_and_nat c 1 (by omega) (by omega)
    rw [show c &&& 1 = c % 2 from Nat.and_two_pow_sub_one_eq_mod c 1] at this
    exact this
  rw [e1, show ((c : Int) / 2) = ((c / 2 : Nat) : Int) by omega]
  rcases Nat.mod_two_eq_zero_or_one c with h0 | h0 <;> rw [h0]
  · have e2 : bits .and .u16 (IntKind.u16.wrap (-((0 : Nat) : Int))) 33800 = ((0 : Nat) : Int) := by decide
    rw [e2, u16_xor_nat _ _ (by omega) (by omega)]
    simp [T, h0]
  · have e2 : bits .and .u16 (IntKind.u16.wrap (-((1 : Nat) : Int))) 33800 = ((33800 : Nat) : Int) := by decide
    rw [e2, u16_xor_nat _ _ (by omega) (by omega)]
    simp [T, h0]
set_option maxHeartbeats 400000 in
theorem step_any (c b: Nat) (w : World) (h1 : c < 65536) (h2 : b < 256) :
    Calls Tryz.prog 23 #[.int .u16 c, .int .u8 b] w fun e w' => e = .returned (.int .u16 (stepN c b)) ∧ w = w' := by
  have e1 := u16_xor_nat c b h1 (by omega)
  go_enter Tryz.func23, Tryz.ntmps23
  go_wp2
  go_loop [0, 9] (fun c' i => ∃ k : Nat, k ≤ 8 ∧ i = .int .i64 k ∧ c' = .int .u16 (Tn k (c ^^^ b))) (fun _ i => 8 - (intOf i).toNat)
  case atStart => exact ⟨0, by omega, rfl, rfl⟩
  case round =>
    obtain ⟨k, hk, rfl, rfl⟩ := hrel
    have hd : Tn k (c ^^^ b) < 65536 := Tn_lt k (xor_lt h1 (by omega))
    by_cases hlt : k < 8
    · go_wp2
      go_round
      case rel => exact ⟨k + 1, by omega, by go_num, by rw [step_val _ hd]; rfl⟩
      case measure => simp [intOf]; omega
    · obtain rfl : k = 8 := by omega
      go_wp2
      go_ret
      exact ⟨rfl, rfl⟩

/- crc.four -/
theorem tab_cell (w : World) (k : Nat) (h : k < 16) : (w.alloc (Obj.cells #[.int .u16 0, .int .u16 4225, .int .u16 8450, .int .u16 12675, .int .u16 16900, .int .u16 21125, .int .u16 25350, .int .u16 29575, .int .u16 33800, .int .u16 38025, .int .u16 42250, .int .u16 46475, .int .u16 50700, .int .u16 54925, .int .u16 59150, .int .u16 63375] 128)).cell? ⟨w.heap.size, k, none⟩ = some (.int .u16 (tab k)) := by
  rcases (by omega : k = 0 ∨ k = 1 ∨ k = 2 ∨ k = 3 ∨ k = 4 ∨ k = 5 ∨ k = 6 ∨ k = 7 ∨ k = 8 ∨ k = 9 ∨ k = 10 ∨ k = 11 ∨ k = 12 ∨ k = 13 ∨ k = 14 ∨ k = 15) with rfl | rfl | rfl | rfl | rfl | rfl | rfl | rfl | rfl | rfl | rfl | rfl | rfl | rfl | rfl | rfl <;> simp [tab, tabL]
set_option maxHeartbeats 400000 in
theorem four_any (c : Nat) (w : World) (h : c < 65536) :
    Calls Tryz.prog 73 #[.int .u16 (c : Int)] w fun e w' => e = .returned (.int .u16 (Tn 4 c)) ∧ Below w.heap.size w w' := by
  have e1 : bits .and .u16 (c : Int) 15 = ((c % 16 : Nat) : Int) := by
    have := u16_and_nat c 15 (by omega) (by omega)
    rw [show c &&& 15 = c % 16 from Nat.and_two_pow_sub_one_eq_mod c 4] at this
    exact this
  have e3 : bits .xor .u16 ((c : Int) / 16) ((tab (c % 16) : Nat) : Int) = ((Tn 4 c : Nat) : Int) := by
    rw [show ((c : Int) / 16) = ((c / 16 : Nat) : Int) by omega, u16_xor_nat _ _ (by omega) (tab_lt _), four_eq]
  have E3 := Lib.hid e3
  clear e3
  obtain ⟨k, hk⟩ : ∃ k, k = c % 16 := ⟨_, rfl⟩
  rw [← hk] at e1 E3
  have hlt : k < 16 := by omega
  have hc := tab_cell w k hlt
  clear hk
  go_enter Tryz.func73, Tryz.ntmps73
  go_wp2
  go_ret
  exact ⟨ret_int E3.out, (Below.refl _ _).alloc (Nat.le_refl _) _⟩

/- crc.More -/
set_option maxHeartbeats 400000 in
theorem more_any (c : Nat) (A : Option Addr) (n cap B : Nat) (l : List UInt8) (w : World) (h1 : c < 65536) (h : Rd w B 1 A n cap (bv l)) (hB : B ≤ w.heap.size) :
    Calls Tryz.prog 46 #[.int .u16 c, .slice A n cap] w fun e w' => e = .returned (.int .u16 (moreN c l)) ∧ Below w.heap.size w w' := by
  have hn := h.le
  have hm := h.max
  unfold maxLen at hm
  have hl := h.blen
  go_enter Tryz.func46, Tryz.ntmps46
  clear hl
  go_wp2
  go_loopw [0, 6, 9] (fun c' _ i wr => ∃ k : Nat, k ≤ n ∧ i = .int .i64 k ∧ c' = .int .u16 (moreN c (l.take k)) ∧ Below w.heap.size w wr) (fun _ _ i _ => n - (intOf i).toNat)
  case atStart => exact ⟨0, by omega, rfl, rfl, Below.refl _ _⟩
  case round =>
    obtain ⟨k, hk, rfl, rfl, hb⟩ := hrel
    have hd : moreN c (l.take k) < 65536 := moreN_lt _ h1
    by_cases hlt : k < n
    · obtain ⟨ad, x, rfl, hx, hc⟩ := (h.up (hb.mono hB)).byte hlt
      have hs : moreN c (l.take (k + 1)) = Tn 4 (Tn 4 (moreN c (l.take k) ^^^ x.toNat)) := by rw [take_succ hx, moreN_snoc, Tn8]; rfl
      have Hs := Lib.hid hs
      clear hs hx
      generalize moreN c (l.take k) = d at *
      have hxl : x.toNat < 256 := x.toNat_lt
      have e1 := u16_xor_nat d x.toNat hd (by omega)
      have hdx : d ^^^ x.toNat < 65536 := xor_lt hd (by omega)
      have hd4 := Tn_lt 4 hdx
      go_wp2_with fail
      refine (four_any _ _ hdx).mono ?_
      rintro e w1 ⟨rfl, hb1⟩
      go_wp2_with fail
      refine (four_any _ _ hd4).mono ?_
      rintro e w2 ⟨rfl, hb2⟩
      have hb' : Below w.heap.size w w2 := (hb.trans (hb1.mono hb.size)).trans (hb2.mono (Nat.le_trans hb.size hb1.size))
      clear hb1 hb2 hc
      go_wp2
      go_roundw
      case rel => exact ⟨k + 1, by omega, by go_num, val_int (cast_ Hs.out.symm), hb'⟩
      case measure => simp [intOf]; omega
    · obtain rfl : k = n := by omega
      have hl := h.blen
      have ht : l.take k = l := List.take_of_length_le (by omega)
      clear hl
      rw [ht]
      go_wp2
      go_ret
      exact ⟨rfl, hb⟩

/- crc.Of -/
set_option maxHeartbeats 400000 in
theorem crcOf_any (A : Option Addr) (n cap B : Nat) (ls : List (List UInt8)) (w : World) (h : RdL w B A n cap ls) (hB : B ≤ w.heap.size) :
    Calls Tryz.prog 24 #[.slice A n cap] w fun e w' => e = .returned (.int .u16 (moreN 65535 ls.flatten)) ∧ Below w.heap.size w w' := by
  obtain ⟨hn, hm, hl⟩ : n ≤ cap ∧ cap ≤ maxLen ∧ ls.length = n := by obtain ⟨vs, h1, h2, _⟩ := h; exact ⟨h1.le, h1.max, h2⟩
  have Hl := Lib.hid hl
  clear hl
  unfold maxLen at hm
  go_enter Tryz.func24, Tryz.ntmps24
  go_wp2
  go_loopw [3, 5, 8] (fun c' _ i wr => ∃ k : Nat, k ≤ n ∧ i = .int .i64 k ∧ c' = .int .u16 (moreN 65535 (ls.take k).flatten) ∧ Below w.heap.size w wr) (fun _ _ i _ => n - (intOf i).toNat)
  case atStart => exact ⟨0, by omega, rfl, rfl, Below.refl _ _⟩
  case round =>
    obtain ⟨k, hk, rfl, rfl, hb⟩ := hrel
    have hd : moreN 65535 (ls.take k).flatten < 65536 := moreN_lt _ (by omega)
    by_cases hlt : k < n
    · obtain ⟨ad, l, A', n', c', rfl, hx, hc, hr⟩ := (h.up (hb.mono hB)).at_ hlt
      have hs : moreN 65535 (ls.take (k + 1)).flatten = moreN (moreN 65535 (ls.take k).flatten) l := by rw [flat_snoc hx, moreN_append]
      have Hs := Lib.hid hs
      clear hs hx
      generalize moreN 65535 (ls.take k).flatten = d at *
      go_wp2_with fail
      refine (more_any _ _ _ _ _ _ _ hd hr (Nat.le_trans hB hb.size)).mono ?_
      rintro e w1 ⟨rfl, hb1⟩
      have hb' : Below w.heap.size w w1 := (hb.trans (hb1.mono hb.size))
      clear hb1 hc
      go_wp2
      go_roundw
      case rel => exact ⟨k + 1, by omega, by go_num, val_int (cast_ Hs.out.symm), hb'⟩
      case measure => simp [intOf]; omega
    · obtain rfl : k = n := by omega
      have ht : ls.take k = ls := List.take_of_length_le (by rw [Hl.out]; omega)
      rw [ht]
      go_wp2
      go_ret
      exact ⟨rfl, hb⟩

end Go.Proofs.YtonejdjhdjckjaaGreat

/-
  What crc.Seal, crc.Open, their reference, and the statements' Turned compute.
-/
set_option linter.unusedSimpArgs false
set_option linter.unusedVariables false
namespace Go.Proofs.YtonejdjhdjckjaaGreat
open Go.RowKit CrcLaw

theorem T_odd {d : Nat} (h : d % 2 = 1) : T d = d / 2 ^^^ 33800 := by simp [T, h]
theorem T_even {d : Nat} (h : d % 2 = 0) : T d = d / 2 := by simp [T, h]
set_option maxHeartbeats 400000 in
theorem rstep_any (c b: Nat) (w : World) (h1 : c < 65536) (h2 : b < 256) :
    Calls Tryz.prog 31 #[.int .u16 c, .int .u8 b] w fun e w' => e = .returned (.int .u16 (stepN c b)) ∧ w = w' := by
  have e1 := u16_xor_nat c b h1 (by omega)
  go_enter Tryz.func31, Tryz.ntmps31
  go_wp2
  go_loop [0, 5, 6] (fun c' i _ => ∃ k : Nat, k ≤ 8 ∧ i = .int .i64 k ∧ c' = .int .u16 (Tn k (c ^^^ b))) (fun _ i _ => 8 - (intOf i).toNat)
  case atStart => exact ⟨0, by omega, rfl, rfl⟩
  case round =>
    obtain ⟨k, hk, rfl, rfl⟩ := hrel
    have hd : Tn k (c ^^^ b) < 65536 := Tn_lt k (xor_lt h1 (by omega))
    clear e1
    by_cases hlt : k < 8
    · have hs : Tn (k + 1) (c ^^^ b) = T (Tn k (c ^^^ b)) := rfl
      have Hs := Lib.hid hs
      clear hs
      generalize Tn k (c ^^^ b) = d at *
      rcases Nat.mod_two_eq_zero_or_one d with h0 | h0
      · have Ht := Lib.hid (T_even h0)
        have hq : ((d : Int) % 2 == 1) = false := by rw [beq_eq_false_iff_ne]; omega
        clear h0
        go_wp2
        go_round
        case rel => exact ⟨k + 1, by omega, by go_num, val_int (by rw [Hs.out, Ht.out]; omega)⟩
        case measure => simp [intOf]; omega
      · have Ht := Lib.hid (T_odd h0)
        have hq : ((d : Int) % 2 == 1) = true := by rw [beq_iff_eq]; omega
        have e1 : bits .xor .u16 ((d : Int) / 2) 33800 = ((d / 2 ^^^ 33800 : Nat) : Int) := by
          have := u16_xor_nat (d / 2) 33800 (by omega) (by omega)
          simpa using this
        clear h0
        go_wp2
        go_round
        case rel => exact ⟨k + 1, by omega, by go_num, val_int (by rw [Hs.out, Ht.out])⟩
        case measure => simp [intOf]; omega
    · obtain rfl : k = 8 := by omega
      go_wp2
      go_ret
      exact ⟨rfl, rfl⟩

set_option maxHeartbeats 400000 in
theorem rmore_any (c : Nat) (A : Option Addr) (n cap B : Nat) (l : List UInt8) (w : World) (h1 : c < 65536) (h : Rd w B 1 A n cap (bv l)) :
    Calls Tryz.prog 63 #[.int .u16 c, .slice A n cap] w fun e w' => e = .returned (.int .u16 (moreN c l)) ∧ w = w' := by
  have hn := h.le
  have hm := h.max
  unfold maxLen at hm
  go_enter Tryz.func63, Tryz.ntmps63
  go_wp2
  go_loop [0, 5] (fun c' i => ∃ k : Nat, k ≤ n ∧ i = .int .i64 k ∧ c' = .int .u16 (moreN c (l.take k))) (fun _ i => n - (intOf i).toNat)
  case atStart => exact ⟨0, by omega, rfl, rfl⟩
  case round =>
    obtain ⟨k, hk, rfl, rfl⟩ := hrel
    have hd : moreN c (l.take k) < 65536 := moreN_lt _ h1
    by_cases hlt : k < n
    · obtain ⟨ad, x, rfl, hx, hc⟩ := h.byte hlt
      have hs : moreN c (l.take (k + 1)) = stepN (moreN c (l.take k)) x.toNat := by rw [take_succ hx, moreN_snoc]
      have Hs := Lib.hid hs
      clear hs hx
      generalize moreN c (l.take k) = d at *
      go_wp2_with fail
      go_fit (rstep_any d x.toNat w hd x.toNat_lt)
      rintro e w1 ⟨rfl, rfl⟩
      go_wp2
      go_round
      case rel => exact ⟨k + 1, by omega, by go_num, val_int (cast_ Hs.out.symm)⟩
      case measure => simp [intOf]; omega
    · obtain rfl : k = n := by omega
      have ht : l.take k = l := List.take_of_length_le (by rw [h.blen]; exact Nat.le_refl _)
      rw [ht]
      clear ht
      go_wp2
      go_ret
      exact ⟨rfl, rfl⟩

set_option maxHeartbeats 400000 in
theorem rof_any (A : Option Addr) (n cap B : Nat) (l : List UInt8) (w : World) (h : Rd w B 1 A n cap (bv l)) :
    Calls Tryz.prog 32 #[.slice A n cap] w fun e w' => e = .returned (.int .u16 (moreN 65535 l)) ∧ w = w' := by
  go_enter Tryz.func32, Tryz.ntmps32
  go_wp2_with fail
  go_fit (rmore_any 65535 A n cap B l w (by omega) h)
  rintro e w1 ⟨rfl, rfl⟩
  go_wp2
  go_ret
  exact ⟨rfl, rfl⟩

/-- The seal's two bytes. -/
def tailN (l : List UInt8) : List UInt8 := [UInt8.ofNat (moreN 65535 l % 256), UInt8.ofNat (moreN 65535 l / 256)]
theorem rd_two (w : World) (e x y : Nat) (hx : x < 256) (hy : y < 256) : Rd (w.alloc (.cells #[.int .u8 x, .int .u8 y] e)) (w.heap.size + 1) 1 (some ⟨w.heap.size, 0, none⟩) 2 2 (bv [UInt8.ofNat x, UInt8.ofNat y]) := by
  have h := rd_const w e [UInt8.ofNat x, UInt8.ofNat y] (0, 0) (by simp [maxLen])
  have e1 : (UInt8.ofNat x).toNat = x := by rw [UInt8.toNat_ofNat']; omega
  have e2 : (UInt8.ofNat y).toNat = y := by rw [UInt8.toNat_ofNat']; omega
  simpa [bv, e1, e2] using h


end Go.Proofs.YtonejdjhdjckjaaGreat

/-
  The document's shapes: room, Right, Width walked; the law ShapeFields walked.
-/
set_option linter.unusedSimpArgs false
set_option linter.unusedVariables false
namespace Go.Proofs.YtonejdjhdjckjaaGreat
open Go.RowKit NumLaw
attribute [local go_sem] Addr.add_mid

set_option maxRecDepth 10000 in
set_option maxHeartbeats 2000000 in
theorem qroom_any (f : FieldV) (n : Int) (w : World) : Calls Tryz.prog 97 #[fv f, .int .i64 n] w fun e w' => e = .returned (.bool (inF (anyF f.size f.sg) n)) ∧ Below w.heap.size w w' := by
  have hany := fun w => qAny14_any f.size f.sg w
  obtain ⟨a0, a1, a2, a3, ha⟩ : ∃ a0 a1 a2 a3, anyF f.size f.sg = ⟨a0, a1, a2, a3⟩ := ⟨_, _, _, _, rfl⟩
  rw [ha] at hany ⊢
  clear ha
  obtain ⟨size, sg, lo, hi⟩ := f
  have hbx : Below w.heap.size w (w.alloc (.cells #[.int .i64 size, .bool sg, .int .i64 lo, .int .i64 hi] 85)) := (Below.refl _ _).alloc (Nat.le_refl _) _
  unfold fv inF at *
  simp only at hany
  have Hany := Lib.hid hany
  clear hany
  rcases (by omega : n < a2 ∨ (a2 ≤ n ∧ n ≤ a3) ∨ (a2 ≤ n ∧ a3 < n)) with h | ⟨h1, h2⟩ | ⟨h1, h2⟩
  all_goals
    go_enter Tryz.func97, Tryz.ntmps97
    go_wp2_with fail
    go_fit (Hany.out _)
    rintro e w1 ⟨rfl, hb1⟩
    have hb1' := bnx hbx hb1
    have hy := heap_alloc_new w1 (.cells #[.int .i64 a0, .bool a1, .int .i64 a2, .int .i64 a3] 85)
    have hb2 := hb1'.alloc hb1'.size (.cells #[.int .i64 a0, .bool a1, .int .i64 a2, .int .i64 a3] 85)
    have d2 := blk_cell (i := 2) (v := .int .i64 a2) hy rfl
    have d3 := blk_cell (i := 3) (v := .int .i64 a3) hy rfl
    clear hy hb1 hb1'
    go_wp2
    go_ret
    refine ⟨?_, hb2⟩
    simp
    try omega

set_option maxRecDepth 10000 in
set_option maxHeartbeats 4000000 in
theorem qRight_any (A : Option Addr) (n c B : Nat) (l : List FieldV) (w : World) (h : RdF w B A n c l) (hB : B ≤ w.heap.size) :
    Calls Tryz.prog 67 #[.slice A n c] w fun e w' => e = .returned (.bool (rightL l)) ∧ Below w.heap.size w w' := by
  have hle := h.2.1
  have hm := h.2.2.1
  have Hl := Lib.hid h.1
  unfold maxLen at hm
  obtain ⟨r, hr⟩ : ∃ r, r = rightL l := ⟨_, rfl⟩
  rw [← hr]
  have HR := Lib.hid hr
  clear hr
  go_enter Tryz.func67, Tryz.ntmps67
  go_wp2_with fail
  go_loopw [3] (fun i wr => ∃ (k : Nat), k ≤ n ∧ i = .int .i64 k ∧ Below w.heap.size w wr ∧ Hid (rightL (l.take k) = true)) (fun i _ => n - (intOf i).toNat)
  case atStart => exact ⟨0, by omega, rfl, Below.refl _ _, Lib.hid rfl⟩
  case round =>
    obtain ⟨k, hk, rfl, hb, hall⟩ := hrel
    by_cases hlt : k < n
    · obtain ⟨g, off, f, rfl, hg, hx, h1, h2, h3, h4, _⟩ := (h.up (hb.mono hB)).at_ hlt
      have Hs : Hid (rightL (l.take (k + 1)) = rightF f) := Lib.hid (by have h0 := hall.out; unfold rightL at h0 ⊢; rw [take_succ hx, List.all_append, h0]; simp)
      have Hm : Hid (rightF f = false → r = false) := Lib.hid (fun hb => by
        rw [HR.out]
        unfold rightL
        rw [List.all_eq_false]
        exact ⟨f, List.mem_of_getElem? hx, by rw [hb]; simp⟩)
      have hlo := fun w => qroom_any f f.lo w
      have hhi := fun w => qroom_any f f.hi w
      obtain ⟨b3, hb3⟩ : ∃ b3, b3 = inF (anyF f.size f.sg) f.lo := ⟨_, rfl⟩
      obtain ⟨b4, hb4⟩ : ∃ b4, b4 = inF (anyF f.size f.sg) f.hi := ⟨_, rfl⟩
      rw [← hb3] at hlo
      rw [← hb4] at hhi
      have HE : Hid (rightF f = (fitsF f.size && decide (f.lo ≤ f.hi) && b3 && b4)) := Lib.hid (by unfold rightF; rw [hb3, hb4])
      clear hb3 hb4
      obtain ⟨size, sg, lo, hi⟩ := f
      simp only at h1 h2 h3 h4 hlo hhi HE
      unfold fv at hlo hhi
      simp only at hlo hhi
      have Hlo := Lib.hid hlo
      have Hhi := Lib.hid hhi
      clear hlo hhi hx
      obtain ⟨rf, hrf⟩ : ∃ rf, rf = rightF ⟨size, sg, lo, hi⟩ := ⟨_, rfl⟩
      rw [← hrf] at Hs Hm HE
      clear hrf
      have hb2 := hb.alloc hb.size (.cells #[.int .i64 size, .bool sg, .int .i64 lo, .int .i64 hi] 85)
      have hbox := heap_alloc_new wr (.cells #[.int .i64 size, .bool sg, .int .i64 lo, .int .i64 hi] 85)
      have c0 := blk_cell (i := 0) (v := .int .i64 size) hbox rfl
      have c1 := blk_cell (i := 1) (v := .bool sg) hbox rfl
      have c2 := blk_cell (i := 2) (v := .int .i64 lo) hbox rfl
      have c3 := blk_cell (i := 3) (v := .int .i64 hi) hbox rfl
      rcases (by omega : size < 1 ∨ (¬ size < 1 ∧ 8 < size) ∨ (¬ size < 1 ∧ ¬ 8 < size ∧ hi < lo) ∨ (¬ size < 1 ∧ ¬ 8 < size ∧ ¬ hi < lo)) with g1 | ⟨g1, g2⟩ | ⟨g1, g2, g3⟩ | ⟨g1, g2, g3⟩
      · obtain rfl : rf = false := by rw [HE.out, show fitsF size = false from decide_eq_false (by omega)]; rfl
        obtain rfl : r = false := Hm.out rfl
        clear Hs HE Hm
        go_wp2
        go_ret
        exact ⟨rfl, hb2⟩
      · obtain rfl : rf = false := by rw [HE.out, show fitsF size = false from decide_eq_false (by omega)]; rfl
        obtain rfl : r = false := Hm.out rfl
        clear Hs HE Hm
        go_wp2
        go_ret
        exact ⟨rfl, hb2⟩
      · obtain rfl : rf = false := by rw [HE.out, decide_eq_false (show ¬ lo ≤ hi by omega)]; simp
        obtain rfl : r = false := Hm.out rfl
        clear Hs HE Hm
        go_wp2
        go_ret
        exact ⟨rfl, hb2⟩
      · have HE2 : Hid (rf = (b3 && b4)) := Lib.hid (by rw [HE.out, show fitsF size = true from decide_eq_true (by omega), decide_eq_true (show lo ≤ hi by omega)]; simp)
        clear HE
        go_wp2_with fail
        go_fit (Hlo.out _)
        rintro e w3 ⟨rfl, hb23⟩
        have hb3 := bnx hb2 hb23
        have hbox3 := blk_old hbox hb23 (blk_lt hbox)
        clear c0 c1 c2 c3 hbox hb2 hb23
        have c0 := blk_cell (i := 0) (v := .int .i64 size) hbox3 rfl
        have c1 := blk_cell (i := 1) (v := .bool sg) hbox3 rfl
        have c2 := blk_cell (i := 2) (v := .int .i64 lo) hbox3 rfl
        have c3 := blk_cell (i := 3) (v := .int .i64 hi) hbox3 rfl
        cases b3 with
        | false =>
          obtain rfl : rf = false := HE2.out
          obtain rfl : r = false := Hm.out rfl
          clear Hs HE2 Hm
          go_wp2
          go_ret
          exact ⟨rfl, hb3⟩
        | true =>
          obtain rfl : rf = b4 := by rw [HE2.out]; rfl
          go_wp2_with fail
          go_fit (Hhi.out _)
          rintro e w4 ⟨rfl, hb34⟩
          have hb4 := bnx hb3 hb34
          cases rf with
          | false =>
            obtain rfl : r = false := Hm.out rfl
            clear Hs HE2 Hm
            go_wp2
            go_ret
            exact ⟨rfl, hb4⟩
          | true =>
            clear HE2 Hm
            go_wp2
            go_roundw
            case rel => exact ⟨k + 1, by omega, by go_num, hb4, Hs⟩
            case measure => simp [intOf]; omega
    · obtain rfl : k = n := by omega
      have ht : l.take k = l := List.take_of_length_le (by rw [Hl.out]; omega)
      rw [ht] at hall
      obtain rfl : r = true := by rw [HR.out]; exact hall.out
      go_wp2
      go_ret
      exact ⟨rfl, hb⟩

set_option maxRecDepth 10000 in
set_option maxHeartbeats 1000000 in
theorem qWidth_any (A : Option Addr) (n c B : Nat) (l : List FieldV) (w : World) (h : RdF w B A n c l) (hB : B ≤ w.heap.size) (hn : n ≤ 100000) :
    Calls Tryz.prog 68 #[.slice A n c] w fun e w' => e = .returned (.int .i64 (widthL l : Int)) ∧ Below w.heap.size w w' := by
  have hle := h.2.1
  have Hl := Lib.hid h.1
  have hright := qRight_any A n c B l w h hB
  cases hr : rightL l with
  | false =>
    rw [hr] at hright
    rw [show widthL l = 0 by unfold widthL; rw [hr]; rfl]
    clear hr
    go_enter Tryz.func68, Tryz.ntmps68
    go_wp2_with fail
    go_fit hright
    rintro e w1 ⟨rfl, hb1⟩
    go_wp2
    go_ret
    exact ⟨rfl, hb1⟩
  | true =>
    have Hr := Lib.hid hr
    rw [hr] at hright
    obtain ⟨tot, htot⟩ : ∃ tot, tot = widthL l := ⟨_, rfl⟩
    rw [← htot]
    have Ht : Hid (tot = sumL l) := Lib.hid (by rw [htot]; unfold widthL; rw [hr]; rfl)
    clear hr htot
    go_enter Tryz.func68, Tryz.ntmps68
    go_wp2_with fail
    go_fit hright
    rintro e w1 ⟨rfl, hb1⟩
    go_wp2_with fail
    go_loopw [3, 4] (fun s i wr => ∃ (k : Nat), k ≤ n ∧ i = .int .i64 k ∧ s = .int .i64 (sumL (l.take k) : Int) ∧ Below w.heap.size w wr) (fun _ i _ => n - (intOf i).toNat)
    case atStart => exact ⟨0, by omega, rfl, rfl, hb1⟩
    case round =>
      clear hb1 w1
      obtain ⟨k, hk, rfl, rfl, hb⟩ := hrel
      by_cases hlt : k < n
      · obtain ⟨g, off, f, rfl, hg, hx, h1, h2, h3, h4, _⟩ := (h.up (hb.mono hB)).at_ hlt
        have hfit := right_fits (List.all_eq_true.1 Hr.out _ (List.mem_of_getElem? hx))
        have hs := sumL_step hx
        have hle1 := sumL_take Hr.out k
        obtain ⟨size, sg, lo, hi⟩ := f
        simp only at h1 h2 h3 h4 hfit hs
        obtain ⟨sz, rfl⟩ : ∃ sz : Nat, size = sz := ⟨size.toNat, by omega⟩
        rw [Int.toNat_natCast] at hs
        have Hs := Lib.hid hs
        clear hs hx
        generalize sumL (l.take k) = s0 at *
        go_wp2
        go_roundw
        case rel => exact ⟨k + 1, by omega, by go_num, val_int (by rw [Hs.out]; omega), hb⟩
        case measure => simp [intOf]; omega
      · obtain rfl : k = n := by omega
        have ht : l.take k = l := List.take_of_length_le (by rw [Hl.out]; omega)
        rw [ht, ← Ht.out]
        go_wp2
        go_ret
        exact ⟨rfl, hb⟩

end Go.Proofs.YtonejdjhdjckjaaGreat

/-
  The document's shapes: Put walked.
-/
set_option linter.unusedSimpArgs false
set_option linter.unusedVariables false
namespace Go.Proofs.YtonejdjhdjckjaaGreat
open Go.RowKit NumLaw
attribute [local go_sem] Addr.add_mid

end Go.Proofs.YtonejdjhdjckjaaGreat

/-
  The document's shapes: number, Take walked.
-/
set_option linter.unusedSimpArgs false
set_option linter.unusedVariables false
namespace Go.Proofs.YtonejdjhdjckjaaGreat
open Go.RowKit NumLaw
attribute [local go_sem] Addr.add_mid

def numV (f : FieldV) (b : List UInt8) : Int := if f.sg = true then sgn f.size.toNat (num b) else ((num b % 9223372036854775808 : Nat) : Int)
def numK (f : FieldV) (b : List UInt8) : Bool := f.sg || decide (num b < 9223372036854775808)
/-- A number that is told, and within its field, is the field's; and the other way round. -/
theorem num_in {f : FieldV} {b : List UInt8} (hr : rightF f = true) (hb : b.length = f.size.toNat) : (numK f b = true → numV f b = fieldV f b) ∧ (numK f b = false → inF f (fieldV f b) = false) := by
  have hs := right_fits hr
  have hm := num_lt b
  rw [hb] at hm
  have hm8 := Nat.lt_of_lt_of_le hm (pow_le8 (show f.size.toNat ≤ 8 by omega))
  unfold numK numV fieldV
  cases hg : f.sg with
  | true => simp
  | false =>
    simp only [Bool.false_or, decide_eq_true_eq, Bool.false_eq_true, if_false, decide_eq_false_iff_not]
    refine ⟨fun h => ?_, fun h => ?_⟩
    · unfold sg64; rw [if_pos h, Nat.mod_eq_of_lt h]
    · unfold inF sg64
      rw [if_neg h]
      refine decide_eq_false ?_
      have hlo : 0 ≤ f.lo := by
        obtain ⟨size, sg, lo, hi⟩ := f
        unfold rightF at hr
        simp only [Bool.and_eq_true, decide_eq_true_eq] at hr hg
        subst hg
        have h3 := of_decide_eq_true hr.1.2
        unfold anyF at h3
        rw [if_pos hr.1.1.1] at h3
        simp at h3
        exact h3.1
      omega
set_option maxRecDepth 10000 in
set_option maxHeartbeats 1000000 in
theorem qnumber_any (f : FieldV) (A : Option Addr) (n c B : Nat) (b : List UInt8) (w : World) (h : Rd w B 1 A n c (bv b)) (hB : B ≤ w.heap.size) (hs1 : 1 ≤ f.size) (hs8 : f.size ≤ 8) (hn : n = f.size.toNat) :
    Calls Tryz.prog 69 #[fv f, .slice A n c] w fun e w' => e = .returned (.tuple #[.int .i64 (numV f b), .bool (numK f b)]) ∧ Below w.heap.size w w' := by
  have hlb := h.blen
  obtain ⟨size, sg, lo, hi⟩ := f
  simp only at hs1 hs8 hn
  obtain ⟨sz, rfl⟩ : ∃ sz : Nat, size = sz := ⟨size.toNat, by omega⟩
  rw [Int.toNat_natCast] at hn
  subst hn
  have hm := num_lt b
  rw [hlb] at hm
  have hm8 := Nat.lt_of_lt_of_le hm (pow_le8 (show n ≤ 8 by omega))
  have hbx : Below w.heap.size w (w.alloc (.cells #[.int .i64 n, .bool sg, .int .i64 lo, .int .i64 hi] 85)) := (Below.refl _ _).alloc (Nat.le_refl _) _
  have hx := heap_alloc_new w (.cells #[.int .i64 n, .bool sg, .int .i64 lo, .int .i64 hi] 85)
  have hnum := number_any A n c B b _ (h.up (hbx.mono hB)) (by omega)
  have hsig := fun w => signed_any n (num b) w (by omega) (by omega) hm
  have c0 := blk_cell (i := 0) (v := .int .i64 n) hx rfl
  have c1 := blk_cell (i := 1) (v := .bool sg) hx rfl
  unfold fv numV numK
  simp only [Int.toNat_natCast]
  obtain ⟨u, hu⟩ : ∃ u, u = num b := ⟨_, rfl⟩
  rw [← hu] at hnum hsig hm8 ⊢
  clear hu hm hx
  cases sg with
  | true =>
    obtain ⟨sv, hsv⟩ : ∃ sv, sv = sgn n u := ⟨_, rfl⟩
    simp only [if_true, Bool.true_or]
    rw [← hsv] at hsig ⊢
    clear hsv
    have Hsig := Lib.hid hsig
    clear hsig
    go_enter Tryz.func69, Tryz.ntmps69
    go_wp2_with fail
    go_fit hnum
    rintro e w1 ⟨rfl, rfl⟩
    go_wp2_with fail
    go_fit (Hsig.out _)
    rintro e w2 ⟨rfl, rfl⟩
    go_wp2
    go_ret2
    exact ⟨rfl, hbx⟩
  | false =>
    simp only [Bool.false_eq_true, if_false, Bool.false_or]
    obtain ⟨r, hr⟩ : ∃ r, r = u % 9223372036854775808 := ⟨_, rfl⟩
    have e1 : (u : Int) % 9223372036854775808 = (r : Int) := by omega
    have e2 : IntKind.i64.wrap (r : Int) = (r : Int) := by rw [IntKind.wrap_i64]; omega
    rw [← hr]
    clear hr hsig
    go_enter Tryz.func69, Tryz.ntmps69
    go_wp2_with fail
    go_fit hnum
    rintro e w1 ⟨rfl, rfl⟩
    go_wp2
    go_ret2
    refine ⟨?_, hbx⟩
    simp
    try omega

end Go.Proofs.YtonejdjhdjckjaaGreat

/-
  The document's shapes: Take walked.
-/
set_option linter.unusedSimpArgs false
set_option linter.unusedVariables false
namespace Go.Proofs.YtonejdjhdjckjaaGreat
open Go.RowKit NumLaw
attribute [local go_sem] Addr.add_mid

set_option maxRecDepth 10000 in
set_option maxHeartbeats 4000000 in
theorem qTake14_go (A : Option Addr) (n c B : Nat) (l : List FieldV) (A' : Option Addr) (n' c' B' : Nat) (b : List UInt8) (w : World) (h : RdF w B A n c l) (hB : B ≤ w.heap.size) (h' : Rd w B' 1 A' n' c' (bv b)) (hB' : B' ≤ w.heap.size) (hn : n ≤ 100000) (hr : rightL l = true) (hlen : n' = sumL l) :
    Calls Tryz.prog 38 #[.slice A n c, .slice A' n' c'] w (RetTS w (shT l b) (shTE l b)) := by
  have hle := h.2.1
  have hle' := h'.le
  have hmx' := h'.max
  unfold maxLen at hmx'
  have hlb := h'.blen
  have Hl := Lib.hid h.1
  have Hr := Lib.hid hr
  have hright := qRight_any A n c B l w h hB
  rw [hr] at hright
  have hwidth := fun w' h' hB' => qWidth_any A n c B l w' h' hB' hn
  rw [show widthL l = n' by unfold widthL; rw [if_pos hr, hlen]] at hwidth
  have hE : shTE l b = if inAll l (takeV l b) = true then 0 else 5 := by unfold shTE; rw [if_pos hr, if_neg (by omega), if_neg (by omega)]
  have HE := Lib.hid hE
  obtain ⟨oE, hoE⟩ : ∃ oE, oE = shTE l b := ⟨_, rfl⟩
  obtain ⟨oP, hoP⟩ : ∃ oP, oP = shT l b := ⟨_, rfl⟩
  rw [← hoE, ← hoP]
  have HoE := Lib.hid hoE
  have HoP := Lib.hid hoP
  have Hlen := Lib.hid hlen
  have Hlb := Lib.hid hlb
  have hnb : n' ≤ 800000 := by
    have := sumL_take hr l.length
    rw [List.take_length, h.1] at this
    omega
  have Hwidth := Lib.hid hwidth
  obtain ⟨i0, hi0⟩ := info_parts u8_info
  have Hi := Lib.hid hi0
  obtain ⟨i1, hi1⟩ := info_parts i64_info
  have Hi1 := Lib.hid hi1
  clear hr hE hoE hoP hlen hlb hwidth hi0 hi1
  go_enter Tryz.func38, Tryz.ntmps38
  go_wp2_with fail
  go_fit hright
  rintro e w1 ⟨rfl, hb1⟩
  go_wp2_with fail
  go_fit (Hwidth.out w1 (h.up (hb1.mono hB)) (Nat.le_trans hB hb1.size))
  rintro e w2 ⟨rfl, hb12⟩
  have hb2 := bnx hb1 hb12
  go_wp2_with fail
  go_fit (Hwidth.out w2 (h.up (hb2.mono hB)) (Nat.le_trans hB hb2.size))
  rintro e w3 ⟨rfl, hb23⟩
  have hb3 := bnx hb2 hb23
  clear hb1 hb12 hb2 hb23 hright
  go_wp2_with fail
  go_loopw [6, 7, 8] (fun s a i wr => ∃ (k : Nat) (A6 : Option Addr) (c6 : Nat), k ≤ n ∧ i = .int .i64 k ∧ s = .slice A6 k c6 ∧ a = .int .i64 (sumL (l.take k) : Int) ∧ wr.ownsRow w.heap.size 2 1 (.slice A6 k c6) k (((takeV l b).take k).map (Value.int .i64)) ∧ Below w.heap.size w wr ∧ Hid (((l.zip (takeV l b)).take k).all (fun p => inF p.1 p.2) = true)) (fun _ _ i _ => n - (intOf i).toNat)
  case atStart => exact ⟨0, none, 0, by omega, rfl, rfl, rfl, World.ownsRow_nil _ _ _ _, hb3, Lib.hid rfl⟩
  case round =>
    clear hb3 w3
    obtain ⟨k, A6, c6, hk, rfl, rfl, rfl, hown, hb, hall⟩ := hrel
    by_cases hlt : k < n
    · obtain ⟨gf, off, f, rfl, hgf, hx, h1, h2, h3, h4, _⟩ := h.at_ hlt
      have hgw : gf < w.heap.size := by omega
      have hrf := List.all_eq_true.1 Hr.out _ (List.mem_of_getElem? hx)
      have hvx := takeV_at l b k f hx
      have hsl := sumL_le hx
      have hst := sumL_step hx
      have hfit := right_fits hrf
      have hzs := zip_take_succ hx hvx
      have hm : (f, fieldV f ((b.drop (sumL (l.take k))).take f.size.toNat)) ∈ l.zip (takeV l b) := List.mem_of_getElem? (i := k) (by rw [List.getElem?_zip_eq_some]; exact ⟨hx, hvx⟩)
      obtain ⟨at_, hat⟩ : ∃ a, a = sumL (l.take k) := ⟨_, rfl⟩
      rw [← hat] at hvx hsl hst hzs hm ⊢
      rw [← Hlen.out] at hsl
      have hbl : ((b.drop at_).take f.size.toNat).length = f.size.toNat := by rw [List.length_take, List.length_drop, Hlb.out]; omega
      have hni := num_in hrf hbl
      have hnumb := fun w' hcut hB'' => qnumber_any f (cutA A' c' at_ 1) f.size.toNat (c' - at_) B' ((b.drop at_).take f.size.toNat) w' hcut hB'' hfit.1 hfit.2 rfl
      have hcut : Rd w B' 1 (cutA A' c' at_ 1) f.size.toNat (c' - at_) (bv ((b.drop at_).take f.size.toNat)) := (h'.bdrop (k := at_) (by omega)).btake (by omega)
      obtain ⟨x, hxe⟩ : ∃ x, x = fieldV f ((b.drop at_).take f.size.toNat) := ⟨_, rfl⟩
      obtain ⟨nv, hnv⟩ : ∃ nv, nv = numV f ((b.drop at_).take f.size.toNat) := ⟨_, rfl⟩
      obtain ⟨nk, hnk⟩ : ∃ nk, nk = numK f ((b.drop at_).take f.size.toNat) := ⟨_, rfl⟩
      rw [← hxe] at hvx hzs hm hni
      rw [← hnv, ← hnk] at hni hnumb
      have Hvx := Lib.hid hvx
      have Hs := Lib.hid hzs
      have Hm := Lib.hid hm
      have Hni := Lib.hid hni
      have Hst := Lib.hid hst
      clear hx hzs hm hxe hvx hst hrf hnv hnk hni hat hbl
      obtain ⟨size, sg, lo, hi⟩ := f
      simp only at h1 h2 h3 h4 hfit hnumb hcut hsl Hst
      obtain ⟨sz, rfl⟩ : ∃ sz : Nat, size = sz := ⟨size.toNat, by omega⟩
      simp only [Int.toNat_natCast] at hnumb hcut hsl Hst
      generalize (b.drop at_).take sz = bk at *
      unfold fv at hnumb
      simp only at hnumb
      have Hnumb := Lib.hid hnumb
      clear hnumb
      have hrow : ∀ w', Below w.heap.size w w' → w'.rangeAt gf (off + k * 4) [.int .i64 sz, .bool sg, .int .i64 lo, .int .i64 hi] := fun w' hS j v hv => by
        have hc : ∀ j, w'.cell? ⟨gf, j, none⟩ = w.cell? ⟨gf, j, none⟩ := fun j => hS.cell (p := ⟨gf, j, none⟩) hgw
        rw [hc]
        match j, hv with
        | 0, hv => simp at hv; subst hv; exact h1
        | 1, hv => simp at hv; subst hv; exact h2
        | 2, hv => simp at hv; subst hv; exact h3
        | 3, hv => simp at hv; subst hv; exact h4
      have Hrow := Lib.hid hrow
      have Hbad : Hid (inF ⟨(sz : Int), sg, lo, hi⟩ x = false → oE = 5 ∧ oP = []) := Lib.hid (fun hin => by
        have hna : inAll l (takeV l b) = false := by
          unfold inAll
          rw [List.all_eq_false]
          exact ⟨_, Hm.out, by rw [hin]; simp⟩
        have h5 : oE = 5 := by rw [HoE.out, HE.out, if_neg (by rw [hna]; simp)]
        refine ⟨h5, ?_⟩
        rw [HoP.out]; unfold shT; rw [if_neg (by rw [← HoE.out, h5]; simp)])
      have wz : IntKind.i64.wrap ((at_ : Int) + (sz : Int)) = (at_ : Int) + (sz : Int) := by rw [IntKind.wrap_i64]; omega
      have hrun : ∀ w, (Instr.slice 22 (.slice A' n' c') (some (.int .i64 (at_ : Int))) (some (.int .i64 ((at_ : Int) + (sz : Int)))) none).run Tryz.prog w = .ok (.slice (cutA A' c' at_ 1) sz (c' - at_)) w := fun w => by
        have := run_cut_lh (P := Tryz.prog) Tryz.underlying22 Hi.out.1 Hi.out.2.2.1 A' n' c' at_ (at_ + sz) (by omega) (by omega) w
        rw [show ((at_ + sz : Nat) : Int) = (at_ : Int) + (sz : Int) by omega, Nat.add_sub_cancel_left] at this
        exact this
      clear hrow
      go_wp2_with fail
      refine Ord.region_ (fun w' => Below w.heap.size w w') false [] (by kernel_rfl) (by kernel_rfl) hb.drew ?_
      replace hb := hb.drew
      replace hown := hown.drew
      generalize wr.drew = w3 at *
      repeat (first | (refine Ord.e_p (v := ?_) rfl (by rfl) ?_ ?_; rotate_left; · (intro w2; go_simp; try with_reducible rfl)) | (refine Ord.e_u (by rfl) ?_)); (try simp only [Act.put, List.setIfInBounds_toArray, List.set_cons_zero, List.set_cons_succ])
      refine Ord.e_rowS Tryz.underlying85 rfl (by kernel_rfl) rfl (by simp) (fun w' hS => Hrow.out w' hS) hb (by rfl) ?_
      (try simp only [Act.put, List.setIfInBounds_toArray, List.set_cons_zero, List.set_cons_succ])
      repeat (first | (refine Ord.e_p (v := ?_) rfl (by rfl) ?_ ?_; rotate_left; · (intro w2; go_simp; try with_reducible rfl)) | (refine Ord.e_u (by rfl) ?_)); (try simp only [Act.put, List.setIfInBounds_toArray, List.set_cons_zero, List.set_cons_succ])
      refine Ord.e_loadS Tryz.underlying3 rfl (fun w' hS => ((show Below _ w w' from hS).cell (p := ⟨gf, off + k * 4, none⟩) hgw).trans h1) hb rfl (by rfl) ?_
      (try simp only [Act.put, List.setIfInBounds_toArray, List.set_cons_zero, List.set_cons_succ])
      repeat (first | (refine Ord.e_p (v := ?_) rfl (by rfl) ?_ ?_; rotate_left; · (intro w2; go_simp; try with_reducible rfl)) | (refine Ord.e_u (by rfl) ?_)); (try simp only [Act.put, List.setIfInBounds_toArray, List.set_cons_zero, List.set_cons_succ])
      refine Ord.e_x rfl (by rfl) ?_
      go_wp2_with fail
      go_fit (Hnumb.out w3 (hcut.up (hb.mono hB')) (Nat.le_trans hB' hb.size))
      rintro e w4 ⟨rfl, hb34⟩
      have hb4 := bnx hb hb34
      have hown4 := own_up hown hb34 (Nat.le_refl _)
      go_wp2_with fail
      refine Ord.Seg.go hb4 (fun h => by cases h) ?_
      (try simp only [Act.put, List.setIfInBounds_toArray, List.set_cons_zero, List.set_cons_succ])
      repeat (first | (refine Ord.e_p (v := ?_) rfl (by rfl) ?_ ?_; rotate_left; · (intro w2; go_simp; try with_reducible rfl)) | (refine Ord.e_u (by rfl) ?_)); (try simp only [Act.put, List.setIfInBounds_toArray, List.set_cons_zero, List.set_cons_succ])
      refine Ord.e_nil ?_
      have e0 := (hb4.cell (p := ⟨gf, off + k * 4, none⟩) hgw).trans h1
      have e2 := (hb4.cell (p := ⟨gf, off + k * 4 + 2, none⟩) hgw).trans h3
      have e3 := (hb4.cell (p := ⟨gf, off + k * 4 + 3, none⟩) hgw).trans h4
      clear hb hb34 hown hrun wz
      cases nk with
      | false =>
        obtain ⟨rfl, rfl⟩ := Hbad.out (Hni.out.2 rfl)
        clear Hbad
        go_wp2
        go_ret2
        exact ⟨none, 0, 0, rfl, World.ownsRow_nil _ _ _ _, hb4⟩
      | true =>
        obtain rfl : nv = x := Hni.out.1 rfl
        rcases (by omega : nv < lo ∨ (¬ nv < lo ∧ hi < nv) ∨ (¬ nv < lo ∧ ¬ hi < nv)) with g1 | ⟨g1, g2⟩ | ⟨g1, g2⟩
        · obtain ⟨rfl, rfl⟩ := Hbad.out (decide_eq_false (by simp only; omega))
          clear Hbad
          go_wp2
          go_ret2
          exact ⟨none, 0, 0, rfl, World.ownsRow_nil _ _ _ _, hb4⟩
        · obtain ⟨rfl, rfl⟩ := Hbad.out (decide_eq_false (by simp only; omega))
          clear Hbad
          go_wp2
          go_ret2
          exact ⟨none, 0, 0, rfl, World.ownsRow_nil _ _ _ _, hb4⟩
        · have HIN : Hid (inF ⟨(sz : Int), sg, lo, hi⟩ nv = true) := Lib.hid (decide_eq_true (by simp only; omega))
          clear Hbad
          have hnew : Rd (w4.alloc (.cells #[.int .i64 nv] 2)) (w4.heap.size + 1) 1 (some ⟨w4.heap.size, 0, none⟩) 1 1 ([nv].map (Value.int .i64)) := rd_lit' w4 2 [.int .i64 nv] (by simp [maxLen])
          have hb5 := hb4.alloc hb4.size (.cells #[.int .i64 nv] 2)
          have hown5 := own_up hown4 (w' := w4.alloc (.cells #[.int .i64 nv] 2)) ((Below.refl _ _).alloc (Nat.le_refl _) _) (Nat.le_refl _)
          go_wp2_with (at_builtin; refine stop_ ?_)
          refine go_ (wpList_app Tryz.underlying24 Hi1.out rfl (by omega) hown5 rfl hnew rfl (fun u hu => by simp at hu; subst hu; rfl) (k := k + 1) rfl (List.map_append).symm (by unfold maxLen; omega) (by omega) hb5.size ?_)
          intro A7 c7 w7 hown7 hB7
          have hb7 := hB7 hb5 hb5.size (Nat.le_refl _)
          rw [← take_succ Hvx.out] at hown7
          have e7 := (hb7.cell (p := ⟨gf, off + k * 4, none⟩) hgw).trans h1
          clear hB7 hown5 hown4 hb5 hb4 e0 e2 e3 hnew
          go_wp2
          go_roundw
          case rel =>
            refine ⟨k + 1, A7, c7, by omega, by go_num, rfl, val_int (by rw [Hst.out]; omega), hown7, hb7, Lib.hid ?_⟩
            rw [Hs.out, List.all_append, hall.out]; simp [HIN.out]
          case measure => simp [intOf]; omega
    · obtain rfl : k = n := by omega
      have ht : (l.zip (takeV l b)).take k = l.zip (takeV l b) := List.take_of_length_le (by rw [List.length_zip, takeV_len, Hl.out]; omega)
      have ht2 : (takeV l b).take k = takeV l b := List.take_of_length_le (by rw [takeV_len, Hl.out]; exact Nat.le_refl _)
      rw [ht] at hall
      rw [ht2] at hown
      have hall2 : inAll l (takeV l b) = true := hall.out
      obtain rfl : oE = 0 := by rw [HoE.out, HE.out, if_pos hall2]
      obtain rfl : oP = takeV l b := by rw [HoP.out]; unfold shT; rw [if_pos HoE.out.symm]
      clear ht ht2 hall2
      go_wp2
      go_ret2
      exact ⟨A6, k, c6, rfl, hown, hb⟩

end Go.Proofs.YtonejdjhdjckjaaGreat

/-
  The law ShapeTells walked.
-/
set_option linter.unusedSimpArgs false
set_option linter.unusedVariables false
namespace Go.Proofs.YtonejdjhdjckjaaGreat
open Go.RowKit NumLaw

set_option maxRecDepth 10000 in
set_option maxHeartbeats 1000000 in
theorem qTake14_any (A : Option Addr) (n c B : Nat) (l : List FieldV) (A' : Option Addr) (n' c' B' : Nat) (b : List UInt8) (w : World) (h : RdF w B A n c l) (hB : B ≤ w.heap.size) (h' : Rd w B' 1 A' n' c' (bv b)) (hB' : B' ≤ w.heap.size) (hn : n ≤ 100000) (hn' : n' ≤ 1000000000) :
    Calls Tryz.prog 38 #[.slice A n c, .slice A' n' c'] w (RetTS w (shT l b) (shTE l b)) := by
  have hlb := h'.blen
  have hright := qRight_any A n c B l w h hB
  have hwidth := fun w' h' hB' => qWidth_any A n c B l w' h' hB' hn
  cases hr : rightL l with
  | false =>
    have e1 : shTE l b = 1 := by unfold shTE; rw [if_neg (by rw [hr]; simp)]
    rw [show shT l b = [] by unfold shT; rw [e1]; rfl, e1]
    rw [hr] at hright
    clear hr e1 hlb hwidth
    go_enter Tryz.func38, Tryz.ntmps38
    go_wp2_with fail
    go_fit hright
    rintro e w1 ⟨rfl, hb1⟩
    go_wp2
    go_ret2
    exact ⟨none, 0, 0, rfl, World.ownsRow_nil _ _ _ _, hb1⟩
  | true =>
    by_cases hlen : n' = sumL l
    · exact qTake14_go A n c B l A' n' c' B' b w h hB h' hB' hn hr hlen
    · have hw : widthL l = sumL l := by unfold widthL; rw [if_pos hr]
      rw [hw] at hwidth
      rw [hr] at hright
      have hs8 : sumL l ≤ 800000 := by
        have := sumL_take hr l.length
        rw [List.take_length, h.1] at this
        omega
      have hE : shTE l b = if n' < sumL l then 2 else 7 := by
        unfold shTE
        rw [if_pos hr, hlb]
        by_cases hlt : n' < sumL l
        · rw [if_pos hlt, if_pos hlt]
        · rw [if_neg hlt, if_neg hlt, if_pos (by omega)]
      generalize sumL l = s at *
      have Hwidth := Lib.hid hwidth
      by_cases hlt : n' < s
      · rw [if_pos hlt] at hE
        rw [show shT l b = [] by unfold shT; rw [hE]; rfl, hE]
        clear hE hr hw hlb hwidth hlen
        go_enter Tryz.func38, Tryz.ntmps38
        go_wp2_with fail
        go_fit hright
        rintro e w1 ⟨rfl, hb1⟩
        go_wp2_with fail
        go_fit (Hwidth.out w1 (h.up (hb1.mono hB)) (Nat.le_trans hB hb1.size))
        rintro e w2 ⟨rfl, hb12⟩
        go_wp2
        go_ret2
        exact ⟨none, 0, 0, rfl, World.ownsRow_nil _ _ _ _, bnx hb1 hb12⟩
      · rw [if_neg hlt] at hE
        rw [show shT l b = [] by unfold shT; rw [hE]; rfl, hE]
        have hgt : s < n' := by omega
        clear hE hr hw hlb hwidth hlen
        go_enter Tryz.func38, Tryz.ntmps38
        go_wp2_with fail
        go_fit hright
        rintro e w1 ⟨rfl, hb1⟩
        go_wp2_with fail
        go_fit (Hwidth.out w1 (h.up (hb1.mono hB)) (Nat.le_trans hB hb1.size))
        rintro e w2 ⟨rfl, hb12⟩
        have hb2 := bnx hb1 hb12
        go_wp2_with fail
        go_fit (Hwidth.out w2 (h.up (hb2.mono hB)) (Nat.le_trans hB hb2.size))
        rintro e w3 ⟨rfl, hb23⟩
        go_wp2
        go_ret2
        exact ⟨none, 0, 0, rfl, World.ownsRow_nil _ _ _ _, bnx hb2 hb23⟩

end Go.Proofs.YtonejdjhdjckjaaGreat
