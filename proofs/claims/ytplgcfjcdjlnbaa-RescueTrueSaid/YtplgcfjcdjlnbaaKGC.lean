/-
  Several texts in one: Vary1 VaryLaw RecLaw RecOpen Vary2 Vary3 Vary4 RecEq.
-/
import Derived.Test.YtplgcfjcdjlnbaaKGA
import Derived.OpenShut
import Derived.Lib.Zigzag
import Derived.ChangeKeysEq
import Derived.Laws.StructEq
/-
  vary: a number in as few bytes as it needs: Put walked, the program's and the document's.
-/
set_option linter.unusedSimpArgs false
set_option linter.unusedVariables false
namespace Go.Proofs.Ytplgcfjcdjlnbaa
open Go.RowKit NumLaw

def varN : Nat → Nat → List UInt8
  | 0, u => [UInt8.ofNat u]
  | k + 1, u => if u < 128 then [UInt8.ofNat u] else UInt8.ofNat (u % 128 + 128) :: varN k (u / 128)
def varB (u : Nat) : List UInt8 := varN 9 u
theorem varN_len (k : Nat) : ∀ u, 1 ≤ (varN k u).length ∧ (varN k u).length ≤ k + 1 := by
  induction k with
  | zero => intro u; simp [varN]
  | succ k ih =>
    intro u
    unfold varN
    split
    · simp
    · have := ih (u / 128)
      simp
      omega
theorem varN_small {k u : Nat} (h : u < 128) : varN k u = [UInt8.ofNat u] := by
  cases k with
  | zero => rfl
  | succ k => unfold varN; rw [if_pos h]
theorem varN_big {k u : Nat} (h : ¬ u < 128) : varN (k + 1) u = UInt8.ofNat (u % 128 + 128) :: varN k (u / 128) := by conv => lhs; unfold varN; rw [if_neg h]
theorem or128 : ∀ v : Fin 256, bits .or .u8 ((v.val : Nat) : Int) 128 = ((v.val % 128 + 128 : Nat) : Int) := by decide +kernel
/-- A pen at block g: its bytes' slice, the bytes. -/
def Pen (w : World) (g : Nat) (v : Value) (l : List UInt8) : Prop :=
  w.heap[g]? = some (.cells #[v] 154) ∧ w.ownsRow (g + 1) 5 1 v l.length (bv l)
theorem u8_one (n : Nat) (h : n < 256) : bv [UInt8.ofNat n] = [.int .u8 (n : Int)] := by
  have e1 : (UInt8.ofNat n).toNat = n := by rw [UInt8.toNat_ofNat']; omega
  simp [bv, e1]

set_option maxRecDepth 10000 in
set_option maxHeartbeats 2000000 in
theorem penput_any (g : Nat) (v : Value) (l : List UInt8) (u : Nat) (w : World) (h : Pen w g v l) (hu : u < 18446744073709551616) (hl : l.length ≤ 1000000) :
    Calls Try.prog 107 #[.pointer (some ⟨g, 0, none⟩), .int .u64 u] w fun e w' => e = .returned (.tuple #[]) ∧ ∃ v', Pen w' g v' (l ++ varB u) ∧ Below g w w' := by
  obtain ⟨i0, hi⟩ := info_parts u8_info
  have Hi := Lib.hid hi
  clear hi
  go_enter Try.func107, Try.ntmps107
  go_wp2_with fail
  go_loopw [1] (fun uv wr => ∃ (j u' : Nat) (A : Option Addr) (m c : Nat) (pre : List UInt8), uv = .int .u64 u' ∧ wr.heap[g]? = some (.cells #[.slice A m c] 154) ∧ wr.ownsRow (g + 1) 5 1 (.slice A m c) m (bv (l ++ pre)) ∧ Below g w wr ∧ j ≤ 9 ∧ Hid (m = l.length + j) ∧ u' * 128 ^ j ≤ u ∧ Hid (varB u = pre ++ varN (9 - j) u')) (fun uv _ => (intOf uv).toNat)
  case atStart =>
    obtain ⟨h1, h2⟩ := h
    obtain ⟨A0, c0, rfl⟩ := own_sl h2
    exact ⟨0, u, A0, l.length, c0, [], rfl, h1, by rw [List.append_nil]; exact h2, Below.refl _ _, by omega, Lib.hid rfl, by omega, Lib.hid rfl⟩
  case round =>
    clear h
    obtain ⟨j, u', A, m, c, pre, rfl, hbl, hown, hb, hj, hm, hbd, hvar⟩ := hrel
    have hgl := blk_lt hbl
    have hu' : u' < 18446744073709551616 := by
      have : u' * 1 ≤ u' * 128 ^ j := Nat.mul_le_mul_left _ (Nat.pow_pos (by omega))
      omega
    have s1 := blk_cell (i := 0) (v := .slice A m c) hbl rfl
    by_cases hge : 128 ≤ u'
    · have hj9 : j < 9 := by
        rcases Nat.lt_or_ge j 9 with h | h
        · exact h
        · obtain rfl : j = 9 := by omega
          have h9 : (128 : Nat) ^ 9 = 9223372036854775808 := by decide
          rw [h9] at hbd
          omega
      have hor := or128 ⟨u' % 256, Nat.mod_lt _ (by omega)⟩
      simp only at hor
      obtain ⟨r, hr⟩ : ∃ r, r = u' % 256 % 128 + 128 := ⟨_, rfl⟩
      rw [← hr] at hor
      have hr8 : r < 256 := by omega
      have hrv : r = u' % 128 + 128 := by omega
      have Hst : Hid (varB u = (pre ++ [UInt8.ofNat r]) ++ varN (9 - (j + 1)) (u' / 128)) := Lib.hid (by
        rw [hvar.out, show 9 - j = (9 - (j + 1)) + 1 by omega]
        rw [varN_big (by omega), hrv]
        simp)
      have hbit : bits .or .u8 ((u' : Int) % 256) 128 = (r : Int) := by rw [show ((u' : Int) % 256) = ((u' % 256 : Nat) : Int) by omega]; exact hor
      have hdv : u' / 128 * 128 ^ (j + 1) ≤ u := by
        rw [Nat.pow_succ, Nat.mul_comm (128 ^ j), ← Nat.mul_assoc]
        exact Nat.le_trans (Nat.mul_le_mul_right _ (Nat.div_mul_le_self u' 128)) hbd
      clear hor hr hrv hvar hbd
      have hnew : Rd (wr.alloc (.cells #[.int .u8 (r : Int)] 5)) (wr.heap.size + 1) 1 (some ⟨wr.heap.size, 0, none⟩) 1 1 (bv [UInt8.ofNat r]) := by
        have := rd_const wr 5 [UInt8.ofNat r] (0, 0) (by simp [maxLen])
        rw [u8_one r hr8] at this ⊢
        exact this
      have hbl2 := (heap_alloc_old wr (.cells #[.int .u8 (r : Int)] 5) hgl).trans hbl
      have hown2 := own_up hown (w' := wr.alloc (.cells #[.int .u8 (r : Int)] 5)) ((Below.refl _ _).alloc (Nat.le_refl _) _) (Nat.le_refl _)
      have hb2 := hb.alloc (by omega) (.cells #[.int .u8 (r : Int)] 5)
      go_wp2_with (at_builtin; refine stop_ ?_)
      have hmj := hm.out
      have hm9 : m ≤ 1000010 := by omega
      clear hmj
      refine go_ (wpList_app Try.underlying26 Hi.out rfl (by omega) hown2 rfl hnew rfl (bv_one _) (k := m + 1) rfl (bv_app _ _).symm (by unfold maxLen; omega) (by omega) (by simp; omega) ?_)
      intro A4 c4 w4 hown4 hB4
      have hb4 := hB4 hb2 (by simp; omega) (by omega)
      have hbl4 := blk_old hbl2 (hB4 (Below.refl (g + 1) _) (by simp; omega) (Nat.le_refl _)) (by omega)
      clear hB4 hown2 hnew hb2 hbl2 s1
      have s1 := blk_cell (i := 0) (v := .slice A m c) hbl4 rfl
      have s2 := blk_free (i := 0) hbl4
      have hbl5 := blk_set (i := 0) hbl4 (.slice A4 (m + 1) c4)
      have hown5 := own_set hown4 (show g < g + 1 by omega) (i := 0) (.slice A4 (m + 1) c4)
      have hb5 := hb4.setCell (p := ⟨g, 0, none⟩) (Nat.le_refl _) (.slice A4 (m + 1) c4)
      go_wp2
      go_roundw
      case rel => exact ⟨j + 1, u' / 128, A4, m + 1, c4, pre ++ [UInt8.ofNat r], val_int (by omega), hbl5, by rw [← List.append_assoc]; exact hown5, hb5, by omega, Lib.hid (by rw [hm.out]; omega), hdv, Hst⟩
      case measure => simp [intOf]; omega
    · have hlt : u' < 128 := by omega
      have Hst : Hid (varB u = pre ++ [UInt8.ofNat u']) := Lib.hid (by rw [hvar.out, varN_small hlt])
      have hcv : IntKind.u8.wrap (u' : Int) = (u' : Int) := by simp [IntKind.wrap, IntKind.bits, IntKind.signed]; omega
      have hmod : (u' : Int) % 256 = (u' : Int) := by omega
      have hnew : Rd (wr.alloc (.cells #[.int .u8 (u' : Int)] 5)) (wr.heap.size + 1) 1 (some ⟨wr.heap.size, 0, none⟩) 1 1 (bv [UInt8.ofNat u']) := by
        have := rd_const wr 5 [UInt8.ofNat u'] (0, 0) (by simp [maxLen])
        rw [u8_one u' (by omega)] at this ⊢
        exact this
      have hbl2 := (heap_alloc_old wr (.cells #[.int .u8 (u' : Int)] 5) hgl).trans hbl
      have hown2 := own_up hown (w' := wr.alloc (.cells #[.int .u8 (u' : Int)] 5)) ((Below.refl _ _).alloc (Nat.le_refl _) _) (Nat.le_refl _)
      have hb2 := hb.alloc (by omega) (.cells #[.int .u8 (u' : Int)] 5)
      clear hvar hbd
      go_wp2_with (at_builtin; refine stop_ ?_)
      have hmj := hm.out
      have hm9 : m ≤ 1000010 := by omega
      clear hmj
      refine go_ (wpList_app Try.underlying26 Hi.out rfl (by omega) hown2 rfl hnew rfl (bv_one _) (k := m + 1) rfl (bv_app _ _).symm (by unfold maxLen; omega) (by omega) (by simp; omega) ?_)
      intro A4 c4 w4 hown4 hB4
      have hb4 := hB4 hb2 (by simp; omega) (by omega)
      have hbl4 := blk_old hbl2 (hB4 (Below.refl (g + 1) _) (by simp; omega) (Nat.le_refl _)) (by omega)
      clear hB4 hown2 hnew hb2 hbl2 s1
      have s1 := blk_cell (i := 0) (v := .slice A m c) hbl4 rfl
      have s2 := blk_free (i := 0) hbl4
      have hbl5 := blk_set (i := 0) hbl4 (.slice A4 (m + 1) c4)
      have hown5 := own_set hown4 (show g < g + 1 by omega) (i := 0) (.slice A4 (m + 1) c4)
      have hb5 := hb4.setCell (p := ⟨g, 0, none⟩) (Nat.le_refl _) (.slice A4 (m + 1) c4)
      rw [List.append_assoc, ← Hst.out] at hown5
      have hlen := own_len hown5
      go_wp2
      ((try simp only [Exit.inBlock, Exit.then]); refine bodyPost_end (results_none rfl _ _ _) rfl ?_)
      exact ⟨rfl, _, ⟨hbl5, by rw [hlen]; exact hown5⟩, hb5⟩

end Go.Proofs.Ytplgcfjcdjlnbaa

/-
  vary: the plain law: what is put is taken, what is taken, put, is those bytes; zig and zag.
-/
set_option linter.unusedSimpArgs false
set_option linter.unusedVariables false
namespace Go.Proofs.Ytplgcfjcdjlnbaa
open Go.RowKit NumLaw

/-- The number that bytes begin with, from place i on: the number, how many bytes, the error. -/
def varTL : Nat → List UInt8 → Nat × Nat × Nat
  | _, [] => (0, 0, 2)
  | i, c :: r => if (i = 9 ∧ 1 < c.toNat) ∨ (c.toNat = 0 ∧ 0 < i) then (0, 0, 3) else if c.toNat < 128 then (c.toNat, 1, 0) else
      if (varTL (i + 1) r).2.2 = 0 then (c.toNat - 128 + 128 * (varTL (i + 1) r).1, (varTL (i + 1) r).2.1 + 1, 0) else (0, 0, (varTL (i + 1) r).2.2)
def varT (b : List UInt8) : Nat × Nat × Nat := varTL 0 b
theorem varTL_bad {i : Nat} {c : UInt8} {r : List UInt8} (h : (i = 9 ∧ 1 < c.toNat) ∨ (c.toNat = 0 ∧ 0 < i)) : varTL i (c :: r) = (0, 0, 3) := by unfold varTL; rw [if_pos h]
theorem varTL_end {i : Nat} {c : UInt8} {r : List UInt8} (h : ¬ ((i = 9 ∧ 1 < c.toNat) ∨ (c.toNat = 0 ∧ 0 < i))) (h2 : c.toNat < 128) : varTL i (c :: r) = (c.toNat, 1, 0) := by unfold varTL; rw [if_neg h, if_pos h2]
theorem varTL_more {i : Nat} {c : UInt8} {r : List UInt8} (h : ¬ ((i = 9 ∧ 1 < c.toNat) ∨ (c.toNat = 0 ∧ 0 < i))) (h2 : ¬ c.toNat < 128) :
    varTL i (c :: r) = if (varTL (i + 1) r).2.2 = 0 then (c.toNat - 128 + 128 * (varTL (i + 1) r).1, (varTL (i + 1) r).2.1 + 1, 0) else (0, 0, (varTL (i + 1) r).2.2) := by
  conv => lhs; unfold varTL
  rw [if_neg h, if_neg h2]
theorem le_cases9 {i : Nat} (h : i ≤ 9) : i = 0 ∨ i = 1 ∨ i = 2 ∨ i = 3 ∨ i = 4 ∨ i = 5 ∨ i = 6 ∨ i = 7 ∨ i = 8 ∨ i = 9 := by omega
theorem ofNat_toNat8 {n : Nat} (h : n < 256) : (UInt8.ofNat n).toNat = n := by rw [UInt8.toNat_ofNat']; omega
theorem varTL_there (k : Nat) : ∀ (i u : Nat) (R : List UInt8), i + k = 9 → (0 < i → 0 < u) → u * 128 ^ i < 18446744073709551616 → varTL i (varN k u ++ R) = (u, (varN k u).length, 0) := by
  induction k with
  | zero =>
    intro i u R hi h0 hb
    obtain rfl : i = 9 := by omega
    have h9 : (128 : Nat) ^ 9 = 9223372036854775808 := by decide
    rw [h9] at hb
    have := h0 (by omega)
    have e := ofNat_toNat8 (n := u) (by omega)
    show varTL 9 (UInt8.ofNat u :: R) = _
    rw [varTL_end (by rw [e]; omega) (by rw [e]; omega), e]
    rfl
  | succ k ih =>
    intro i u R hi h0 hb
    by_cases h : u < 128
    · have e := ofNat_toNat8 (n := u) (by omega)
      rw [varN_small h]
      show varTL i (UInt8.ofNat u :: R) = _
      rw [varTL_end (by rw [e]; omega) (by rw [e]; omega), e]
      rfl
    · have e := ofNat_toNat8 (n := u % 128 + 128) (by omega)
      have hd : u / 128 * 128 ^ (i + 1) ≤ u * 128 ^ i := by
        rw [Nat.pow_succ, Nat.mul_comm (128 ^ i), ← Nat.mul_assoc]
        exact Nat.mul_le_mul_right _ (Nat.div_mul_le_self u 128)
      rw [varN_big h]
      show varTL i (UInt8.ofNat (u % 128 + 128) :: (varN k (u / 128) ++ R)) = _
      rw [varTL_more (by rw [e]; omega) (by rw [e]; omega), ih (i + 1) (u / 128) R (by omega) (fun _ => by omega) (by omega), if_pos rfl, e]
      simp only [List.length_cons, Prod.mk.injEq, and_true]
      omega
theorem varT_there (u : Nat) (R : List UInt8) (hu : u < 18446744073709551616) : varT (varB u ++ R) = (u, (varB u).length, 0) := varTL_there 9 0 u R rfl (fun h => absurd h (by omega)) (by omega)
theorem var_bound {i d u : Nat} (hi : i ≤ 8) (hd : d < 128) (h : u * 128 ^ (i + 1) < 18446744073709551616) : (d + 128 * u) * 128 ^ i < 18446744073709551616 := by
  obtain ⟨M, hM⟩ : ∃ M, 128 ^ (i + 1) * M = 18446744073709551616 := by
    refine ⟨18446744073709551616 / 128 ^ (i + 1), ?_⟩
    rcases (by omega : i = 0 ∨ i = 1 ∨ i = 2 ∨ i = 3 ∨ i = 4 ∨ i = 5 ∨ i = 6 ∨ i = 7 ∨ i = 8) with rfl | rfl | rfl | rfl | rfl | rfl | rfl | rfl | rfl <;> decide
  have hu : u < M := by
    rw [← hM, Nat.mul_comm] at h
    exact Nat.lt_of_mul_lt_mul_left h
  have h1 : (d + 128 * u) * 128 ^ i < (128 * M) * 128 ^ i := Nat.mul_lt_mul_of_pos_right (by omega) (Nat.pow_pos (by omega))
  rw [show (128 * M) * 128 ^ i = 128 ^ (i + 1) * M by rw [Nat.pow_succ]; ac_rfl, hM] at h1
  exact h1
theorem varTL_back : ∀ (b : List UInt8) (i k : Nat), i + k = 9 → (varTL i b).2.2 = 0 →
    b.take (varTL i b).2.1 = varN k (varTL i b).1 ∧ (varTL i b).2.1 ≤ b.length ∧ 1 ≤ (varTL i b).2.1 ∧ (0 < i → 0 < (varTL i b).1) ∧ (varTL i b).1 * 128 ^ i < 18446744073709551616
  | [], i, k, _, h => by simp [varTL] at h
  | c :: r, i, k, hi, h => by
    have hc := c.toNat_lt
    by_cases h1 : (i = 9 ∧ 1 < c.toNat) ∨ (c.toNat = 0 ∧ 0 < i)
    · rw [varTL_bad h1] at h; simp at h
    by_cases h2 : c.toNat < 128
    · rw [varTL_end h1 h2]
      refine ⟨?_, by simp, by simp, fun _ => by simp only; omega, ?_⟩
      · rw [varN_small (by simpa using h2)]
        simp
      · simp only
        rcases le_cases9 (show i ≤ 9 by omega) with rfl | rfl | rfl | rfl | rfl | rfl | rfl | rfl | rfl | rfl <;> simp at h1 ⊢ <;> omega
    · rw [varTL_more h1 h2] at h ⊢
      by_cases h3 : (varTL (i + 1) r).2.2 = 0
      · rw [if_pos h3]
        obtain ⟨k', rfl⟩ : ∃ k', k = k' + 1 := ⟨k - 1, by omega⟩
        obtain ⟨a1, a2, a3, a4, a5⟩ := varTL_back r (i + 1) k' (by omega) h3
        generalize (varTL (i + 1) r).1 = u' at *
        generalize (varTL (i + 1) r).2.1 = n' at *
        have hu := a4 (by omega)
        refine ⟨?_, by simp only [List.length_cons]; omega, by simp only; omega, fun _ => by simp only; omega, ?_⟩
        · simp only
          rw [varN_big (by omega), List.take_succ_cons, a1]
          have e1 : (c.toNat - 128 + 128 * u') % 128 + 128 = c.toNat := by omega
          have e2 : (c.toNat - 128 + 128 * u') / 128 = u' := by omega
          rw [e1, e2]
          simp
        · exact var_bound (by omega) (by omega) a5
      · rw [if_neg h3] at h
        exact absurd h h3
theorem varT_back {b : List UInt8} (h : (varT b).2.2 = 0) : b.take (varT b).2.1 = varB (varT b).1 ∧ (varT b).2.1 ≤ b.length ∧ 1 ≤ (varT b).2.1 ∧ (varT b).1 < 18446744073709551616 := by
  obtain ⟨a1, a2, a3, _, a5⟩ := varTL_back b 0 9 rfl h
  exact ⟨a1, a2, a3, by rw [Nat.pow_zero, Nat.mul_one] at a5; exact a5⟩
theorem varTL_none : ∀ (b : List UInt8) (i : Nat), (varTL i b).2.2 ≠ 0 → (varTL i b).1 = 0 ∧ (varTL i b).2.1 = 0
  | [], i, _ => ⟨rfl, rfl⟩
  | c :: r, i, h => by
    by_cases h1 : (i = 9 ∧ 1 < c.toNat) ∨ (c.toNat = 0 ∧ 0 < i)
    · rw [varTL_bad h1]; exact ⟨rfl, rfl⟩
    by_cases h2 : c.toNat < 128
    · rw [varTL_end h1 h2] at h; exact absurd rfl h
    · rw [varTL_more h1 h2] at h ⊢
      by_cases h3 : (varTL (i + 1) r).2.2 = 0
      · rw [if_pos h3] at h; exact absurd rfl h
      · rw [if_neg h3]; exact ⟨rfl, rfl⟩
/-- Zig and zag. -/
def zigV (n : Int) : Nat := if n < 0 then (2 * (-(n + 1)) + 1).toNat else (2 * n).toNat
def zagV (u : Nat) : Int := if u % 2 = 1 then -((u / 2 : Nat) : Int) - 1 else ((u / 2 : Nat) : Int)
theorem zag_zig (n : Int) : zagV (zigV n) = n := by
  unfold zigV zagV
  split <;> split <;> omega
theorem zig_zag (u : Nat) : zigV (zagV u) = u := by
  unfold zigV zagV
  split <;> split <;> omega
theorem zig_lt {n : Int} (h : -9223372036854775808 ≤ n ∧ n ≤ 9223372036854775807) : zigV n < 18446744073709551616 := by
  unfold zigV
  split <;> omega
theorem zag_in {u : Nat} (h : u < 18446744073709551616) : -9223372036854775808 ≤ zagV u ∧ zagV u ≤ 9223372036854775807 := by
  unfold zagV
  split <;> omega

end Go.Proofs.Ytplgcfjcdjlnbaa

/-
  The plain law of layer 34: a record by what changed, there and back.
-/
set_option linter.unusedSimpArgs false
set_option linter.unusedVariables false
namespace Go.Proofs.Ytplgcfjcdjlnbaa
open Go.RowKit NumLaw

def in32 (x : Int) : Prop := -2147483648 ≤ x ∧ x ≤ 2147483647
/-- The record's bytes, whole. -/
def recK (t : Nat) (V : List Int) : List UInt8 := bytesN 4 t ++ V.flatMap fun x => bytesN 4 (un x)
/-- By how much the numbers change, and which do. -/
def chL : List (Int × Int) → List Int
  | [] => []
  | p :: l => if p.1 = p.2 then chL l else (p.2 - p.1) :: chL l
def mkL : List (Int × Int) → Nat
  | [] => 0
  | p :: l => (if p.1 = p.2 then 0 else 1) + 2 * mkL l
def laterN (a b : Nat) : Nat := (b + 4294967296 - a) % 4294967296
def chB (l : List (Int × Int)) : List UInt8 := (chL l).flatMap fun d => varB (zigV d)
def recD (t : Nat) (V : List Int) (t' : Nat) (V' : List Int) : List UInt8 := varB (laterN t t') ++ (varB (mkL (V.zip V')) ++ chB (V.zip V'))
/-- The numbers of bytes: the numbers, how many bytes, the error. -/
def tdL : List Int → Nat → List UInt8 → List Int × Nat × Nat
  | [], _, _ => ([], 0, 0)
  | x :: l, m, b => if m % 2 = 1 then
      if (varT b).2.2 = 0 then
        if zagV (varT b).1 = 0 ∨ x + zagV (varT b).1 < -2147483648 ∨ 2147483647 < x + zagV (varT b).1 then ([], 0, 5) else
        if (tdL l (m / 2) (b.drop (varT b).2.1)).2.2 = 0 then ((x + zagV (varT b).1) :: (tdL l (m / 2) (b.drop (varT b).2.1)).1, (varT b).2.1 + (tdL l (m / 2) (b.drop (varT b).2.1)).2.1, 0) else ([], 0, (tdL l (m / 2) (b.drop (varT b).2.1)).2.2)
      else ([], 0, (varT b).2.2)
    else if (tdL l (m / 2) b).2.2 = 0 then (x :: (tdL l (m / 2) b).1, (tdL l (m / 2) b).2.1, 0) else ([], 0, (tdL l (m / 2) b).2.2)
/-- The error of bytes, by what changed. -/
def recTE (V : List Int) (b : List UInt8) : Nat :=
  if (varT b).2.2 = 0 then if 4294967295 < (varT b).1 then 5 else
    if (varT (b.drop (varT b).2.1)).2.2 = 0 then if 4095 < (varT (b.drop (varT b).2.1)).1 then 5 else
      (tdL V (varT (b.drop (varT b).2.1)).1 ((b.drop (varT b).2.1).drop (varT (b.drop (varT b).2.1)).2.1)).2.2
    else (varT (b.drop (varT b).2.1)).2.2
  else (varT b).2.2
def recTt (t : Nat) (V : List Int) (b : List UInt8) : Nat := if recTE V b = 0 then (t + (varT b).1) % 4294967296 else 0
def recTV (V : List Int) (b : List UInt8) : List Int :=
  if recTE V b = 0 then (tdL V (varT (b.drop (varT b).2.1)).1 ((b.drop (varT b).2.1).drop (varT (b.drop (varT b).2.1)).2.1)).1 else List.replicate 12 0
def recTn (V : List Int) (b : List UInt8) : Nat :=
  if recTE V b = 0 then (varT b).2.1 + (varT (b.drop (varT b).2.1)).2.1 + (tdL V (varT (b.drop (varT b).2.1)).1 ((b.drop (varT b).2.1).drop (varT (b.drop (varT b).2.1)).2.1)).2.1 else 0

theorem tdL_skip {x : Int} {l : List Int} {m : Nat} {b : List UInt8} (h : ¬ m % 2 = 1) : tdL (x :: l) m b = if (tdL l (m / 2) b).2.2 = 0 then (x :: (tdL l (m / 2) b).1, (tdL l (m / 2) b).2.1, 0) else ([], 0, (tdL l (m / 2) b).2.2) := by
  conv => lhs; unfold tdL
  rw [if_neg h]
theorem tdL_err {x : Int} {l : List Int} {m : Nat} {b : List UInt8} (h : m % 2 = 1) (h2 : (varT b).2.2 ≠ 0) : tdL (x :: l) m b = ([], 0, (varT b).2.2) := by
  conv => lhs; unfold tdL
  rw [if_pos h, if_neg h2]
theorem tdL_rng {x : Int} {l : List Int} {m : Nat} {b : List UInt8} (h : m % 2 = 1) (h2 : (varT b).2.2 = 0) (h3 : zagV (varT b).1 = 0 ∨ x + zagV (varT b).1 < -2147483648 ∨ 2147483647 < x + zagV (varT b).1) : tdL (x :: l) m b = ([], 0, 5) := by
  conv => lhs; unfold tdL
  rw [if_pos h, if_pos h2, if_pos h3]
theorem tdL_one {x : Int} {l : List Int} {m : Nat} {b : List UInt8} (h : m % 2 = 1) (h2 : (varT b).2.2 = 0) (h3 : ¬ (zagV (varT b).1 = 0 ∨ x + zagV (varT b).1 < -2147483648 ∨ 2147483647 < x + zagV (varT b).1)) :
    tdL (x :: l) m b = if (tdL l (m / 2) (b.drop (varT b).2.1)).2.2 = 0 then ((x + zagV (varT b).1) :: (tdL l (m / 2) (b.drop (varT b).2.1)).1, (varT b).2.1 + (tdL l (m / 2) (b.drop (varT b).2.1)).2.1, 0) else ([], 0, (tdL l (m / 2) (b.drop (varT b).2.1)).2.2) := by
  conv => lhs; unfold tdL
  rw [if_pos h, if_pos h2, if_neg h3]
theorem tdL_there : ∀ (V V' : List Int) (R : List UInt8), V.length = V'.length → (∀ x ∈ V, in32 x) → (∀ x ∈ V', in32 x) → tdL V (mkL (V.zip V')) (chB (V.zip V') ++ R) = (V', (chB (V.zip V')).length, 0)
  | [], [], R, _, _, _ => rfl
  | [], y :: V', R, h, _, _ => by simp at h
  | x :: V, [], R, h, _, _ => by simp at h
  | x :: V, y :: V', R, h, hx, hy => by
    have ih := tdL_there V V' R (by simpa using h) (fun z hz => hx z (List.mem_cons_of_mem _ hz)) (fun z hz => hy z (List.mem_cons_of_mem _ hz))
    have h1 := hx x List.mem_cons_self
    have h2 := hy y List.mem_cons_self
    unfold in32 at h1 h2
    by_cases e : x = y
    · subst e
      have em : mkL ((x :: V).zip (x :: V')) = 2 * mkL (V.zip V') := by
        show (if x = x then 0 else 1) + 2 * mkL (V.zip V') = _
        rw [if_pos rfl, Nat.zero_add]
      have ec : chB ((x :: V).zip (x :: V')) = chB (V.zip V') := by
        unfold chB
        show List.flatMap _ (if x = x then _ else _) = _
        rw [if_pos rfl]
        rfl
      rw [em, ec, tdL_skip (by omega), Nat.mul_div_cancel_left _ (by omega), ih, if_pos rfl]
    · have em : mkL ((x :: V).zip (y :: V')) = 1 + 2 * mkL (V.zip V') := by
        show (if x = y then 0 else 1) + 2 * mkL (V.zip V') = _
        rw [if_neg e]
      have ec : chB ((x :: V).zip (y :: V')) = varB (zigV (y - x)) ++ chB (V.zip V') := by
        unfold chB
        show List.flatMap _ (if x = y then _ else _) = _
        rw [if_neg e]
        rfl
      have hv := varT_there (zigV (y - x)) (chB (V.zip V') ++ R) (zig_lt (by omega))
      rw [em, ec, List.append_assoc, tdL_one (by omega) (by rw [hv]) (by rw [hv, zag_zig]; omega), hv, zag_zig]
      simp only
      rw [show (1 + 2 * mkL (V.zip V')) / 2 = mkL (V.zip V') by omega, List.drop_append_of_le_length (Nat.le_refl _), List.drop_length, List.nil_append, ih, if_pos rfl, List.length_append]
      simp only [Prod.mk.injEq, List.cons.injEq, and_true]
      omega
theorem mkL_lt : ∀ (l : List (Int × Int)), mkL l < 2 ^ l.length
  | [] => by simp [mkL]
  | p :: l => by
    have := mkL_lt l
    unfold mkL
    rw [List.length_cons, Nat.pow_succ]
    split <;> omega
theorem tdL_back : ∀ (V : List Int) (m : Nat) (b : List UInt8), m < 2 ^ V.length → (∀ x ∈ V, in32 x) → (tdL V m b).2.2 = 0 →
    mkL (V.zip (tdL V m b).1) = m ∧ chB (V.zip (tdL V m b).1) = b.take (tdL V m b).2.1 ∧ (tdL V m b).2.1 ≤ b.length ∧ (tdL V m b).1.length = V.length ∧ ∀ x ∈ (tdL V m b).1, in32 x
  | [], m, b, hm, _, _ => by
    simp at hm
    subst hm
    simp [tdL, mkL, chB, chL]
  | x :: V, m, b, hm, hx, h => by
    have h1 := hx x List.mem_cons_self
    have hx' : ∀ z ∈ V, in32 z := fun z hz => hx z (List.mem_cons_of_mem _ hz)
    rw [List.length_cons, Nat.pow_succ] at hm
    by_cases hb : m % 2 = 1
    · by_cases h2 : (varT b).2.2 = 0
      · by_cases h3 : zagV (varT b).1 = 0 ∨ x + zagV (varT b).1 < -2147483648 ∨ 2147483647 < x + zagV (varT b).1
        · rw [tdL_rng hb h2 h3] at h; simp at h
        · rw [tdL_one hb h2 h3] at h ⊢
          by_cases h4 : (tdL V (m / 2) (b.drop (varT b).2.1)).2.2 = 0
          · rw [if_pos h4]
            obtain ⟨a1, a2, a3, a4, a5⟩ := tdL_back V (m / 2) _ (by omega) hx' h4
            obtain ⟨v1, v2, v3, v4⟩ := varT_back h2
            generalize tdL V (m / 2) (b.drop (varT b).2.1) = q at *
            generalize (varT b).2.1 = n at *
            have hzz : zigV (zagV (varT b).1) = (varT b).1 := zig_zag _
            generalize (varT b).1 = u at *
            refine ⟨?_, ?_, ?_, by simp [a4], ?_⟩
            · show (if x = x + zagV u then 0 else 1) + 2 * mkL (V.zip q.1) = m
              rw [if_neg (by omega), a1]
              omega
            · have ec : chB ((x :: V).zip ((x + zagV u) :: q.1)) = varB (zigV (x + zagV u - x)) ++ chB (V.zip q.1) := by
                unfold chB
                show List.flatMap _ (if x = x + zagV u then _ else _) = _
                rw [if_neg (by omega)]
                rfl
              show chB ((x :: V).zip ((x + zagV u) :: q.1)) = b.take (n + q.2.1)
              rw [ec, show x + zagV u - x = zagV u by omega, hzz, a2, ← v1, List.take_add]
            · rw [List.length_drop] at a3
              show n + q.2.1 ≤ b.length
              omega
            · intro z hz
              rcases List.mem_cons.1 hz with rfl | hz
              · unfold in32; omega
              · exact a5 z hz
          · rw [if_neg h4] at h; exact absurd h h4
      · rw [tdL_err hb h2] at h; exact absurd h h2
    · rw [tdL_skip hb] at h ⊢
      by_cases h4 : (tdL V (m / 2) b).2.2 = 0
      · rw [if_pos h4]
        obtain ⟨a1, a2, a3, a4, a5⟩ := tdL_back V (m / 2) b (by omega) hx' h4
        generalize tdL V (m / 2) b = q at *
        refine ⟨?_, ?_, a3, by simp [a4], ?_⟩
        · show (if x = x then 0 else 1) + 2 * mkL (V.zip q.1) = m
          rw [if_pos rfl, a1]
          omega
        · have ec : chB ((x :: V).zip (x :: q.1)) = chB (V.zip q.1) := by
            unfold chB
            show List.flatMap _ (if x = x then _ else _) = _
            rw [if_pos rfl]
            rfl
          show chB ((x :: V).zip (x :: q.1)) = b.take q.2.1
          rw [ec, a2]
        · intro z hz
          rcases List.mem_cons.1 hz with rfl | hz
          · exact h1
          · exact a5 z hz
      · rw [if_neg h4] at h; exact absurd h h4
theorem later_back {a b : Nat} (ha : a < 4294967296) (hb : b < 4294967296) : (a + laterN a b) % 4294967296 = b := by unfold laterN; omega
theorem later_there {a d : Nat} (ha : a < 4294967296) (hd : d < 4294967296) : laterN a ((a + d) % 4294967296) = d := by unfold laterN; omega
theorem later_lt (a b : Nat) : laterN a b < 4294967296 := by unfold laterN; omega
/-- What is laid is taken, whatever stands behind it. -/
theorem rec_there {t t' : Nat} {V V' : List Int} (R : List UInt8) (ht : t < 4294967296) (ht' : t' < 4294967296) (hl : V.length = 12) (hl' : V'.length = 12) (hV : ∀ x ∈ V, in32 x) (hV' : ∀ x ∈ V', in32 x) :
    recTE V (recD t V t' V' ++ R) = 0 ∧ recTt t V (recD t V t' V' ++ R) = t' ∧ recTV V (recD t V t' V' ++ R) = V' ∧ recTn V (recD t V t' V' ++ R) = (recD t V t' V').length := by
  have hk := mkL_lt (V.zip V')
  have hzl : (V.zip V').length = 12 := by rw [List.length_zip, hl, hl']; rfl
  rw [hzl] at hk
  have hk : mkL (V.zip V') < 4096 := hk
  have e0 : recD t V t' V' ++ R = varB (laterN t t') ++ (varB (mkL (V.zip V')) ++ (chB (V.zip V') ++ R)) := by unfold recD; simp [List.append_assoc]
  have l0 : (recD t V t' V').length = (varB (laterN t t')).length + ((varB (mkL (V.zip V'))).length + (chB (V.zip V')).length) := by unfold recD; rw [List.length_append, List.length_append]
  have hlt := later_lt t t'
  have v1 := varT_there (laterN t t') (varB (mkL (V.zip V')) ++ (chB (V.zip V') ++ R)) (by omega)
  have v2 := varT_there (mkL (V.zip V')) (chB (V.zip V') ++ R) (by omega)
  have v3 := tdL_there V V' R (by omega) hV hV'
  have d1 : (varB (laterN t t') ++ (varB (mkL (V.zip V')) ++ (chB (V.zip V') ++ R))).drop (varB (laterN t t')).length = varB (mkL (V.zip V')) ++ (chB (V.zip V') ++ R) := by
    rw [List.drop_append_of_le_length (Nat.le_refl _), List.drop_length, List.nil_append]
  have d2 : (varB (mkL (V.zip V')) ++ (chB (V.zip V') ++ R)).drop (varB (mkL (V.zip V'))).length = chB (V.zip V') ++ R := by
    rw [List.drop_append_of_le_length (Nat.le_refl _), List.drop_length, List.nil_append]
  have hE : recTE V (recD t V t' V' ++ R) = 0 := by
    unfold recTE
    rw [e0, v1]
    simp only [if_true]
    rw [if_neg (by omega), d1, v2]
    simp only [if_true]
    rw [if_neg (by omega), d2, v3]
  refine ⟨hE, ?_, ?_, ?_⟩
  · unfold recTt
    rw [if_pos hE, e0, v1]
    exact later_back ht ht'
  · unfold recTV
    rw [if_pos hE, e0, v1]
    simp only
    rw [d1, v2]
    simp only
    rw [d2, v3]
  · unfold recTn
    rw [if_pos hE, e0, v1]
    simp only
    rw [d1, v2]
    simp only
    rw [d2, v3, l0]
    simp only
    omega
/-- What is taken, laid, is those bytes. -/
theorem rec_back {t : Nat} {V : List Int} {b : List UInt8} (ht : t < 4294967296) (hl : V.length = 12) (hV : ∀ x ∈ V, in32 x) (h : recTE V b = 0) :
    recD t V (recTt t V b) (recTV V b) = b.take (recTn V b) ∧ recTn V b ≤ b.length ∧ 2 ≤ recTn V b ∧ (recTV V b).length = 12 ∧ (∀ x ∈ recTV V b, in32 x) ∧ recTt t V b < 4294967296 := by
  have et : recTt t V b = (t + (varT b).1) % 4294967296 := by unfold recTt; rw [if_pos h]
  have eV : recTV V b = (tdL V (varT (b.drop (varT b).2.1)).1 ((b.drop (varT b).2.1).drop (varT (b.drop (varT b).2.1)).2.1)).1 := by unfold recTV; rw [if_pos h]
  have en : recTn V b = (varT b).2.1 + (varT (b.drop (varT b).2.1)).2.1 + (tdL V (varT (b.drop (varT b).2.1)).1 ((b.drop (varT b).2.1).drop (varT (b.drop (varT b).2.1)).2.1)).2.1 := by unfold recTn; rw [if_pos h]
  rw [et, eV, en]
  clear et eV en
  unfold recTE at h
  split at h
  · rename_i h1
    split at h
    · cases h
    · rename_i h2
      split at h
      · rename_i h3
        split at h
        · cases h
        · rename_i h4
          obtain ⟨p1, p2, p3, p4⟩ := varT_back h1
          obtain ⟨q1, q2, q3, q4⟩ := varT_back h3
          obtain ⟨a1, a2, a3, a4, a5⟩ := tdL_back V _ _ (by rw [hl]; show _ < 4096; omega) hV h
          generalize (varT b).2.1 = n1 at *
          generalize (varT b).1 = u1 at *
          generalize hb1 : b.drop n1 = b1 at *
          generalize (varT b1).2.1 = n2 at *
          generalize (varT b1).1 = u2 at *
          generalize hb2 : b1.drop n2 = b2 at *
          generalize tdL V u2 b2 = q at *
          have k1 : b1.length = b.length - n1 := by rw [← hb1, List.length_drop]
          have k2 : b2.length = b1.length - n2 := by rw [← hb2, List.length_drop]
          refine ⟨?_, by omega, by omega, a4.trans hl, a5, by omega⟩
          unfold recD
          rw [later_there ht (by omega), a1, a2, ← p1, ← q1, show n1 + n2 + q.2.1 = n1 + (n2 + q.2.1) by omega, List.take_add, hb1, List.take_add, hb2]
      · rename_i h3; exact absurd h h3
  · rename_i h1; exact absurd h h1
/-- How many bytes. -/
theorem varN_short (k : Nat) : ∀ (j u : Nat), u < 128 ^ (j + 1) → (varN k u).length ≤ j + 1 := by
  induction k with
  | zero => intro j u _; show 1 ≤ _; omega
  | succ k ih =>
    intro j u h
    by_cases hu : u < 128
    · rw [varN_small hu]; show 1 ≤ _; omega
    · rw [varN_big hu, List.length_cons]
      cases j with
      | zero => rw [Nat.zero_add, Nat.pow_one] at h; exact absurd h hu
      | succ j =>
        have := ih j (u / 128) (by rw [Nat.pow_succ] at h; exact Nat.div_lt_of_lt_mul (by rw [Nat.mul_comm]; exact h))
        omega
theorem varB_short {u : Nat} (j : Nat) (h : u < 128 ^ (j + 1)) : (varB u).length ≤ j + 1 := varN_short 9 j u h
theorem varB_pos (u : Nat) : 1 ≤ (varB u).length := (varN_len 9 u).1
theorem chB_len : ∀ (l : List (Int × Int)), (∀ p ∈ l, in32 p.1 ∧ in32 p.2) → (chB l).length ≤ 5 * l.length
  | [], _ => by simp [chB, chL]
  | p :: l, h => by
    have ih := chB_len l (fun q hq => h q (List.mem_cons_of_mem _ hq))
    obtain ⟨h1, h2⟩ := h p List.mem_cons_self
    unfold in32 at h1 h2
    by_cases e : p.1 = p.2
    · have ec : chB (p :: l) = chB l := by
        unfold chB
        show List.flatMap _ (if p.1 = p.2 then _ else _) = _
        rw [if_pos e]
      rw [ec, List.length_cons]
      omega
    · have ec : chB (p :: l) = varB (zigV (p.2 - p.1)) ++ chB l := by
        unfold chB
        show List.flatMap _ (if p.1 = p.2 then _ else _) = _
        rw [if_neg e]
        rfl
      have := varB_short (u := zigV (p.2 - p.1)) 4 (by
        show _ < 34359738368
        unfold zigV
        split <;> omega)
      rw [ec, List.length_append, List.length_cons]
      omega
theorem recD_len {t t' : Nat} {V V' : List Int} (hl : V.length = 12) (hl' : V'.length = 12) (hV : ∀ x ∈ V, in32 x) (hV' : ∀ x ∈ V', in32 x) : 2 ≤ (recD t V t' V').length ∧ (recD t V t' V').length ≤ 67 := by
  have hk := mkL_lt (V.zip V')
  have hzl : (V.zip V').length = 12 := by rw [List.length_zip, hl, hl']; rfl
  rw [hzl] at hk
  have hk : mkL (V.zip V') < 4096 := hk
  have hlt := later_lt t t'
  have a1 := varB_short (u := laterN t t') 4 (by show _ < 34359738368; omega)
  have a2 := varB_short (u := mkL (V.zip V')) 1 (by show _ < 16384; omega)
  have a3 := chB_len (V.zip V') (fun p hp => ⟨hV _ (List.of_mem_zip hp).1, hV' _ (List.of_mem_zip hp).2⟩)
  have b1 := varB_pos (laterN t t')
  have b2 := varB_pos (mkL (V.zip V'))
  unfold recD
  rw [List.length_append, List.length_append]
  omega
theorem mkL_same : ∀ (V : List Int), mkL (V.zip V) = 0 ∧ chL (V.zip V) = []
  | [] => ⟨rfl, rfl⟩
  | x :: V => by
    obtain ⟨h1, h2⟩ := mkL_same V
    constructor
    · show (if x = x then 0 else 1) + 2 * mkL (V.zip V) = 0
      rw [if_pos rfl, h1]
    · show (if x = x then chL (V.zip V) else _) = []
      rw [if_pos rfl, h2]
theorem recD_two {t d : Nat} {V : List Int} (ht : t < 4294967296) (hd : d < 128) : (recD t V ((t + d) % 4294967296) V).length = 2 := by
  obtain ⟨h1, h2⟩ := mkL_same V
  unfold recD chB
  rw [later_there ht (by omega), h1, h2]
  unfold varB
  rw [varN_small hd, varN_small (by omega)]
  rfl

end Go.Proofs.Ytplgcfjcdjlnbaa

/-
  A record that came in, opened.
-/
set_option linter.unusedSimpArgs false
set_option linter.unusedVariables false
namespace Go.Proofs.Ytplgcfjcdjlnbaa
open Go.RowKit Go.ChangeShapes Go.WideShapes Go.ChangeAt

/-- A record as cells. -/
def rcC (t : Nat) (V : List Int) : List Value := .int .u32 (t : Int) :: V.map (Value.int .i32)
theorem ints_of {k : IntKind} {Q : Int → Prop} : ∀ (cs : List Value), (∀ i, i < cs.length → ∃ z, cs[i]? = some (.int k z) ∧ Q z) → ∃ V : List Int, cs = V.map (Value.int k) ∧ ∀ x ∈ V, Q x
  | [], _ => ⟨[], rfl, by simp⟩
  | c :: cs, h => by
    obtain ⟨z, hz, hq⟩ := h 0 (by simp)
    obtain ⟨V, hV, hQ⟩ := ints_of cs (fun i hi => by
      have := h (i + 1) (by simp; omega)
      simpa using this)
    simp at hz
    subst hz hV
    refine ⟨z :: V, rfl, fun x hx => ?_⟩
    rcases List.mem_cons.1 hx with rfl | hx
    · exact hq
    · exact hQ x hx
section
variable {H : Type} {enc : TypeId × Value → H} {W : World}
set_option maxRecDepth 10000 in
theorem rec_of (m : Nat) (cs : List Value) (y : DataW H × List MemPlace) (hl : cs.length = 13) (h : DataW.trod enc Try.prog W 0 (fun _ => true) true m 25 cs = some y) :
    ∃ (t : Nat) (V : List Int), t < 4294967296 ∧ V.length = 12 ∧ (∀ x ∈ V, in32 x) ∧ cs = rcC t V := by
  match cs, hl with
  | c0 :: cs, hl =>
    have hl : cs.length = 12 := by simpa using hl
    obtain ⟨xs, k, _, _, _, hxl, hfs⟩ := DataW.trod_struct Try.underlying25 h
    have hxl : xs.length = 2 := hxl
    have t0 := hfs 0 _ rfl
    rw [List.getElem?_eq_getElem (by omega)] at t0
    have t0 : DataW.trod enc Try.prog W 0 (fun _ => true) true k 22 [c0] = some xs[0] := t0
    obtain ⟨z0, e0, _, w0⟩ := DataW.trod_int Try.underlying22 t0
    injection e0 with e0
    subst e0
    have t1 := hfs 1 _ rfl
    rw [List.getElem?_eq_getElem (by omega)] at t1
    have t1 : DataW.trod enc Try.prog W 0 (fun _ => true) true k 23 (cs.take 12) = some xs[1] := t1
    rw [List.take_of_length_le (by omega)] at t1
    obtain ⟨ys, k2, _, _, _, hyl, hel⟩ := DataW.trod_array Try.underlying23 t1
    have hu := bounds_u32 w0
    obtain ⟨V, rfl, hV⟩ := ints_of (k := .i32) (Q := in32) cs (fun i hi => by
      have hi : i < 12 := by omega
      have ti := hel i hi
      rw [List.getElem?_eq_getElem (by omega)] at ti
      have e1 : (cs.drop i).take 1 = [cs[i]] := by rw [List.drop_eq_getElem_cons (by omega)]; rfl
      have ti : DataW.trod enc Try.prog W 0 (fun _ => true) true k2 21 ((cs.drop (i * 1)).take 1) = some ys[i] := ti
      rw [Nat.mul_one, e1] at ti
      obtain ⟨z, e, _, wz⟩ := DataW.trod_int Try.underlying21 ti
      injection e with e
      exact ⟨z, by rw [List.getElem?_eq_getElem (by omega), e], bounds_i32 wz⟩)
    refine ⟨z0.toNat, V, by omega, by simpa using hl, hV, ?_⟩
    unfold rcC
    rw [show ((z0.toNat : Nat) : Int) = z0 by omega]
set_option maxRecDepth 10000 in
theorem open_rec {b0 : Nat} {v : Value} {d : DataW H} {p : List MemPlace} (hv : Value.okWide Try.prog W .any b0 25 v) (h : DataW.Trod enc Try.prog W 0 (fun _ => true) true 25 v d p) :
    ∃ (t : Nat) (V : List Int), v = .agg (rcC t V).toArray ∧ t < 4294967296 ∧ V.length = 12 ∧ ∀ x ∈ V, in32 x := by
  obtain ⟨cs, rfl, hs⟩ := okWide_struct Try.underlying25 hv
  obtain ⟨fuel, hf⟩ := h
  have hs : cs.size = 13 := hs
  obtain ⟨t, V, h1, h2, h3, h4⟩ := rec_of fuel cs.toList (d, p) (by simpa using hs) hf
  exact ⟨t, V, by rw [← h4], h1, h2, h3⟩
end

end Go.Proofs.Ytplgcfjcdjlnbaa

/-
  vary.Put, and the document's Put of layer 3, walked.
-/
set_option linter.unusedSimpArgs false
set_option linter.unusedVariables false
namespace Go.Proofs.Ytplgcfjcdjlnbaa
open Go.RowKit NumLaw

set_option maxRecDepth 10000 in
set_option maxHeartbeats 1000000 in
theorem varyPut_any (u : Nat) (w : World) (hu : u < 18446744073709551616) : Calls Try.prog 73 #[.int .u64 u] w (RetB w (varB u)) := by
  have hp : Pen (w.alloc (.cells #[.slice none 0 0] 154)) w.heap.size (.slice none 0 0) [] := ⟨heap_alloc_new w _, World.ownsRow_nil _ _ _ _⟩
  have hb : Below w.heap.size w (w.alloc (.cells #[.slice none 0 0] 154)) := (Below.refl _ _).alloc (Nat.le_refl _) _
  have hput := penput_any w.heap.size _ [] u _ hp hu (by simp)
  clear hp
  go_enter Try.func73, Try.ntmps73
  go_wp2_with fail
  go_fit hput
  rintro e w1 ⟨rfl, v', ⟨hbl, hown⟩, hb1⟩
  obtain ⟨A, c, rfl⟩ := own_sl hown
  have c0 := blk_cell (i := 0) (v := .slice A ([] ++ varB u).length c) hbl rfl
  have hb2 : Below w.heap.size w w1 := hb.trans hb1
  rw [List.nil_append] at c0 hown
  generalize varB u = l at *
  clear hput hbl hb hb1
  obtain ⟨m, hm⟩ : ∃ m, m = l.length := ⟨_, rfl⟩
  rw [← hm] at c0 hown
  have HM := Lib.hid hm
  clear hm
  go_wp2
  go_ret
  exact ⟨A, c, m, rfl, own_mono hown (by omega), hb2⟩

set_option maxRecDepth 10000 in
set_option maxHeartbeats 2000000 in
theorem qPut03_any (u : Nat) (w : World) (hu : u < 18446744073709551616) : Calls Try.prog 75 #[.int .u64 u] w (RetB w (varB u)) := by
  obtain ⟨i0, hi⟩ := info_parts u8_info
  have Hi := Lib.hid hi
  clear hi
  go_enter Try.func75, Try.ntmps75
  go_wp2_with fail
  go_loopw [0, 3] (fun uv s wr => ∃ (j u' : Nat) (A : Option Addr) (c : Nat) (pre : List UInt8), uv = .int .u64 u' ∧ s = .slice A j c ∧ wr.ownsRow w.heap.size 5 1 (.slice A j c) j (bv pre) ∧ Below w.heap.size w wr ∧ j ≤ 9 ∧ u' * 128 ^ j ≤ u ∧ Hid (varB u = pre ++ varN (9 - j) u')) (fun uv _ _ => (intOf uv).toNat)
  case atStart => exact ⟨0, u, none, 0, [], rfl, rfl, World.ownsRow_nil _ _ _ _, Below.refl _ _, by omega, by omega, Lib.hid rfl⟩
  case round =>
    obtain ⟨j, u', A, c, pre, rfl, rfl, hown, hb, hj, hbd, hvar⟩ := hrel
    have hu' : u' < 18446744073709551616 := by
      have : u' * 1 ≤ u' * 128 ^ j := Nat.mul_le_mul_left _ (Nat.pow_pos (by omega))
      omega
    by_cases hge : 128 ≤ u'
    · have hj9 : j < 9 := by
        rcases Nat.lt_or_ge j 9 with h | h
        · exact h
        · obtain rfl : j = 9 := by omega
          have h9 : (128 : Nat) ^ 9 = 9223372036854775808 := by decide
          rw [h9] at hbd
          omega
      obtain ⟨r, hr⟩ : ∃ r, r = u' % 128 + 128 := ⟨_, rfl⟩
      have hr8 : r < 256 := by omega
      have Hst : Hid (varB u = (pre ++ [UInt8.ofNat r]) ++ varN (9 - (j + 1)) (u' / 128)) := Lib.hid (by
        rw [hvar.out, show 9 - j = (9 - (j + 1)) + 1 by omega]
        rw [varN_big (by omega), hr]
        simp)
      have hdv : u' / 128 * 128 ^ (j + 1) ≤ u := by
        rw [Nat.pow_succ, Nat.mul_comm (128 ^ j), ← Nat.mul_assoc]
        exact Nat.le_trans (Nat.mul_le_mul_right _ (Nat.div_mul_le_self u' 128)) hbd
      have e1 : (u' : Int) % 128 + 128 = (r : Int) := by omega
      have e2 : IntKind.u64.wrap (r : Int) = (r : Int) := IntWalk.u64_in _ (by omega)
      have e3 : IntKind.u8.wrap (r : Int) = (r : Int) := by simp [IntKind.wrap, IntKind.bits, IntKind.signed]; omega
      have hgt : (127 : Int) < (u' : Int) := by omega
      clear hr hvar hbd
      have hnew : Rd (wr.alloc (.cells #[.int .u8 (r : Int)] 5)) (wr.heap.size + 1) 1 (some ⟨wr.heap.size, 0, none⟩) 1 1 (bv [UInt8.ofNat r]) := by
        have := rd_const wr 5 [UInt8.ofNat r] (0, 0) (by simp [maxLen])
        rw [u8_one r hr8] at this ⊢
        exact this
      have hown2 := own_up hown (w' := wr.alloc (.cells #[.int .u8 (r : Int)] 5)) ((Below.refl _ _).alloc (Nat.le_refl _) _) (Nat.le_refl _)
      have hb2 := hb.alloc hb.size (.cells #[.int .u8 (r : Int)] 5)
      go_wp2_with (at_builtin; refine stop_ ?_)
      refine go_ (wpList_app Try.underlying26 Hi.out rfl (by omega) hown2 rfl hnew rfl (bv_one _) (k := j + 1) rfl (bv_app _ _).symm (by unfold maxLen; omega) (by omega) hb2.size ?_)
      intro A4 c4 w4 hown4 hB4
      have hb4 := hB4 hb2 hb2.size (Nat.le_refl _)
      clear hB4 hown2 hnew hb2
      go_wp2
      go_roundw
      case rel => exact ⟨j + 1, u' / 128, A4, c4, pre ++ [UInt8.ofNat r], val_int (by omega), rfl, hown4, hb4, by omega, hdv, Hst⟩
      case measure => simp [intOf]; omega
    · have hlt : u' < 128 := by omega
      have Hst : Hid (varB u = pre ++ [UInt8.ofNat u']) := Lib.hid (by rw [hvar.out, varN_small hlt])
      have hcv : IntKind.u8.wrap (u' : Int) = (u' : Int) := by simp [IntKind.wrap, IntKind.bits, IntKind.signed]; omega
      have hmod : (u' : Int) % 256 = (u' : Int) := by omega
      have hgt : ¬ (127 : Int) < (u' : Int) := by omega
      have hnew : Rd (wr.alloc (.cells #[.int .u8 (u' : Int)] 5)) (wr.heap.size + 1) 1 (some ⟨wr.heap.size, 0, none⟩) 1 1 (bv [UInt8.ofNat u']) := by
        have := rd_const wr 5 [UInt8.ofNat u'] (0, 0) (by simp [maxLen])
        rw [u8_one u' (by omega)] at this ⊢
        exact this
      have hown2 := own_up hown (w' := wr.alloc (.cells #[.int .u8 (u' : Int)] 5)) ((Below.refl _ _).alloc (Nat.le_refl _) _) (Nat.le_refl _)
      have hb2 := hb.alloc hb.size (.cells #[.int .u8 (u' : Int)] 5)
      clear hvar hbd
      go_wp2_with (at_builtin; refine stop_ ?_)
      refine go_ (wpList_app Try.underlying26 Hi.out rfl (by omega) hown2 rfl hnew rfl (bv_one _) (k := j + 1) rfl (bv_app _ _).symm (by unfold maxLen; omega) (by omega) hb2.size ?_)
      intro A4 c4 w4 hown4 hB4
      have hb4 := hB4 hb2 hb2.size (Nat.le_refl _)
      rw [← Hst.out] at hown4
      clear hB4 hown2 hnew hb2
      go_wp2
      go_ret
      exact ⟨A4, c4, j + 1, rfl, hown4, hb4⟩

end Go.Proofs.Ytplgcfjcdjlnbaa

/-
  vary.Zig, Zag, Take, Ints, and the document's, walked.
-/
set_option linter.unusedSimpArgs false
set_option linter.unusedVariables false
namespace Go.Proofs.Ytplgcfjcdjlnbaa
open Go.RowKit NumLaw

theorem xor_i64_comm (a b : Int) : bits .xor .i64 a b = bits .xor .i64 b a := by
  show IntKind.i64.wrap ((BitVec.ofInt 64 a ^^^ BitVec.ofInt 64 b).toNat : Int) = IntKind.i64.wrap ((BitVec.ofInt 64 b ^^^ BitVec.ofInt 64 a).toNat : Int)
  rw [BitVec.xor_comm]
theorem xor_i64_zero (x : Nat) (hx : x < 9223372036854775808) : bits .xor .i64 (x : Int) 0 = (x : Int) := by
  show IntKind.i64.wrap ((BitVec.ofInt 64 (x : Int) ^^^ BitVec.ofInt 64 0).toNat : Int) = _
  have h2 : (BitVec.ofInt 64 (x : Int)).toNat = x := by
    rw [BitVec.ofInt_natCast, BitVec.toNat_ofNat]; exact Nat.mod_eq_of_lt (by omega)
  rw [show BitVec.ofInt 64 0 = 0#64 from rfl, BitVec.xor_zero, h2, IntKind.wrap_i64]
  omega
theorem zig_bits (n : Int) (hn : -9223372036854775808 ≤ n ∧ n ≤ 9223372036854775807) : bits .xor .u64 (IntKind.u64.wrap (IntKind.u64.wrap n * 2)) (IntKind.u64.wrap (n / 9223372036854775808)) = (zigV n : Int) := by
  unfold zigV
  by_cases h : n < 0
  · rw [if_pos h]
    have e1 : IntKind.u64.wrap (IntKind.u64.wrap n * 2) = (((2 * n + 18446744073709551616).toNat : Nat) : Int) := by
      rw [IntKind.wrap_u64, IntKind.wrap_u64]
      omega
    have e2 : IntKind.u64.wrap (n / 9223372036854775808) = ((2 ^ 64 - 1 : Nat) : Int) := by
      rw [show n / 9223372036854775808 = -1 by omega]
      decide
    rw [e1, e2, u64_xor_nat _ _ (by omega) (by decide), Nat.xor_comm, Lib.xor_ones64 _ (by omega)]
    omega
  · rw [if_neg h]
    have e1 : IntKind.u64.wrap (IntKind.u64.wrap n * 2) = (((2 * n).toNat : Nat) : Int) := by
      rw [IntKind.wrap_u64, IntKind.wrap_u64]
      omega
    have e2 : IntKind.u64.wrap (n / 9223372036854775808) = ((0 : Nat) : Int) := by
      rw [show n / 9223372036854775808 = 0 by omega]
      decide
    rw [e1, e2, u64_xor_nat _ _ (by omega) (by decide), Nat.xor_zero]
theorem zag_bits (u : Nat) (hu : u < 18446744073709551616) : bits .xor .i64 ((u : Int) / 2) (wrap64 (-wrap64 (bits .and .u64 (u : Int) 1))) = zagV u := by
  rw [Lib.u64_and1 _ (by omega) (by omega)]
  unfold zagV
  by_cases h : u % 2 = 1
  · rw [if_pos h, show (u : Int) % 2 = 1 by omega, show wrap64 (-wrap64 1) = -1 by decide +kernel, xor_i64_comm, show (u : Int) / 2 = ((u / 2 : Nat) : Int) by omega, Lib.i64_not _ (by omega)]
  · rw [if_neg h, show (u : Int) % 2 = 0 by omega, show wrap64 (-wrap64 0) = 0 by decide +kernel, show (u : Int) / 2 = ((u / 2 : Nat) : Int) by omega, xor_i64_zero _ (by omega)]
theorem varyZig_any (n : Int) (w : World) (hn : -9223372036854775808 ≤ n ∧ n ≤ 9223372036854775807) : Calls Try.prog 108 #[.int .i64 n] w fun e w' => e = .returned (.int .u64 (zigV n : Int)) ∧ w = w' := by
  go_enter Try.func108, Try.ntmps108
  go_wp2
  go_ret
  refine ⟨congrArg (fun z => Ending.returned (Value.int .u64 z)) (?_ : _ = (zigV n : Int)), rfl⟩
  exact zig_bits n hn
theorem varyZag_any (u : Nat) (w : World) (hu : u < 18446744073709551616) : Calls Try.prog 112 #[.int .u64 u] w fun e w' => e = .returned (.int .i64 (zagV u)) ∧ w = w' := by
  go_enter Try.func112, Try.ntmps112
  go_wp2
  go_ret
  refine ⟨congrArg (fun z => Ending.returned (Value.int .i64 z)) (?_ : _ = zagV u), rfl⟩
  exact zag_bits u hu
theorem qZig_any (n : Int) (w : World) (hn : -9223372036854775808 ≤ n ∧ n ≤ 9223372036854775807) : Calls Try.prog 77 #[.int .i64 n] w fun e w' => e = .returned (.int .u64 (zigV n : Int)) ∧ w = w' := by
  go_enter Try.func77, Try.ntmps77
  by_cases h : n < 0
  · go_wp2
    go_ret
    refine ⟨congrArg (fun z => Ending.returned (Value.int .u64 z)) (?_ : _ = (zigV n : Int)), rfl⟩
    unfold zigV
    rw [if_pos h]
    omega
  · go_wp2
    go_ret
    refine ⟨congrArg (fun z => Ending.returned (Value.int .u64 z)) (?_ : _ = (zigV n : Int)), rfl⟩
    unfold zigV
    rw [if_neg (by omega)]
    omega
theorem qZag_any (u : Nat) (w : World) (hu : u < 18446744073709551616) : Calls Try.prog 86 #[.int .u64 u] w fun e w' => e = .returned (.int .i64 (zagV u)) ∧ w = w' := by
  go_enter Try.func86, Try.ntmps86
  by_cases h : (u : Int) % 2 = 1
  · go_wp2
    go_ret
    refine ⟨congrArg (fun z => Ending.returned (Value.int .i64 z)) (?_ : _ = zagV u), rfl⟩
    unfold zagV
    rw [if_pos (by omega)]
    omega
  · go_wp2
    go_ret
    refine ⟨congrArg (fun z => Ending.returned (Value.int .i64 z)) (?_ : _ = zagV u), rfl⟩
    unfold zagV
    rw [if_neg (by omega)]
    omega
theorem later_any (a b : Nat) (w : World) (ha : a < 4294967296) (hb : b < 4294967296) : Calls Try.prog 76 #[.int .u32 a, .int .u32 b] w fun e w' => e = .returned (.int .u64 (laterN a b : Int)) ∧ w = w' := by
  go_enter Try.func76, Try.ntmps76
  go_wp2
  go_ret
  refine ⟨congrArg (fun z => Ending.returned (Value.int .u64 z)) (?_ : _ = (laterN a b : Int)), rfl⟩
  unfold laterN
  omega

/-- The state of Take's rounds: k bytes are read, u is their number. -/
def TkV (b : List UInt8) (k u : Nat) : Prop := varT b = if (varTL k (b.drop k)).2.2 = 0 then (u + 128 ^ k * (varTL k (b.drop k)).1, k + (varTL k (b.drop k)).2.1, 0) else (0, 0, (varTL k (b.drop k)).2.2)
theorem tkV_start (b : List UInt8) : TkV b 0 0 := by
  have hn := varTL_none b 0
  unfold TkV varT
  rw [List.drop_zero]
  generalize varTL 0 b = x at *
  obtain ⟨p, q, r⟩ := x
  simp only at *
  by_cases h : r = 0
  · subst h
    simp
  · obtain ⟨rfl, rfl⟩ := hn h
    rw [if_neg h]
theorem drop_at {α : Type} {b : List α} {k : Nat} {c : α} (h : b[k]? = some c) : b.drop k = c :: b.drop (k + 1) := by
  obtain ⟨hk, e⟩ := List.getElem?_eq_some_iff.1 h
  rw [List.drop_eq_getElem_cons hk, e]
theorem tkV_bad {b : List UInt8} {k u : Nat} {c : UInt8} (h : TkV b k u) (hc : b[k]? = some c) (h1 : (k = 9 ∧ 1 < c.toNat) ∨ (c.toNat = 0 ∧ 0 < k)) : varT b = (0, 0, 3) := by
  unfold TkV at h
  rw [drop_at hc, varTL_bad h1] at h
  exact h
theorem tkV_end {b : List UInt8} {k u : Nat} {c : UInt8} (h : TkV b k u) (hc : b[k]? = some c) (h1 : ¬ ((k = 9 ∧ 1 < c.toNat) ∨ (c.toNat = 0 ∧ 0 < k))) (h2 : c.toNat < 128) : varT b = (u + 128 ^ k * c.toNat, k + 1, 0) := by
  unfold TkV at h
  rw [drop_at hc, varTL_end h1 h2] at h
  exact h
theorem tkV_more {b : List UInt8} {k u : Nat} {c : UInt8} (h : TkV b k u) (hc : b[k]? = some c) (h1 : ¬ ((k = 9 ∧ 1 < c.toNat) ∨ (c.toNat = 0 ∧ 0 < k))) (h2 : ¬ c.toNat < 128) : TkV b (k + 1) (u + 128 ^ k * (c.toNat - 128)) := by
  unfold TkV at h ⊢
  rw [drop_at hc, varTL_more h1 h2] at h
  by_cases h3 : (varTL (k + 1) (b.drop (k + 1))).2.2 = 0
  · rw [if_pos h3] at h ⊢
    simp only [if_true] at h
    rw [h, Nat.pow_succ, Nat.mul_add, ← Nat.add_assoc, ← Nat.mul_assoc]
    simp only [Prod.mk.injEq, and_true, true_and]
    omega
  · rw [if_neg h3] at h ⊢
    rw [if_neg h3] at h
    exact h
theorem tkV_short {b : List UInt8} {k u : Nat} (h : TkV b k u) (hk : b.length ≤ k) : varT b = (0, 0, 2) := by
  unfold TkV at h
  rw [List.drop_eq_nil_of_le hk] at h
  exact h
theorem and127 : ∀ v : Fin 256, bits .and .u8 ((v.val : Nat) : Int) 127 = ((v.val % 128 : Nat) : Int) := by decide +kernel

end Go.Proofs.Ytplgcfjcdjlnbaa

/-
  vary.Take and the document's, vary.Ints: walked.
-/
set_option linter.unusedSimpArgs false
set_option linter.unusedVariables false
namespace Go.Proofs.Ytplgcfjcdjlnbaa
open Go.RowKit NumLaw
attribute [local go_sem] Addr.add_mid

theorem or_part {u x k : Nat} (hu : u < 128 ^ k) : u ||| x * 128 ^ k = u + 128 ^ k * x := by
  have e : (128 : Nat) ^ k = 2 ^ (7 * k) := by rw [Nat.pow_mul]
  rw [e] at hu ⊢
  rw [Nat.or_comm, Nat.mul_comm, ← Nat.two_pow_add_eq_or_of_lt hu, Nat.add_comm]
theorem pow_two7 (k : Nat) : (2 : Nat) ^ (7 * k) = 128 ^ k := by rw [Nat.pow_mul]
theorem take_or {u x k : Nat} (hu : u < 128 ^ k) (hk : k ≤ 9) (h9 : k = 9 → x ≤ 1) : bits .or .u64 (u : Int) (IntKind.u64.wrap ((x : Int) % 128 * 2 ^ (7 * k))) = ((u + 128 ^ k * (x % 128) : Nat) : Int) := by
  have hlt : x % 128 * 128 ^ k < 18446744073709551616 ∧ 128 ^ k ≤ 9223372036854775808 := by
    have h1 : x % 128 ≤ 127 := by omega
    have h2 : k = 9 → x % 128 ≤ 1 := fun e => by have := h9 e; omega
    generalize x % 128 = y at *
    rcases le_cases9 hk with rfl | rfl | rfl | rfl | rfl | rfl | rfl | rfl | rfl | rfl <;> simp at h2 ⊢ <;> omega
  have e : ((x : Int) % 128 * 2 ^ (7 * k)) = ((x % 128 * 128 ^ k : Nat) : Int) := by
    rw [← pow_two7]
    simp
  rw [e, IntWalk.u64_in _ (by omega), u64_or_nat _ _ (by omega) (by omega), or_part hu]
theorem take_mul {u x k : Nat} (hu : u < 128 ^ k) (hk : k ≤ 9) (h9 : k = 9 → x ≤ 1) : IntKind.u64.wrap (((128 ^ k : Nat) : Int) * ((x : Int) % 128)) = ((128 ^ k * (x % 128) : Nat) : Int) ∧ IntKind.u64.wrap ((u : Int) + ((128 ^ k * (x % 128) : Nat) : Int)) = ((u + 128 ^ k * (x % 128) : Nat) : Int) := by
  have hlt : u + 128 ^ k * (x % 128) < 18446744073709551616 := by
    have h1 : x % 128 ≤ 127 := by omega
    have h2 : k = 9 → x % 128 ≤ 1 := fun e => by have := h9 e; omega
    generalize x % 128 = y at *
    rcases le_cases9 hk with rfl | rfl | rfl | rfl | rfl | rfl | rfl | rfl | rfl | rfl <;> simp at h2 hu ⊢ <;> omega
  have e : (((128 ^ k : Nat) : Int) * ((x : Int) % 128)) = ((128 ^ k * (x % 128) : Nat) : Int) := by simp
  rw [e]
  exact ⟨IntWalk.u64_in _ (by omega), by rw [show (u : Int) + ((128 ^ k * (x % 128) : Nat) : Int) = ((u + 128 ^ k * (x % 128) : Nat) : Int) by omega]; exact IntWalk.u64_in _ (by omega)⟩
def RetTk (b : List UInt8) (w : World) (e : Ending) (w' : World) : Prop :=
  e = .returned (.tuple #[.int .u64 ((varT b).1 : Int), .int .i64 ((varT b).2.1 : Int), .int .i64 ((varT b).2.2 : Int)]) ∧ w = w'
set_option maxRecDepth 10000 in
set_option maxHeartbeats 2000000 in
theorem varyTake_any (A : Option Addr) (n c B : Nat) (b : List UInt8) (w : World) (h : Rd w B 1 A n c (bv b)) : Calls Try.prog 111 #[.slice A n c] w (RetTk b w) := by
  have hlb := h.blen
  have hle := h.le
  have hmx := h.max
  unfold maxLen at hmx
  have Hlb := Lib.hid hlb
  clear hlb
  unfold RetTk
  obtain ⟨oR, hoR⟩ : ∃ r, r = varT b := ⟨_, rfl⟩
  rw [← hoR]
  have HoR := Lib.hid hoR
  clear hoR
  obtain ⟨o1, o2, o3⟩ := oR
  go_enter Try.func111, Try.ntmps111
  go_wp2_with fail
  go_loopw [5, 10] (fun uv i wr => ∃ (k u : Nat), k ≤ n ∧ k ≤ 9 ∧ uv = .int .u64 u ∧ i = .int .i64 k ∧ u < 128 ^ k ∧ wr = w ∧ Hid (TkV b k u)) (fun _ i _ => n - (intOf i).toNat)
  case atStart => exact ⟨0, 0, by omega, by omega, rfl, rfl, by simp, rfl, Lib.hid (tkV_start b)⟩
  case round =>
    obtain ⟨k, u, hk, hk9, rfl, rfl, hu, rfl, htk⟩ := hrel
    by_cases hlt : k < n
    · obtain ⟨ad, x, rfl, hx, hcell⟩ := h.byte hlt
      have hxl := x.toNat_lt
      have Hx := Lib.hid hx
      have hand := and127 ⟨x.toNat, by omega⟩
      simp only at hand
      clear hx
      by_cases h9 : k = 9
      · subst h9
        have hcell9 : wr.cell? ⟨ad.block, ad.off + 9, none⟩ = some (.int .u8 (x.toNat : Int)) := by first | exact hcell | simpa [Addr.add] using hcell
        clear hcell
        by_cases hv : 1 < x.toNat
        · have e := HoR.out.trans (tkV_bad htk.out Hx.out (.inl ⟨rfl, hv⟩))
          injection e with e1 e2
          injection e2 with e2 e3
          subst e1; subst e2; subst e3
          have hv' : (1 : Int) < (x.toNat : Int) := by omega
          go_wp2
          go_ret3
          exact ⟨rfl, rfl⟩
        have hu63 : u < 9223372036854775808 := hu
        have hor9 : bits .or .u64 (u : Int) 9223372036854775808 = ((u + 9223372036854775808 : Nat) : Int) := by
          have := or_part (x := 1) hu
          rw [show (9223372036854775808 : Int) = ((1 * 128 ^ 9 : Nat) : Int) by decide, u64_or_nat _ _ (by omega) (by decide), this]
        obtain ⟨r, hr⟩ : ∃ r, r = u + 9223372036854775808 := ⟨_, rfl⟩
        rw [← hr] at hor9
        have hadd : IntKind.u64.wrap ((u : Int) + 9223372036854775808) = (r : Int) := by rw [hr]; exact IntWalk.u64_in _ (by omega)
        have hadd2 : (u : Int) + 9223372036854775808 = (r : Int) := by omega
        rw [hadd2] at hadd
        rcases (by omega : x.toNat = 0 ∨ x.toNat = 1) with h0 | h0
        · have e := HoR.out.trans (tkV_bad htk.out Hx.out (.inr ⟨h0, by omega⟩))
          injection e with e1 e2
          injection e2 with e2 e3
          subst e1; subst e2; subst e3
          rw [h0] at hcell9
          clear hor9 hadd hadd2 hr
          go_wp2
          go_ret3
          exact ⟨rfl, rfl⟩
        · have e := HoR.out.trans (tkV_end htk.out Hx.out (by omega) (by omega))
          rw [h0, Nat.mul_one, show 128 ^ 9 = 9223372036854775808 by decide, ← hr] at e
          injection e with e1 e2
          injection e2 with e2 e3
          subst e1; subst e2; subst e3
          rw [h0] at hcell9
          have hand1 : bits .and .u8 1 127 = 1 := by decide
          clear hand
          clear hr hu hu63
          go_wp2
          go_ret3
          exact ⟨rfl, rfl⟩
      have hi9 : ¬ (k : Int) = 9 := by omega
      by_cases h0 : x.toNat = 0
      · by_cases hk0 : k = 0
        · subst hk0
          have hcell0 : wr.cell? ad = some (.int .u8 (x.toNat : Int)) := by first | exact hcell | simpa [Addr.add] using hcell
          have hlt0 : (0 : Int) < (n : Int) := by omega
          rw [h0] at hcell0
          have hand0 : bits .and .u8 0 127 = 0 := by decide
          obtain rfl : u = 0 := by simp at hu; exact hu
          have e := HoR.out.trans (tkV_end htk.out Hx.out (by omega) (by omega))
          rw [h0] at e
          have e : (o1, o2, o3) = (0, 1, 0) := e
          injection e with e1 e2
          injection e2 with e2 e3
          subst e1; subst e2; subst e3
          have hor0 : bits .or .u64 0 0 = 0 := by decide
          clear hcell hi9
          go_wp2
          go_ret3
          exact ⟨rfl, rfl⟩
        · have e := HoR.out.trans (tkV_bad htk.out Hx.out (.inr ⟨h0, by omega⟩))
          injection e with e1 e2
          injection e2 with e2 e3
          subst e1; subst e2; subst e3
          rw [h0] at hcell
          have hk0' : (0 : Int) < (k : Int) := by omega
          clear hk0
          go_wp2
          go_ret3
          exact ⟨rfl, rfl⟩
      have hi0 : ¬ (x.toNat : Int) = 0 := by omega
      have hor := take_or (x := x.toNat) hu hk9 (fun e => absurd e h9)
      obtain ⟨hm1, hm2⟩ := take_mul (x := x.toNat) hu hk9 (fun e => absurd e h9)
      have hm3 : IntKind.u64.wrap (((128 ^ k : Nat) : Int) * 128) = ((128 ^ (k + 1) : Nat) : Int) := by
        rw [show ((128 ^ k : Nat) : Int) * 128 = ((128 ^ (k + 1) : Nat) : Int) by rw [Nat.pow_succ]; simp]
        refine IntWalk.u64_in _ ?_
        have : 128 ^ (k + 1) ≤ 128 ^ 9 := Nat.pow_le_pow_right (by omega) (by omega)
        have h128 : (128 : Nat) ^ 9 = 9223372036854775808 := by decide
        omega
      obtain ⟨q, hq⟩ : ∃ q, q = 128 ^ k * (x.toNat % 128) := ⟨_, rfl⟩
      rw [← hq] at hor hm1 hm2
      obtain ⟨r, hr⟩ : ∃ r, r = u + q := ⟨_, rfl⟩
      rw [← hr] at hor hm2
      have hm4 : (u : Int) + (q : Int) = (r : Int) := by omega
      rw [hm4] at hm2
      obtain ⟨p, hp⟩ : ∃ p, p = 128 ^ k := ⟨_, rfl⟩
      obtain ⟨p2, hp2⟩ : ∃ p, p = 128 ^ (k + 1) := ⟨_, rfl⟩
      have Hp2 := Lib.hid hp2
      rw [← hp] at hm1 hm3
      rw [← hp2] at hm3
      by_cases hx1 : x.toNat < 128
      · have e := HoR.out.trans (tkV_end htk.out Hx.out (by omega) hx1)
        rw [show x.toNat % 128 = x.toNat by omega] at hq
        rw [← hq, ← hr] at e
        injection e with e1 e2
        injection e2 with e2 e3
        subst e1; subst e2; subst e3
        clear hq hr hu hp hp2
        go_wp2
        go_ret3
        exact ⟨rfl, rfl⟩
      · have hst := tkV_more htk.out Hx.out (by omega) hx1
        rw [show x.toNat % 128 = x.toNat - 128 by omega] at hq
        rw [← hq, ← hr] at hst
        have hr2 : r < 128 ^ (k + 1) := by
          rw [hr, hq, Nat.pow_succ]
          have h1 : 128 ^ k * (x.toNat - 128) ≤ 128 ^ k * 127 := Nat.mul_le_mul_left _ (by omega)
          omega
        have Hst := Lib.hid hst
        have Hr2 := Lib.hid hr2
        clear hq hr hu hst hr2 htk hp hp2
        go_wp2
        go_roundw
        case rel => exact ⟨k + 1, r, by omega, by omega, rfl, by go_num, Hr2.out, by first | rfl | trivial, Hst⟩
        case measure => simp [intOf]; omega
    · obtain rfl : k = n := by omega
      have e := HoR.out.trans (tkV_short htk.out (by rw [Hlb.out]; exact Nat.le_refl _))
      injection e with e1 e2
      injection e2 with e2 e3
      subst e1; subst e2; subst e3
      go_wp2
      go_ret3
      exact ⟨rfl, rfl⟩

set_option maxRecDepth 10000 in
set_option maxHeartbeats 2000000 in
theorem qTake03_any (A : Option Addr) (n c B : Nat) (b : List UInt8) (w : World) (h : Rd w B 1 A n c (bv b)) : Calls Try.prog 85 #[.slice A n c] w (RetTk b w) := by
  have hlb := h.blen
  have hle := h.le
  have hmx := h.max
  unfold maxLen at hmx
  have Hlb := Lib.hid hlb
  clear hlb
  unfold RetTk
  obtain ⟨oR, hoR⟩ : ∃ r, r = varT b := ⟨_, rfl⟩
  rw [← hoR]
  have HoR := Lib.hid hoR
  clear hoR
  obtain ⟨o1, o2, o3⟩ := oR
  go_enter Try.func85, Try.ntmps85
  go_wp2_with fail
  go_loopw [5, 6, 7] (fun uv by_ i wr => ∃ (k u : Nat), k ≤ n ∧ k ≤ 9 ∧ uv = .int .u64 u ∧ by_ = .int .u64 ((128 ^ k : Nat) : Int) ∧ i = .int .i64 k ∧ u < 128 ^ k ∧ wr = w ∧ Hid (TkV b k u)) (fun _ _ i _ => n - (intOf i).toNat)
  case atStart => exact ⟨0, 0, by omega, by omega, rfl, rfl, rfl, by simp, rfl, Lib.hid (tkV_start b)⟩
  case round =>
    obtain ⟨k, u, hk, hk9, rfl, rfl, rfl, hu, rfl, htk⟩ := hrel
    by_cases hlt : k < n
    · obtain ⟨ad, x, rfl, hx, hcell⟩ := h.byte hlt
      have hxl := x.toNat_lt
      have Hx := Lib.hid hx
      have hand := and127 ⟨x.toNat, by omega⟩
      simp only at hand
      clear hx
      by_cases h9 : k = 9
      · subst h9
        have hcell9 : wr.cell? ⟨ad.block, ad.off + 9, none⟩ = some (.int .u8 (x.toNat : Int)) := by first | exact hcell | simpa [Addr.add] using hcell
        clear hcell
        by_cases hv : 1 < x.toNat
        · have e := HoR.out.trans (tkV_bad htk.out Hx.out (.inl ⟨rfl, hv⟩))
          injection e with e1 e2
          injection e2 with e2 e3
          subst e1; subst e2; subst e3
          have hv' : (1 : Int) < (x.toNat : Int) := by omega
          go_wp2
          go_ret3
          exact ⟨rfl, rfl⟩
        have hu63 : u < 9223372036854775808 := hu
        have hor9 : bits .or .u64 (u : Int) 9223372036854775808 = ((u + 9223372036854775808 : Nat) : Int) := by
          have := or_part (x := 1) hu
          rw [show (9223372036854775808 : Int) = ((1 * 128 ^ 9 : Nat) : Int) by decide, u64_or_nat _ _ (by omega) (by decide), this]
        obtain ⟨r, hr⟩ : ∃ r, r = u + 9223372036854775808 := ⟨_, rfl⟩
        rw [← hr] at hor9
        have hadd : IntKind.u64.wrap ((u : Int) + 9223372036854775808) = (r : Int) := by rw [hr]; exact IntWalk.u64_in _ (by omega)
        have hadd2 : (u : Int) + 9223372036854775808 = (r : Int) := by omega
        rw [hadd2] at hadd
        rcases (by omega : x.toNat = 0 ∨ x.toNat = 1) with h0 | h0
        · have e := HoR.out.trans (tkV_bad htk.out Hx.out (.inr ⟨h0, by omega⟩))
          injection e with e1 e2
          injection e2 with e2 e3
          subst e1; subst e2; subst e3
          rw [h0] at hcell9
          clear hor9 hadd hadd2 hr
          go_wp2
          go_ret3
          exact ⟨rfl, rfl⟩
        · have e := HoR.out.trans (tkV_end htk.out Hx.out (by omega) (by omega))
          rw [h0, Nat.mul_one, show 128 ^ 9 = 9223372036854775808 by decide, ← hr] at e
          injection e with e1 e2
          injection e2 with e2 e3
          subst e1; subst e2; subst e3
          rw [h0] at hcell9
          have hand1 : bits .and .u8 1 127 = 1 := by decide
          clear hand
          clear hr hu hu63
          go_wp2
          go_ret3
          exact ⟨rfl, rfl⟩
      have hi9 : ¬ (k : Int) = 9 := by omega
      by_cases h0 : x.toNat = 0
      · by_cases hk0 : k = 0
        · subst hk0
          have hcell0 : wr.cell? ad = some (.int .u8 (x.toNat : Int)) := by first | exact hcell | simpa [Addr.add] using hcell
          have hlt0 : (0 : Int) < (n : Int) := by omega
          rw [h0] at hcell0
          have hand0 : bits .and .u8 0 127 = 0 := by decide
          obtain rfl : u = 0 := by simp at hu; exact hu
          have e := HoR.out.trans (tkV_end htk.out Hx.out (by omega) (by omega))
          rw [h0] at e
          have e : (o1, o2, o3) = (0, 1, 0) := e
          injection e with e1 e2
          injection e2 with e2 e3
          subst e1; subst e2; subst e3
          have hor0 : bits .or .u64 0 0 = 0 := by decide
          clear hcell hi9
          go_wp2
          go_ret3
          exact ⟨rfl, rfl⟩
        · have e := HoR.out.trans (tkV_bad htk.out Hx.out (.inr ⟨h0, by omega⟩))
          injection e with e1 e2
          injection e2 with e2 e3
          subst e1; subst e2; subst e3
          rw [h0] at hcell
          have hk0' : (0 : Int) < (k : Int) := by omega
          clear hk0
          go_wp2
          go_ret3
          exact ⟨rfl, rfl⟩
      have hi0 : ¬ (x.toNat : Int) = 0 := by omega
      have hor := take_or (x := x.toNat) hu hk9 (fun e => absurd e h9)
      obtain ⟨hm1, hm2⟩ := take_mul (x := x.toNat) hu hk9 (fun e => absurd e h9)
      have hm3 : IntKind.u64.wrap (((128 ^ k : Nat) : Int) * 128) = ((128 ^ (k + 1) : Nat) : Int) := by
        rw [show ((128 ^ k : Nat) : Int) * 128 = ((128 ^ (k + 1) : Nat) : Int) by rw [Nat.pow_succ]; simp]
        refine IntWalk.u64_in _ ?_
        have : 128 ^ (k + 1) ≤ 128 ^ 9 := Nat.pow_le_pow_right (by omega) (by omega)
        have h128 : (128 : Nat) ^ 9 = 9223372036854775808 := by decide
        omega
      obtain ⟨q, hq⟩ : ∃ q, q = 128 ^ k * (x.toNat % 128) := ⟨_, rfl⟩
      rw [← hq] at hor hm1 hm2
      obtain ⟨r, hr⟩ : ∃ r, r = u + q := ⟨_, rfl⟩
      rw [← hr] at hor hm2
      have hm4 : (u : Int) + (q : Int) = (r : Int) := by omega
      rw [hm4] at hm2
      obtain ⟨p, hp⟩ : ∃ p, p = 128 ^ k := ⟨_, rfl⟩
      obtain ⟨p2, hp2⟩ : ∃ p, p = 128 ^ (k + 1) := ⟨_, rfl⟩
      have Hp2 := Lib.hid hp2
      rw [← hp] at hm1 hm3 ⊢
      rw [← hp2] at hm3
      by_cases hx1 : x.toNat < 128
      · have e := HoR.out.trans (tkV_end htk.out Hx.out (by omega) hx1)
        rw [show x.toNat % 128 = x.toNat by omega] at hq
        rw [← hq, ← hr] at e
        injection e with e1 e2
        injection e2 with e2 e3
        subst e1; subst e2; subst e3
        clear hq hr hu hp hp2
        go_wp2
        go_ret3
        exact ⟨rfl, rfl⟩
      · have hst := tkV_more htk.out Hx.out (by omega) hx1
        rw [show x.toNat % 128 = x.toNat - 128 by omega] at hq
        rw [← hq, ← hr] at hst
        have hr2 : r < 128 ^ (k + 1) := by
          rw [hr, hq, Nat.pow_succ]
          have h1 : 128 ^ k * (x.toNat - 128) ≤ 128 ^ k * 127 := Nat.mul_le_mul_left _ (by omega)
          omega
        have Hst := Lib.hid hst
        have Hr2 := Lib.hid hr2
        clear hq hr hu hst hr2 htk hp hp2
        go_wp2
        go_roundw
        case rel => exact ⟨k + 1, r, by omega, by omega, rfl, by rw [← Hp2.out], by go_num, Hr2.out, by first | rfl | trivial, Hst⟩
        case measure => simp [intOf]; omega
    · obtain rfl : k = n := by omega
      have e := HoR.out.trans (tkV_short htk.out (by rw [Hlb.out]; exact Nat.le_refl _))
      injection e with e1 e2
      injection e2 with e2 e3
      subst e1; subst e2; subst e3
      go_wp2
      go_ret3
      exact ⟨rfl, rfl⟩

set_option maxRecDepth 10000 in
set_option maxHeartbeats 2000000 in
theorem varyInts_any (A : Option Addr) (n c B : Nat) (l : List Int) (w : World) (h : Rd w B 1 A n c (l.map (Value.int .i64))) (hB : B ≤ w.heap.size) (hl : ∀ x ∈ l, -9223372036854775808 ≤ x ∧ x ≤ 9223372036854775807) (hn : n ≤ 100000) :
    Calls Try.prog 74 #[.slice A n c] w (RetB w (l.flatMap fun d => varB (zigV d))) := by
  have hll : l.length = n := by have := h.len; simpa using this
  have hle := h.le
  have Hll := Lib.hid hll
  have Hl := Lib.hid hl
  obtain ⟨oP, hoP⟩ : ∃ p, p = l.flatMap fun d => varB (zigV d) := ⟨_, rfl⟩
  rw [← hoP]
  have HoP := Lib.hid hoP
  clear hll hl hoP
  have hp : Pen (w.alloc (.cells #[.slice none 0 0] 154)) w.heap.size (.slice none 0 0) [] := ⟨heap_alloc_new w _, World.ownsRow_nil _ _ _ _⟩
  have hb : Below w.heap.size w (w.alloc (.cells #[.slice none 0 0] 154)) := (Below.refl _ _).alloc (Nat.le_refl _) _
  go_enter Try.func74, Try.ntmps74
  go_wp2_with fail
  generalize (w.alloc (.cells #[.slice none 0 0] 154)) = w1 at *
  go_loopw [10] (fun i wr => ∃ (k : Nat) (v : Value) (lw : List UInt8), k ≤ n ∧ i = .int .i64 k ∧ Pen wr w.heap.size v lw ∧ Below w.heap.size w wr ∧ lw.length ≤ 10 * k ∧ Hid (lw = (l.take k).flatMap fun d => varB (zigV d))) (fun i _ => n - (intOf i).toNat)
  case atStart => exact ⟨0, _, [], by omega, rfl, hp, hb, by simp, Lib.hid (by simp)⟩
  case round =>
    clear hp hb w1
    obtain ⟨k, v, lw, hk, rfl, hp, hb, hlw, hlB⟩ := hrel
    by_cases hlt : k < n
    · obtain ⟨ad, u, rfl, hu, hcell⟩ := h.one hlt
      obtain ⟨x, hx, rfl⟩ : ∃ x, l[k]? = some x ∧ Value.int .i64 x = u := by simpa using hu
      have had : ad.block < B := by
        obtain ⟨ad', e', hb', _⟩ := h.at_ (by omega)
        injection e' with e'
        rw [e']; exact hb'
      have hcr : wr.cell? (ad.add k) = some (.int .i64 x) := (hb.cell (p := ad.add k) (by rw [blk_add]; omega)).trans hcell
      have hxr := Hl.out x (List.mem_of_getElem? hx)
      have hts : l.take (k + 1) = l.take k ++ [x] := take_succ hx
      have Hts := Lib.hid hts
      clear hu hx hcell hts
      go_wp2_with fail
      go_fit (varyZig_any x wr hxr)
      rintro e w2 ⟨rfl, rfl⟩
      clear hcr
      go_wp2_with fail
      go_fit (penput_any w.heap.size v lw (zigV x) wr hp (zig_lt hxr) (by omega))
      rintro e w2 ⟨rfl, v2, hp2, hb2⟩
      have hb3 := hb.trans hb2
      have hvl := (varN_len 9 (zigV x)).2
      have hvl : (varB (zigV x)).length ≤ 10 := hvl
      clear hp hb hb2
      go_wp2
      go_roundw
      case rel => exact ⟨k + 1, v2, lw ++ varB (zigV x), by omega, by go_num, hp2, hb3, by rw [List.length_append]; omega, Lib.hid (by rw [Hts.out, List.flatMap_append, ← hlB.out]; simp)⟩
      case measure => simp [intOf]; omega
    · obtain rfl : k = n := by omega
      have e : lw = oP := by rw [hlB.out, HoP.out, List.take_of_length_le (by rw [Hll.out]; exact Nat.le_refl _)]
      subst e
      obtain ⟨hbl, hown⟩ := hp
      obtain ⟨A2, c2, rfl⟩ := own_sl hown
      have c0 := blk_cell (i := 0) (v := .slice A2 lw.length c2) hbl rfl
      obtain ⟨m, hm⟩ : ∃ m, m = lw.length := ⟨_, rfl⟩
      rw [← hm] at c0 hown
      have HM := Lib.hid hm
      clear hm hlw
      go_wp2
      go_ret
      exact ⟨A2, c2, m, rfl, own_mono hown (by omega), hb⟩

end Go.Proofs.Ytplgcfjcdjlnbaa

/-
  Equality of arrays of numbers, and of records.
-/
set_option linter.unusedSimpArgs false
set_option linter.unusedVariables false
namespace Go.Proofs.Ytplgcfjcdjlnbaa
open Go.RowKit

theorem all_range_ints : ∀ (xs ys : List Int), xs.length = ys.length → ((List.range xs.length).all fun i => xs.getD i 0 == ys.getD i 0) = decide (xs = ys)
  | [], [], _ => rfl
  | x :: xs, y :: ys, h => by
    have ih := all_range_ints xs ys (by simpa using h)
    rw [List.length_cons, List.range_succ_eq_map, List.all_cons, List.all_map]
    simp only [List.getD_cons_zero, Function.comp_def, List.getD_cons_succ, ih]
    by_cases h1 : x = y <;> by_cases h2 : xs = ys <;> simp [h1, h2]
  | [], _ :: _, h => by simp at h
  | _ :: _, [], h => by simp at h
theorem eqItems_ints {P : Program} {e : TypeId} {k : IntKind} (he : P.underlying e = some (.int k)) (d : Nat) (xs ys : List Int) (w : World) :
    ∀ is : List Nat, (∀ i ∈ is, i < xs.length ∧ i < ys.length) → (Op.eqItems (d + 1) e 1 (xs.map (Value.int k)).toArray (ys.map (Value.int k)).toArray is).run P w = .ok (is.all fun i => xs.getD i 0 == ys.getD i 0) w
  | [], _ => by simp [Op.eqItems]
  | i :: is, h => by
    have ih := eqItems_ints he d xs ys w is (fun j hj => h j (List.mem_cons_of_mem _ hj))
    obtain ⟨h1, h2⟩ := h i List.mem_cons_self
    have px : (part e (xs.map (Value.int k)).toArray (i * 1)).run P w = .ok (.int k (xs.getD i 0)) w := by
      simp [part, isAgg, run_underlying he, List.getD, List.getElem?_eq_getElem h1]
    have py : (part e (ys.map (Value.int k)).toArray (i * 1)).run P w = .ok (.int k (ys.getD i 0)) w := by
      simp [part, isAgg, run_underlying he, List.getD, List.getElem?_eq_getElem h2]
    simp only [Op.eqItems, Sem.run_bind, px, py, run_equalIn_int w d e k k _ _ he, Result.andThen_ok, List.all_cons]
    cases hb : (xs.getD i 0 == ys.getD i 0)
    · simp
    · simp [ih]
theorem run_eqI_ints {P : Program} {t e : TypeId} {n : Nat} {k : IntKind} {i : TypeInfo} (ht : P.underlying t = some (.array n e)) (hi : P.info? e = some i) (hc : P.cellsOf e = 1) (he : P.underlying e = some (.int k)) (d : Nat) (xs ys : List Int) (hx : xs.length = n) (hy : ys.length = n) (w : World) :
    (Op.equalIn (d + 2) t (.agg (xs.map (Value.int k)).toArray) (.agg (ys.map (Value.int k)).toArray)).run P w = .ok (decide (xs = ys)) w := by
  rw [run_equalIn_array w (d + 1) _ _ ht hi, hc, eqItems_ints he d xs ys w _ (fun i hi => by have := List.mem_range.1 hi; omega), ← all_range_ints xs ys (by omega), hx]
theorem i32_info : (Try.prog.info? 21).map (fun i => (i.zero, i.size, i.bytes)) = some (some (.int .i32 0), 1, 4) := by kernel_rfl
theorem v12_info : (Try.prog.info? 23).map (fun i => (i.zero, i.size, i.bytes)) = some (some (.agg #[.int .i32 0, .int .i32 0, .int .i32 0, .int .i32 0, .int .i32 0, .int .i32 0, .int .i32 0, .int .i32 0, .int .i32 0, .int .i32 0, .int .i32 0, .int .i32 0]), 12, 48) := by kernel_rfl
theorem v12_eql (xs ys : List Int) (hx : xs.length = 12) (hy : ys.length = 12) (w : World) : (binOp .eql 23 (.agg (xs.map (Value.int .i32)).toArray) (.agg (ys.map (Value.int .i32)).toArray)).run Try.prog w = .ok (.bool (decide (xs = ys))) w := by
  obtain ⟨i, hi⟩ := info_parts i32_info
  rw [run_eql_struct, run_eqI_ints Try.underlying23 hi.1 (by kernel_rfl) Try.underlying21 9998 xs ys hx hy]
  rfl
theorem rec_held : Try.prog.stoodInHeld 25 = false := by kernel_rfl
theorem rec_eqI (t t' : Nat) (V V' : List Int) (hx : V.length = 12) (hy : V'.length = 12) (w : World) : (Op.equalIn 10000 25 (.agg (rcC t V).toArray) (.agg (rcC t' V').toArray)).run Try.prog w = .ok (decide (t = t' ∧ V = V')) w := by
  obtain ⟨i, hi⟩ := info_parts i32_info
  have p1 : ∀ (t : Nat) (V : List Int), (part 22 (rcC t V).toArray 0).run Try.prog w = .ok (.int .u32 (t : Int)) w := by
    intro t V
    simp [part, isAgg, run_underlying Try.underlying22, rcC]
  have p2 : ∀ (t : Nat) (V : List Int), V.length = 12 → (part 23 (rcC t V).toArray 1).run Try.prog w = .ok (.agg (V.map (Value.int .i32)).toArray) w := by
    intro t V hV
    obtain ⟨j, hj⟩ := info_parts v12_info
    simp [part, isAgg, run_underlying Try.underlying23, rcC, sizeOf, typeInfo, hj.1, hj.2.2.1]
    exact List.take_of_length_le (by simp [hV])
  have q1 : (Op.equalIn 9999 22 (.int .u32 (t : Int)) (.int .u32 (t' : Int))).run Try.prog w = .ok ((t : Int) == (t' : Int)) w := run_equalIn_int w 9998 _ .u32 .u32 _ _ Try.underlying22
  have q2 : (Op.equalIn 9999 23 (.agg (V.map (Value.int .i32)).toArray) (.agg (V'.map (Value.int .i32)).toArray)).run Try.prog w = .ok (decide (V = V')) w := run_eqI_ints Try.underlying23 hi.1 (by kernel_rfl) Try.underlying21 9997 V V' hx hy w
  rw [run_equalIn_agg w 9999 _ _ _ (by simp only [Program.fieldsOf, Try.underlying25]) rec_held]
  simp only [Program.fieldsOf, Try.underlying25, Op.eqFields]
  rw [if_pos (by decide)]
  simp only [Sem.run_bind, p1, q1, Result.andThen_ok]
  by_cases h1 : t = t'
  · subst h1
    simp only [beq_self_eq_true, Bool.not_true, Bool.false_eq_true, if_false]
    rw [if_pos (by decide)]
    simp only [Sem.run_bind, p2 _ _ hx, p2 _ _ hy, q2, Result.andThen_ok]
    by_cases h2 : V = V' <;> simp [h2]
  · have e : ((t : Int) == (t' : Int)) = false := by simp; omega
    simp [e, h1]
theorem rec_eql (t t' : Nat) (V V' : List Int) (hx : V.length = 12) (hy : V'.length = 12) (w : World) : (binOp .eql 25 (.agg (rcC t V).toArray) (.agg (rcC t' V').toArray)).run Try.prog w = .ok (.bool (decide (t = t' ∧ V = V'))) w := by
  rw [run_eql_struct, rec_eqI t t' V V' hx hy]
  rfl
theorem rec_neq (t t' : Nat) (V V' : List Int) (hx : V.length = 12) (hy : V'.length = 12) (w : World) : (binOp .neq 25 (.agg (rcC t V).toArray) (.agg (rcC t' V').toArray)).run Try.prog w = .ok (.bool (!decide (t = t' ∧ V = V'))) w := by
  rw [run_neq_struct, rec_eqI t t' V V' hx hy]
  rfl

end Go.Proofs.Ytplgcfjcdjlnbaa
