/-
  vary: a number in as few bytes as it needs: Put walked, the program's and the document's.
-/
import Derived.Test.YtplgcfjcdjlnbaaOctWr2
import Derived.Test.YtplgcfjcdjlnbaaOctRef
set_option linter.unusedSimpArgs false
set_option linter.unusedVariables false
namespace Go.Proofs.Ytplgcfjcdjlnbaa
open Go.RowKit NumLaw

def varN : Nat → Nat → List UInt8
  | 0, u => [UInt8.ofNat u]
  | k + 1, u => if u < 128 then [UInt8.ofNat u] else UInt8.ofNat (u % 128 + 128) :: varN k (u / 128)
def varB (u : Nat) : List UInt8 := varN 9 u
theorem varN_len (k : Nat) : ∀ u, 1 ≤ (varN k u).length ∧ (varN k u).length ≤ k + 1 := by
  induction k with
  | zero => intro u; simp [varN]
  | succ k ih =>
    intro u
    unfold varN
    split
    · simp
    · have := ih (u / 128)
      simp
      omega
theorem varN_small {k u : Nat} (h : u < 128) : varN k u = [UInt8.ofNat u] := by
  cases k with
  | zero => rfl
  | succ k => unfold varN; rw [if_pos h]
theorem varN_big {k u : Nat} (h : ¬ u < 128) : varN (k + 1) u = UInt8.ofNat (u % 128 + 128) :: varN k (u / 128) := by conv => lhs; unfold varN; rw [if_neg h]
theorem or128 : ∀ v : Fin 256, bits .or .u8 ((v.val : Nat) : Int) 128 = ((v.val % 128 + 128 : Nat) : Int) := by decide +kernel
/-- A pen at block g: its bytes' slice, the bytes. -/
def Pen (w : World) (g : Nat) (v : Value) (l : List UInt8) : Prop :=
  w.heap[g]? = some (.cells #[v] 154) ∧ w.ownsRow (g + 1) 5 1 v l.length (bv l)
theorem u8_one (n : Nat) (h : n < 256) : bv [UInt8.ofNat n] = [.int .u8 (n : Int)] := by
  have e1 : (UInt8.ofNat n).toNat = n := by rw [UInt8.toNat_ofNat']; omega
  simp [bv, e1]

set_option maxRecDepth 10000 in
set_option maxHeartbeats 2000000 in
theorem penput_any (g : Nat) (v : Value) (l : List UInt8) (u : Nat) (w : World) (h : Pen w g v l) (hu : u < 18446744073709551616) (hl : l.length ≤ 1000000) :
    Calls Try.prog 107 #[.pointer (some ⟨g, 0, none⟩), .int .u64 u] w fun e w' => e = .returned (.tuple #[]) ∧ ∃ v', Pen w' g v' (l ++ varB u) ∧ Below g w w' := by
  obtain ⟨i0, hi⟩ := info_parts u8_info
  have Hi := Lib.hid hi
  clear hi
  go_enter Try.func107, Try.ntmps107
  go_wp2_with fail
  go_loopw [1] (fun uv wr => ∃ (j u' : Nat) (A : Option Addr) (m c : Nat) (pre : List UInt8), uv = .int .u64 u' ∧ wr.heap[g]? = some (.cells #[.slice A m c] 154) ∧ wr.ownsRow (g + 1) 5 1 (.slice A m c) m (bv (l ++ pre)) ∧ Below g w wr ∧ j ≤ 9 ∧ Hid (m = l.length + j) ∧ u' * 128 ^ j ≤ u ∧ Hid (varB u = pre ++ varN (9 - j) u')) (fun uv _ => (intOf uv).toNat)
  case atStart =>
    obtain ⟨h1, h2⟩ := h
    obtain ⟨A0, c0, rfl⟩ := own_sl h2
    exact ⟨0, u, A0, l.length, c0, [], rfl, h1, by rw [List.append_nil]; exact h2, Below.refl _ _, by omega, Lib.hid rfl, by omega, Lib.hid rfl⟩
  case round =>
    clear h
    obtain ⟨j, u', A, m, c, pre, rfl, hbl, hown, hb, hj, hm, hbd, hvar⟩ := hrel
    have hgl := blk_lt hbl
    have hu' : u' < 18446744073709551616 := by
      have : u' * 1 ≤ u' * 128 ^ j := Nat.mul_le_mul_left _ (Nat.pow_pos (by omega))
      omega
    have s1 := blk_cell (i := 0) (v := .slice A m c) hbl rfl
    by_cases hge : 128 ≤ u'
    · have hj9 : j < 9 := by
        rcases Nat.lt_or_ge j 9 with h | h
        · exact h
        · obtain rfl : j = 9 := by omega
          have h9 : (128 : Nat) ^ 9 = 9223372036854775808 := by decide
          rw [h9] at hbd
          omega
      have hor := or128 ⟨u' % 256, Nat.mod_lt _ (by omega)⟩
      simp only at hor
      obtain ⟨r, hr⟩ : ∃ r, r = u' % 256 % 128 + 128 := ⟨_, rfl⟩
      rw [← hr] at hor
      have hr8 : r < 256 := by omega
      have hrv : r = u' % 128 + 128 := by omega
      have Hst : Hid (varB u = (pre ++ [UInt8.ofNat r]) ++ varN (9 - (j + 1)) (u' / 128)) := Lib.hid (by
        rw [hvar.out, show 9 - j = (9 - (j + 1)) + 1 by omega]
        rw [varN_big (by omega), hrv]
        simp)
      have hbit : bits .or .u8 ((u' : Int) % 256) 128 = (r : Int) := by rw [show ((u' : Int) % 256) = ((u' % 256 : Nat) : Int) by omega]; exact hor
      have hdv : u' / 128 * 128 ^ (j + 1) ≤ u := by
        rw [Nat.pow_succ, Nat.mul_comm (128 ^ j), ← Nat.mul_assoc]
        exact Nat.le_trans (Nat.mul_le_mul_right _ (Nat.div_mul_le_self u' 128)) hbd
      clear hor hr hrv hvar hbd
      have hnew : Rd (wr.alloc (.cells #[.int .u8 (r : Int)] 5)) (wr.heap.size + 1) 1 (some ⟨wr.heap.size, 0, none⟩) 1 1 (bv [UInt8.ofNat r]) := by
        have := rd_const wr 5 [UInt8.ofNat r] (0, 0) (by simp [maxLen])
        rw [u8_one r hr8] at this ⊢
        exact this
      have hbl2 := (heap_alloc_old wr (.cells #[.int .u8 (r : Int)] 5) hgl).trans hbl
      have hown2 := own_up hown (w' := wr.alloc (.cells #[.int .u8 (r : Int)] 5)) ((Below.refl _ _).alloc (Nat.le_refl _) _) (Nat.le_refl _)
      have hb2 := hb.alloc (by omega) (.cells #[.int .u8 (r : Int)] 5)
      go_wp2_with (at_builtin; refine stop_ ?_)
      have hmj := hm.out
      have hm9 : m ≤ 1000010 := by omega
      clear hmj
      refine go_ (wpList_app Try.underlying26 Hi.out rfl (by omega) hown2 rfl hnew rfl (bv_one _) (k := m + 1) rfl (bv_app _ _).symm (by unfold maxLen; omega) (by omega) (by simp; omega) ?_)
      intro A4 c4 w4 hown4 hB4
      have hb4 := hB4 hb2 (by simp; omega) (by omega)
      have hbl4 := blk_old hbl2 (hB4 (Below.refl (g + 1) _) (by simp; omega) (Nat.le_refl _)) (by omega)
      clear hB4 hown2 hnew hb2 hbl2 s1
      have s1 := blk_cell (i := 0) (v := .slice A m c) hbl4 rfl
      have s2 := blk_free (i := 0) hbl4
      have hbl5 := blk_set (i := 0) hbl4 (.slice A4 (m + 1) c4)
      have hown5 := own_set hown4 (show g < g + 1 by omega) (i := 0) (.slice A4 (m + 1) c4)
      have hb5 := hb4.setCell (p := ⟨g, 0, none⟩) (Nat.le_refl _) (.slice A4 (m + 1) c4)
      go_wp2
      go_roundw
      case rel => exact ⟨j + 1, u' / 128, A4, m + 1, c4, pre ++ [UInt8.ofNat r], val_int (by omega), hbl5, by rw [← List.append_assoc]; exact hown5, hb5, by omega, Lib.hid (by rw [hm.out]; omega), hdv, Hst⟩
      case measure => simp [intOf]; omega
    · have hlt : u' < 128 := by omega
      have Hst : Hid (varB u = pre ++ [UInt8.ofNat u']) := Lib.hid (by rw [hvar.out, varN_small hlt])
      have hcv : IntKind.u8.wrap (u' : Int) = (u' : Int) := by simp [IntKind.wrap, IntKind.bits, IntKind.signed]; omega
      have hmod : (u' : Int) % 256 = (u' : Int) := by omega
      have hnew : Rd (wr.alloc (.cells #[.int .u8 (u' : Int)] 5)) (wr.heap.size + 1) 1 (some ⟨wr.heap.size, 0, none⟩) 1 1 (bv [UInt8.ofNat u']) := by
        have := rd_const wr 5 [UInt8.ofNat u'] (0, 0) (by simp [maxLen])
        rw [u8_one u' (by omega)] at this ⊢
        exact this
      have hbl2 := (heap_alloc_old wr (.cells #[.int .u8 (u' : Int)] 5) hgl).trans hbl
      have hown2 := own_up hown (w' := wr.alloc (.cells #[.int .u8 (u' : Int)] 5)) ((Below.refl _ _).alloc (Nat.le_refl _) _) (Nat.le_refl _)
      have hb2 := hb.alloc (by omega) (.cells #[.int .u8 (u' : Int)] 5)
      clear hvar hbd
      go_wp2_with (at_builtin; refine stop_ ?_)
      have hmj := hm.out
      have hm9 : m ≤ 1000010 := by omega
      clear hmj
      refine go_ (wpList_app Try.underlying26 Hi.out rfl (by omega) hown2 rfl hnew rfl (bv_one _) (k := m + 1) rfl (bv_app _ _).symm (by unfold maxLen; omega) (by omega) (by simp; omega) ?_)
      intro A4 c4 w4 hown4 hB4
      have hb4 := hB4 hb2 (by simp; omega) (by omega)
      have hbl4 := blk_old hbl2 (hB4 (Below.refl (g + 1) _) (by simp; omega) (Nat.le_refl _)) (by omega)
      clear hB4 hown2 hnew hb2 hbl2 s1
      have s1 := blk_cell (i := 0) (v := .slice A m c) hbl4 rfl
      have s2 := blk_free (i := 0) hbl4
      have hbl5 := blk_set (i := 0) hbl4 (.slice A4 (m + 1) c4)
      have hown5 := own_set hown4 (show g < g + 1 by omega) (i := 0) (.slice A4 (m + 1) c4)
      have hb5 := hb4.setCell (p := ⟨g, 0, none⟩) (Nat.le_refl _) (.slice A4 (m + 1) c4)
      rw [List.append_assoc, ← Hst.out] at hown5
      have hlen := own_len hown5
      go_wp2
      ((try simp only [Exit.inBlock, Exit.then]); refine bodyPost_end (results_none rfl _ _ _) rfl ?_)
      exact ⟨rfl, _, ⟨hbl5, by rw [hlen]; exact hown5⟩, hb5⟩

end Go.Proofs.Ytplgcfjcdjlnbaa
