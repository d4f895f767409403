/-
  vary.Put, and the document's Put of layer 3, walked.
-/
import Derived.Test.YtplgcfjcdjlnbaaVary1
set_option linter.unusedSimpArgs false
set_option linter.unusedVariables false
namespace Go.Proofs.Ytplgcfjcdjlnbaa
open Go.RowKit NumLaw

set_option maxRecDepth 10000 in
set_option maxHeartbeats 1000000 in
theorem varyPut_any (u : Nat) (w : World) (hu : u < 18446744073709551616) : Calls Try.prog 73 #[.int .u64 u] w (RetB w (varB u)) := by
  have hp : Pen (w.alloc (.cells #[.slice none 0 0] 154)) w.heap.size (.slice none 0 0) [] := ⟨heap_alloc_new w _, World.ownsRow_nil _ _ _ _⟩
  have hb : Below w.heap.size w (w.alloc (.cells #[.slice none 0 0] 154)) := (Below.refl _ _).alloc (Nat.le_refl _) _
  have hput := penput_any w.heap.size _ [] u _ hp hu (by simp)
  clear hp
  go_enter Try.func73, Try.ntmps73
  go_wp2_with fail
  go_fit hput
  rintro e w1 ⟨rfl, v', ⟨hbl, hown⟩, hb1⟩
  obtain ⟨A, c, rfl⟩ := own_sl hown
  have c0 := blk_cell (i := 0) (v := .slice A ([] ++ varB u).length c) hbl rfl
  have hb2 : Below w.heap.size w w1 := hb.trans hb1
  rw [List.nil_append] at c0 hown
  generalize varB u = l at *
  clear hput hbl hb hb1
  obtain ⟨m, hm⟩ : ∃ m, m = l.length := ⟨_, rfl⟩
  rw [← hm] at c0 hown
  have HM := Lib.hid hm
  clear hm
  go_wp2
  go_ret
  exact ⟨A, c, m, rfl, own_mono hown (by omega), hb2⟩

set_option maxRecDepth 10000 in
set_option maxHeartbeats 2000000 in
theorem qPut03_any (u : Nat) (w : World) (hu : u < 18446744073709551616) : Calls Try.prog 75 #[.int .u64 u] w (RetB w (varB u)) := by
  obtain ⟨i0, hi⟩ := info_parts u8_info
  have Hi := Lib.hid hi
  clear hi
  go_enter Try.func75, Try.ntmps75
  go_wp2_with fail
  go_loopw [0, 3] (fun uv s wr => ∃ (j u' : Nat) (A : Option Addr) (c : Nat) (pre : List UInt8), uv = .int .u64 u' ∧ s = .slice A j c ∧ wr.ownsRow w.heap.size 5 1 (.slice A j c) j (bv pre) ∧ Below w.heap.size w wr ∧ j ≤ 9 ∧ u' * 128 ^ j ≤ u ∧ Hid (varB u = pre ++ varN (9 - j) u')) (fun uv _ _ => (intOf uv).toNat)
  case atStart => exact ⟨0, u, none, 0, [], rfl, rfl, World.ownsRow_nil _ _ _ _, Below.refl _ _, by omega, by omega, Lib.hid rfl⟩
  case round =>
    obtain ⟨j, u', A, c, pre, rfl, rfl, hown, hb, hj, hbd, hvar⟩ := hrel
    have hu' : u' < 18446744073709551616 := by
      have : u' * 1 ≤ u' * 128 ^ j := Nat.mul_le_mul_left _ (Nat.pow_pos (by omega))
      omega
    by_cases hge : 128 ≤ u'
    · have hj9 : j < 9 := by
        rcases Nat.lt_or_ge j 9 with h | h
        · exact h
        · obtain rfl : j = 9 := by omega
          have h9 : (128 : Nat) ^ 9 = 9223372036854775808 := by decide
          rw [h9] at hbd
          omega
      obtain ⟨r, hr⟩ : ∃ r, r = u' % 128 + 128 := ⟨_, rfl⟩
      have hr8 : r < 256 := by omega
      have Hst : Hid (varB u = (pre ++ [UInt8.ofNat r]) ++ varN (9 - (j + 1)) (u' / 128)) := Lib.hid (by
        rw [hvar.out, show 9 - j = (9 - (j + 1)) + 1 by omega]
        rw [varN_big (by omega), hr]
        simp)
      have hdv : u' / 128 * 128 ^ (j + 1) ≤ u := by
        rw [Nat.pow_succ, Nat.mul_comm (128 ^ j), ← Nat.mul_assoc]
        exact Nat.le_trans (Nat.mul_le_mul_right _ (Nat.div_mul_le_self u' 128)) hbd
      have e1 : (u' : Int) % 128 + 128 = (r : Int) := by omega
      have e2 : IntKind.u64.wrap (r : Int) = (r : Int) := IntWalk.u64_in _ (by omega)
      have e3 : IntKind.u8.wrap (r : Int) = (r : Int) := by simp [IntKind.wrap, IntKind.bits, IntKind.signed]; omega
      have hgt : (127 : Int) < (u' : Int) := by omega
      clear hr hvar hbd
      have hnew : Rd (wr.alloc (.cells #[.int .u8 (r : Int)] 5)) (wr.heap.size + 1) 1 (some ⟨wr.heap.size, 0, none⟩) 1 1 (bv [UInt8.ofNat r]) := by
        have := rd_const wr 5 [UInt8.ofNat r] (0, 0) (by simp [maxLen])
        rw [u8_one r hr8] at this ⊢
        exact this
      have hown2 := own_up hown (w' := wr.alloc (.cells #[.int .u8 (r : Int)] 5)) ((Below.refl _ _).alloc (Nat.le_refl _) _) (Nat.le_refl _)
      have hb2 := hb.alloc hb.size (.cells #[.int .u8 (r : Int)] 5)
      go_wp2_with (at_builtin; refine stop_ ?_)
      refine go_ (wpList_app Try.underlying26 Hi.out rfl (by omega) hown2 rfl hnew rfl (bv_one _) (k := j + 1) rfl (bv_app _ _).symm (by unfold maxLen; omega) (by omega) hb2.size ?_)
      intro A4 c4 w4 hown4 hB4
      have hb4 := hB4 hb2 hb2.size (Nat.le_refl _)
      clear hB4 hown2 hnew hb2
      go_wp2
      go_roundw
      case rel => exact ⟨j + 1, u' / 128, A4, c4, pre ++ [UInt8.ofNat r], val_int (by omega), rfl, hown4, hb4, by omega, hdv, Hst⟩
      case measure => simp [intOf]; omega
    · have hlt : u' < 128 := by omega
      have Hst : Hid (varB u = pre ++ [UInt8.ofNat u']) := Lib.hid (by rw [hvar.out, varN_small hlt])
      have hcv : IntKind.u8.wrap (u' : Int) = (u' : Int) := by simp [IntKind.wrap, IntKind.bits, IntKind.signed]; omega
      have hmod : (u' : Int) % 256 = (u' : Int) := by omega
      have hgt : ¬ (127 : Int) < (u' : Int) := by omega
      have hnew : Rd (wr.alloc (.cells #[.int .u8 (u' : Int)] 5)) (wr.heap.size + 1) 1 (some ⟨wr.heap.size, 0, none⟩) 1 1 (bv [UInt8.ofNat u']) := by
        have := rd_const wr 5 [UInt8.ofNat u'] (0, 0) (by simp [maxLen])
        rw [u8_one u' (by omega)] at this ⊢
        exact this
      have hown2 := own_up hown (w' := wr.alloc (.cells #[.int .u8 (u' : Int)] 5)) ((Below.refl _ _).alloc (Nat.le_refl _) _) (Nat.le_refl _)
      have hb2 := hb.alloc hb.size (.cells #[.int .u8 (u' : Int)] 5)
      clear hvar hbd
      go_wp2_with (at_builtin; refine stop_ ?_)
      refine go_ (wpList_app Try.underlying26 Hi.out rfl (by omega) hown2 rfl hnew rfl (bv_one _) (k := j + 1) rfl (bv_app _ _).symm (by unfold maxLen; omega) (by omega) hb2.size ?_)
      intro A4 c4 w4 hown4 hB4
      have hb4 := hB4 hb2 hb2.size (Nat.le_refl _)
      rw [← Hst.out] at hown4
      clear hB4 hown2 hnew hb2
      go_wp2
      go_ret
      exact ⟨A4, c4, j + 1, rfl, hown4, hb4⟩

end Go.Proofs.Ytplgcfjcdjlnbaa
