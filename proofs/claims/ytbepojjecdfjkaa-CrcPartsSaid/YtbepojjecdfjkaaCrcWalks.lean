/-
  What the functions of package crc, and of its reference, compute: each called once, by its text.
-/
import Derived.Test.YtbepojjecdfjkaaSlices
import Derived.Test.YtbepojjecdfjkaaCrcLaw
import Derived.Deep.RegionWith
set_option linter.unusedSimpArgs false
set_option linter.unusedVariables false
namespace Go.Proofs.Ytbepojjecdfjkaa
open Go.RowKit CrcLaw

/- crc.Step -/
theorem step_val (c : Nat) (h : c < 65536) : bits .xor .u16 ((c : Int) / 2) (bits .and .u16 (IntKind.u16.wrap (-bits .and .u16 (c : Int) 1)) 33800) = ((T c : Nat) : Int) := by
  have e1 : bits .and .u16 (c : Int) 1 = ((c % 2 : Nat) : Int) := by
    have := u16_and_nat c 1 (by omega) (by omega)
    rw [show c &&& 1 = c % 2 from Nat.and_two_pow_sub_one_eq_mod c 1] at this
    exact this
  rw [e1, show ((c : Int) / 2) = ((c / 2 : Nat) : Int) by omega]
  rcases Nat.mod_two_eq_zero_or_one c with h0 | h0 <;> rw [h0]
  · have e2 : bits .and .u16 (IntKind.u16.wrap (-((0 : Nat) : Int))) 33800 = ((0 : Nat) : Int) := by decide
    rw [e2, u16_xor_nat _ _ (by omega) (by omega)]
    simp [T, h0]
  · have e2 : bits .and .u16 (IntKind.u16.wrap (-((1 : Nat) : Int))) 33800 = ((33800 : Nat) : Int) := by decide
    rw [e2, u16_xor_nat _ _ (by omega) (by omega)]
    simp [T, h0]
set_option maxHeartbeats 400000 in
theorem step_any (c b: Nat) (w : World) (h1 : c < 65536) (h2 : b < 256) :
    Calls Try.prog 8 #[.int .u16 c, .int .u8 b] w fun e w' => e = .returned (.int .u16 (stepN c b)) ∧ w = w' := by
  have e1 := u16_xor_nat c b h1 (by omega)
  go_enter Try.func8, Try.ntmps8
  go_wp2
  go_loop [0, 9] (fun c' i => ∃ k : Nat, k ≤ 8 ∧ i = .int .i64 k ∧ c' = .int .u16 (Tn k (c ^^^ b))) (fun _ i => 8 - (intOf i).toNat)
  case atStart => exact ⟨0, by omega, rfl, rfl⟩
  case round =>
    obtain ⟨k, hk, rfl, rfl⟩ := hrel
    have hd : Tn k (c ^^^ b) < 65536 := Tn_lt k (xor_lt h1 (by omega))
    by_cases hlt : k < 8
    · go_wp2
      go_round
      case rel => exact ⟨k + 1, by omega, by go_num, by rw [step_val _ hd]; rfl⟩
      case measure => simp [intOf]; omega
    · obtain rfl : k = 8 := by omega
      go_wp2
      go_ret
      exact ⟨rfl, rfl⟩

/- crc.four -/
theorem tab_cell (w : World) (k : Nat) (h : k < 16) : (w.alloc (Obj.cells #[.int .u16 0, .int .u16 4225, .int .u16 8450, .int .u16 12675, .int .u16 16900, .int .u16 21125, .int .u16 25350, .int .u16 29575, .int .u16 33800, .int .u16 38025, .int .u16 42250, .int .u16 46475, .int .u16 50700, .int .u16 54925, .int .u16 59150, .int .u16 63375] 41)).cell? ⟨w.heap.size, k, none⟩ = some (.int .u16 (tab k)) := by
  rcases (by omega : k = 0 ∨ k = 1 ∨ k = 2 ∨ k = 3 ∨ k = 4 ∨ k = 5 ∨ k = 6 ∨ k = 7 ∨ k = 8 ∨ k = 9 ∨ k = 10 ∨ k = 11 ∨ k = 12 ∨ k = 13 ∨ k = 14 ∨ k = 15) with rfl | rfl | rfl | rfl | rfl | rfl | rfl | rfl | rfl | rfl | rfl | rfl | rfl | rfl | rfl | rfl <;> simp [tab, tabL]
set_option maxHeartbeats 400000 in
theorem four_any (c : Nat) (w : World) (h : c < 65536) :
    Calls Try.prog 19 #[.int .u16 (c : Int)] w fun e w' => e = .returned (.int .u16 (Tn 4 c)) ∧ Below w.heap.size w w' := by
  have e1 : bits .and .u16 (c : Int) 15 = ((c % 16 : Nat) : Int) := by
    have := u16_and_nat c 15 (by omega) (by omega)
    rw [show c &&& 15 = c % 16 from Nat.and_two_pow_sub_one_eq_mod c 4] at this
    exact this
  have e3 : bits .xor .u16 ((c : Int) / 16) ((tab (c % 16) : Nat) : Int) = ((Tn 4 c : Nat) : Int) := by
    rw [show ((c : Int) / 16) = ((c / 16 : Nat) : Int) by omega, u16_xor_nat _ _ (by omega) (tab_lt _), four_eq]
  have E3 := Lib.hid e3
  clear e3
  obtain ⟨k, hk⟩ : ∃ k, k = c % 16 := ⟨_, rfl⟩
  rw [← hk] at e1 E3
  have hlt : k < 16 := by omega
  have hc := tab_cell w k hlt
  clear hk
  go_enter Try.func19, Try.ntmps19
  go_wp2
  go_ret
  exact ⟨ret_int E3.out, (Below.refl _ _).alloc (Nat.le_refl _) _⟩

/- crc.More -/
set_option maxHeartbeats 400000 in
theorem more_any (c : Nat) (A : Option Addr) (n cap B : Nat) (l : List UInt8) (w : World) (h1 : c < 65536) (h : Rd w B 1 A n cap (bv l)) (hB : B ≤ w.heap.size) :
    Calls Try.prog 9 #[.int .u16 c, .slice A n cap] w fun e w' => e = .returned (.int .u16 (moreN c l)) ∧ Below w.heap.size w w' := by
  have hn := h.le
  have hm := h.max
  unfold maxLen at hm
  have hl := h.blen
  go_enter Try.func9, Try.ntmps9
  clear hl
  go_wp2
  go_loopw [0, 6, 9] (fun c' _ i wr => ∃ k : Nat, k ≤ n ∧ i = .int .i64 k ∧ c' = .int .u16 (moreN c (l.take k)) ∧ Below w.heap.size w wr) (fun _ _ i _ => n - (intOf i).toNat)
  case atStart => exact ⟨0, by omega, rfl, rfl, Below.refl _ _⟩
  case round =>
    obtain ⟨k, hk, rfl, rfl, hb⟩ := hrel
    have hd : moreN c (l.take k) < 65536 := moreN_lt _ h1
    by_cases hlt : k < n
    · obtain ⟨ad, x, rfl, hx, hc⟩ := (h.up (hb.mono hB)).byte hlt
      have hs : moreN c (l.take (k + 1)) = Tn 4 (Tn 4 (moreN c (l.take k) ^^^ x.toNat)) := by rw [take_succ hx, moreN_snoc, Tn8]; rfl
      have Hs := Lib.hid hs
      clear hs hx
      generalize moreN c (l.take k) = d at *
      have hxl : x.toNat < 256 := x.toNat_lt
      have e1 := u16_xor_nat d x.toNat hd (by omega)
      have hdx : d ^^^ x.toNat < 65536 := xor_lt hd (by omega)
      have hd4 := Tn_lt 4 hdx
      go_wp2_with fail
      refine (four_any _ _ hdx).mono ?_
      rintro e w1 ⟨rfl, hb1⟩
      go_wp2_with fail
      refine (four_any _ _ hd4).mono ?_
      rintro e w2 ⟨rfl, hb2⟩
      have hb' : Below w.heap.size w w2 := (hb.trans (hb1.mono hb.size)).trans (hb2.mono (Nat.le_trans hb.size hb1.size))
      clear hb1 hb2 hc
      go_wp2
      go_roundw
      case rel => exact ⟨k + 1, by omega, by go_num, val_int (cast_ Hs.out.symm), hb'⟩
      case measure => simp [intOf]; omega
    · obtain rfl : k = n := by omega
      have hl := h.blen
      have ht : l.take k = l := List.take_of_length_le (by omega)
      clear hl
      rw [ht]
      go_wp2
      go_ret
      exact ⟨rfl, hb⟩

/- crc.Of -/
set_option maxHeartbeats 400000 in
theorem of_any (A : Option Addr) (n cap B : Nat) (ls : List (List UInt8)) (w : World) (h : RdL w B A n cap ls) (hB : B ≤ w.heap.size) :
    Calls Try.prog 10 #[.slice A n cap] w fun e w' => e = .returned (.int .u16 (moreN 65535 ls.flatten)) ∧ Below w.heap.size w w' := by
  obtain ⟨hn, hm, hl⟩ : n ≤ cap ∧ cap ≤ maxLen ∧ ls.length = n := by obtain ⟨vs, h1, h2, _⟩ := h; exact ⟨h1.le, h1.max, h2⟩
  have Hl := Lib.hid hl
  clear hl
  unfold maxLen at hm
  go_enter Try.func10, Try.ntmps10
  go_wp2
  go_loopw [3, 5, 8] (fun c' _ i wr => ∃ k : Nat, k ≤ n ∧ i = .int .i64 k ∧ c' = .int .u16 (moreN 65535 (ls.take k).flatten) ∧ Below w.heap.size w wr) (fun _ _ i _ => n - (intOf i).toNat)
  case atStart => exact ⟨0, by omega, rfl, rfl, Below.refl _ _⟩
  case round =>
    obtain ⟨k, hk, rfl, rfl, hb⟩ := hrel
    have hd : moreN 65535 (ls.take k).flatten < 65536 := moreN_lt _ (by omega)
    by_cases hlt : k < n
    · obtain ⟨ad, l, A', n', c', rfl, hx, hc, hr⟩ := (h.up (hb.mono hB)).at_ hlt
      have hs : moreN 65535 (ls.take (k + 1)).flatten = moreN (moreN 65535 (ls.take k).flatten) l := by rw [flat_snoc hx, moreN_append]
      have Hs := Lib.hid hs
      clear hs hx
      generalize moreN 65535 (ls.take k).flatten = d at *
      go_wp2_with fail
      refine (more_any _ _ _ _ _ _ _ hd hr (Nat.le_trans hB hb.size)).mono ?_
      rintro e w1 ⟨rfl, hb1⟩
      have hb' : Below w.heap.size w w1 := (hb.trans (hb1.mono hb.size))
      clear hb1 hc
      go_wp2
      go_roundw
      case rel => exact ⟨k + 1, by omega, by go_num, val_int (cast_ Hs.out.symm), hb'⟩
      case measure => simp [intOf]; omega
    · obtain rfl : k = n := by omega
      have ht : ls.take k = ls := List.take_of_length_le (by rw [Hl.out]; omega)
      rw [ht]
      go_wp2
      go_ret
      exact ⟨rfl, hb⟩

end Go.Proofs.Ytbepojjecdfjkaa
