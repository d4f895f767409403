/-
  Several texts in one: Sch11 Sch12.
-/
import Derived.Test.YtonejdjhdjckjaaKGJ
import Derived.Test.YtonejdjhdjckjaaKGK
import Derived.Lib.ConvBytes
/-
  words of a part's type walked (printed by gen_sch6.py).
-/
set_option linter.unusedSimpArgs false
set_option linter.unusedVariables false
namespace Go.Proofs.Ytonejdjhdjckjaa
open Go.RowKit NumLaw
attribute [local go_sem] Addr.add_mid
attribute [-go_sem] run_eql_struct run_neq_struct

/-- The word of a part's type. -/
def wordS (z : Int) (g : Bool) : ByteArray := if g = true then (if z = 8 then ⟨#[105, 110, 116, 54, 52, 95, 116]⟩ else if z = 4 then ⟨#[105, 110, 116, 51, 50, 95, 116]⟩ else if z = 2 then ⟨#[105, 110, 116, 49, 54, 95, 116]⟩ else ⟨#[105, 110, 116, 56, 95, 116]⟩) else (if z = 8 then ⟨#[117, 105, 110, 116, 54, 52, 95, 116]⟩ else if z = 4 then ⟨#[117, 105, 110, 116, 51, 50, 95, 116]⟩ else if z = 2 then ⟨#[117, 105, 110, 116, 49, 54, 95, 116]⟩ else ⟨#[117, 105, 110, 116, 56, 95, 116]⟩)
set_option maxRecDepth 10000 in
set_option maxHeartbeats 4000000 in
theorem digits64_any (w : World) : Calls Try.prog 80 #[.int .i64 64, .int .i64 1] w fun e w' => e = .returned (.string ⟨#[54, 52]⟩) ∧ Below w.heap.size w w' := by
  go_enter Try.func80, Try.ntmps80
  go_wp2_with fail
  go_loopw [0, 5] (fun n s wr => (∃ k : Nat, k ≤ 2 ∧ n = .int .i64 (([64, 6, 0] : List Int).getD k 0) ∧ s = .string (([⟨#[]⟩, ⟨#[52]⟩, ⟨#[54, 52]⟩] : List ByteArray).getD k default)) ∧ Below w.heap.size w wr) (fun n _ _ => (intOf n).toNat)
  case atStart => exact ⟨⟨0, by omega, rfl, rfl⟩, Below.refl _ _⟩
  case round =>
    obtain ⟨⟨k, hk, rfl, rfl⟩, hb⟩ := hrel
    rcases (show k = 0 ∨ k = 1 ∨ k = 2 by omega) with rfl | rfl | rfl
    · have hs : (([⟨#[]⟩, ⟨#[52]⟩, ⟨#[54, 52]⟩] : List ByteArray).getD 0 default) = ⟨#[]⟩ := rfl
      have hi : (([64, 6, 0] : List Int).getD 0 0) = 64 := rfl
      rw [hs, hi]
      have hrd : Rd (wr.alloc (.cells #[.int .u8 52] 5)) (wr.heap.size + 1) 1 (some ⟨wr.heap.size, 0, none⟩) 1 1 (bv [52]) := rd_const wr _ [52] (0, 0) (by simp [maxLen])
      have v1 := run_str _ 36 9 5 Try.underlying36 Try.underlying5 Try.underlying9 hrd
      have hbn : Below w.heap.size w (wr.alloc (.cells #[.int .u8 52] 5)) := hb.alloc hb.size _
      clear hrd hb
      go_wp2
      go_roundw
      case rel => exact ⟨⟨1, by omega, rfl, rfl⟩, hbn⟩
      case measure => simp [intOf]
    · have hs : (([⟨#[]⟩, ⟨#[52]⟩, ⟨#[54, 52]⟩] : List ByteArray).getD 1 default) = ⟨#[52]⟩ := rfl
      have hi : (([64, 6, 0] : List Int).getD 1 0) = 6 := rfl
      rw [hs, hi]
      have hrd : Rd (wr.alloc (.cells #[.int .u8 54] 5)) (wr.heap.size + 1) 1 (some ⟨wr.heap.size, 0, none⟩) 1 1 (bv [54]) := rd_const wr _ [54] (0, 0) (by simp [maxLen])
      have v1 := run_str _ 36 9 5 Try.underlying36 Try.underlying5 Try.underlying9 hrd
      have hbn : Below w.heap.size w (wr.alloc (.cells #[.int .u8 54] 5)) := hb.alloc hb.size _
      clear hrd hb
      go_wp2
      go_roundw
      case rel => exact ⟨⟨2, by omega, rfl, rfl⟩, hbn⟩
      case measure => simp [intOf]
    · have hs : (([⟨#[]⟩, ⟨#[52]⟩, ⟨#[54, 52]⟩] : List ByteArray).getD 2 default) = ⟨#[54, 52]⟩ := rfl
      have hi : (([64, 6, 0] : List Int).getD 2 0) = 0 := rfl
      rw [hs, hi]
      go_wp2
      go_ret
      exact ⟨rfl, hb⟩
set_option maxRecDepth 10000 in
set_option maxHeartbeats 4000000 in
theorem digits32_any (w : World) : Calls Try.prog 80 #[.int .i64 32, .int .i64 1] w fun e w' => e = .returned (.string ⟨#[51, 50]⟩) ∧ Below w.heap.size w w' := by
  go_enter Try.func80, Try.ntmps80
  go_wp2_with fail
  go_loopw [0, 5] (fun n s wr => (∃ k : Nat, k ≤ 2 ∧ n = .int .i64 (([32, 3, 0] : List Int).getD k 0) ∧ s = .string (([⟨#[]⟩, ⟨#[50]⟩, ⟨#[51, 50]⟩] : List ByteArray).getD k default)) ∧ Below w.heap.size w wr) (fun n _ _ => (intOf n).toNat)
  case atStart => exact ⟨⟨0, by omega, rfl, rfl⟩, Below.refl _ _⟩
  case round =>
    obtain ⟨⟨k, hk, rfl, rfl⟩, hb⟩ := hrel
    rcases (show k = 0 ∨ k = 1 ∨ k = 2 by omega) with rfl | rfl | rfl
    · have hs : (([⟨#[]⟩, ⟨#[50]⟩, ⟨#[51, 50]⟩] : List ByteArray).getD 0 default) = ⟨#[]⟩ := rfl
      have hi : (([32, 3, 0] : List Int).getD 0 0) = 32 := rfl
      rw [hs, hi]
      have hrd : Rd (wr.alloc (.cells #[.int .u8 50] 5)) (wr.heap.size + 1) 1 (some ⟨wr.heap.size, 0, none⟩) 1 1 (bv [50]) := rd_const wr _ [50] (0, 0) (by simp [maxLen])
      have v1 := run_str _ 36 9 5 Try.underlying36 Try.underlying5 Try.underlying9 hrd
      have hbn : Below w.heap.size w (wr.alloc (.cells #[.int .u8 50] 5)) := hb.alloc hb.size _
      clear hrd hb
      go_wp2
      go_roundw
      case rel => exact ⟨⟨1, by omega, rfl, rfl⟩, hbn⟩
      case measure => simp [intOf]
    · have hs : (([⟨#[]⟩, ⟨#[50]⟩, ⟨#[51, 50]⟩] : List ByteArray).getD 1 default) = ⟨#[50]⟩ := rfl
      have hi : (([32, 3, 0] : List Int).getD 1 0) = 3 := rfl
      rw [hs, hi]
      have hrd : Rd (wr.alloc (.cells #[.int .u8 51] 5)) (wr.heap.size + 1) 1 (some ⟨wr.heap.size, 0, none⟩) 1 1 (bv [51]) := rd_const wr _ [51] (0, 0) (by simp [maxLen])
      have v1 := run_str _ 36 9 5 Try.underlying36 Try.underlying5 Try.underlying9 hrd
      have hbn : Below w.heap.size w (wr.alloc (.cells #[.int .u8 51] 5)) := hb.alloc hb.size _
      clear hrd hb
      go_wp2
      go_roundw
      case rel => exact ⟨⟨2, by omega, rfl, rfl⟩, hbn⟩
      case measure => simp [intOf]
    · have hs : (([⟨#[]⟩, ⟨#[50]⟩, ⟨#[51, 50]⟩] : List ByteArray).getD 2 default) = ⟨#[51, 50]⟩ := rfl
      have hi : (([32, 3, 0] : List Int).getD 2 0) = 0 := rfl
      rw [hs, hi]
      go_wp2
      go_ret
      exact ⟨rfl, hb⟩
set_option maxRecDepth 10000 in
set_option maxHeartbeats 4000000 in
theorem digits16_any (w : World) : Calls Try.prog 80 #[.int .i64 16, .int .i64 1] w fun e w' => e = .returned (.string ⟨#[49, 54]⟩) ∧ Below w.heap.size w w' := by
  go_enter Try.func80, Try.ntmps80
  go_wp2_with fail
  go_loopw [0, 5] (fun n s wr => (∃ k : Nat, k ≤ 2 ∧ n = .int .i64 (([16, 1, 0] : List Int).getD k 0) ∧ s = .string (([⟨#[]⟩, ⟨#[54]⟩, ⟨#[49, 54]⟩] : List ByteArray).getD k default)) ∧ Below w.heap.size w wr) (fun n _ _ => (intOf n).toNat)
  case atStart => exact ⟨⟨0, by omega, rfl, rfl⟩, Below.refl _ _⟩
  case round =>
    obtain ⟨⟨k, hk, rfl, rfl⟩, hb⟩ := hrel
    rcases (show k = 0 ∨ k = 1 ∨ k = 2 by omega) with rfl | rfl | rfl
    · have hs : (([⟨#[]⟩, ⟨#[54]⟩, ⟨#[49, 54]⟩] : List ByteArray).getD 0 default) = ⟨#[]⟩ := rfl
      have hi : (([16, 1, 0] : List Int).getD 0 0) = 16 := rfl
      rw [hs, hi]
      have hrd : Rd (wr.alloc (.cells #[.int .u8 54] 5)) (wr.heap.size + 1) 1 (some ⟨wr.heap.size, 0, none⟩) 1 1 (bv [54]) := rd_const wr _ [54] (0, 0) (by simp [maxLen])
      have v1 := run_str _ 36 9 5 Try.underlying36 Try.underlying5 Try.underlying9 hrd
      have hbn : Below w.heap.size w (wr.alloc (.cells #[.int .u8 54] 5)) := hb.alloc hb.size _
      clear hrd hb
      go_wp2
      go_roundw
      case rel => exact ⟨⟨1, by omega, rfl, rfl⟩, hbn⟩
      case measure => simp [intOf]
    · have hs : (([⟨#[]⟩, ⟨#[54]⟩, ⟨#[49, 54]⟩] : List ByteArray).getD 1 default) = ⟨#[54]⟩ := rfl
      have hi : (([16, 1, 0] : List Int).getD 1 0) = 1 := rfl
      rw [hs, hi]
      have hrd : Rd (wr.alloc (.cells #[.int .u8 49] 5)) (wr.heap.size + 1) 1 (some ⟨wr.heap.size, 0, none⟩) 1 1 (bv [49]) := rd_const wr _ [49] (0, 0) (by simp [maxLen])
      have v1 := run_str _ 36 9 5 Try.underlying36 Try.underlying5 Try.underlying9 hrd
      have hbn : Below w.heap.size w (wr.alloc (.cells #[.int .u8 49] 5)) := hb.alloc hb.size _
      clear hrd hb
      go_wp2
      go_roundw
      case rel => exact ⟨⟨2, by omega, rfl, rfl⟩, hbn⟩
      case measure => simp [intOf]
    · have hs : (([⟨#[]⟩, ⟨#[54]⟩, ⟨#[49, 54]⟩] : List ByteArray).getD 2 default) = ⟨#[49, 54]⟩ := rfl
      have hi : (([16, 1, 0] : List Int).getD 2 0) = 0 := rfl
      rw [hs, hi]
      go_wp2
      go_ret
      exact ⟨rfl, hb⟩
set_option maxRecDepth 10000 in
set_option maxHeartbeats 4000000 in
theorem digits8_any (w : World) : Calls Try.prog 80 #[.int .i64 8, .int .i64 1] w fun e w' => e = .returned (.string ⟨#[56]⟩) ∧ Below w.heap.size w w' := by
  go_enter Try.func80, Try.ntmps80
  go_wp2_with fail
  go_loopw [0, 5] (fun n s wr => (∃ k : Nat, k ≤ 1 ∧ n = .int .i64 (([8, 0] : List Int).getD k 0) ∧ s = .string (([⟨#[]⟩, ⟨#[56]⟩] : List ByteArray).getD k default)) ∧ Below w.heap.size w wr) (fun n _ _ => (intOf n).toNat)
  case atStart => exact ⟨⟨0, by omega, rfl, rfl⟩, Below.refl _ _⟩
  case round =>
    obtain ⟨⟨k, hk, rfl, rfl⟩, hb⟩ := hrel
    rcases (show k = 0 ∨ k = 1 by omega) with rfl | rfl
    · have hs : (([⟨#[]⟩, ⟨#[56]⟩] : List ByteArray).getD 0 default) = ⟨#[]⟩ := rfl
      have hi : (([8, 0] : List Int).getD 0 0) = 8 := rfl
      rw [hs, hi]
      have hrd : Rd (wr.alloc (.cells #[.int .u8 56] 5)) (wr.heap.size + 1) 1 (some ⟨wr.heap.size, 0, none⟩) 1 1 (bv [56]) := rd_const wr _ [56] (0, 0) (by simp [maxLen])
      have v1 := run_str _ 36 9 5 Try.underlying36 Try.underlying5 Try.underlying9 hrd
      have hbn : Below w.heap.size w (wr.alloc (.cells #[.int .u8 56] 5)) := hb.alloc hb.size _
      clear hrd hb
      go_wp2
      go_roundw
      case rel => exact ⟨⟨1, by omega, rfl, rfl⟩, hbn⟩
      case measure => simp [intOf]
    · have hs : (([⟨#[]⟩, ⟨#[56]⟩] : List ByteArray).getD 1 default) = ⟨#[56]⟩ := rfl
      have hi : (([8, 0] : List Int).getD 1 0) = 0 := rfl
      rw [hs, hi]
      go_wp2
      go_ret
      exact ⟨rfl, hb⟩
set_option maxRecDepth 10000 in
set_option maxHeartbeats 4000000 in
theorem word_any (p : PtT) (hz : szQ p.sz) (w : World) : Calls Try.prog 54 #[.agg (ptC p).toArray] w fun e w' => e = .returned (.string (wordS p.sz p.sg)) ∧ Below w.heap.size w w' := by
  obtain ⟨s, z, g, m⟩ := p
  have hz : szQ z := hz
  show Calls _ _ #[.agg #[.string s, .int .i64 z, .bool g, .int .i64 m]] _ (fun e w' => e = .returned (.string (wordS z g)) ∧ Below w.heap.size w w')
  rcases hz with rfl | rfl | rfl | rfl <;> cases g
  all_goals
    go_enter Try.func54, Try.ntmps54
    go_wp2
    go_ret
    exact ⟨rfl, ((Below.refl _ _).alloc (Nat.le_refl _) _).alloc (by simp) _⟩
set_option maxRecDepth 10000 in
set_option maxHeartbeats 4000000 in
theorem qword_any (p : PtT) (hz : szQ p.sz) (w : World) : Calls Try.prog 56 #[.agg (ptC p).toArray] w fun e w' => e = .returned (.string (wordS p.sz p.sg)) ∧ Below w.heap.size w w' := by
  obtain ⟨s, z, g, m⟩ := p
  have hz : szQ z := hz
  show Calls _ _ #[.agg #[.string s, .int .i64 z, .bool g, .int .i64 m]] _ (fun e w' => e = .returned (.string (wordS z g)) ∧ Below w.heap.size w w')
  rcases hz with rfl | rfl | rfl | rfl <;> cases g
  · have hb := (Below.refl w.heap.size w).alloc (Nat.le_refl _) (.cells #[.string s, .int .i64 8, .bool false, .int .i64 m] 28)
    have a0 := heap_alloc_new w (.cells #[.string s, .int .i64 8, .bool false, .int .i64 m] 28)
    have k2 := blk_cell (i := 2) (v := .bool false) a0 rfl
    have hlt := blk_lt a0
    go_enter Try.func56, Try.ntmps56
    go_wp2_with fail
    go_fit (digits64_any _)
    rintro e w1 ⟨rfl, hbx⟩
    have hb1 := bnx hb hbx
    have q2 := (hbx.cell (p := ⟨w.heap.size, 2, none⟩) hlt).trans k2
    go_wp2
    go_ret
    exact ⟨rfl, hb1⟩
  · have hb := (Below.refl w.heap.size w).alloc (Nat.le_refl _) (.cells #[.string s, .int .i64 8, .bool true, .int .i64 m] 28)
    have a0 := heap_alloc_new w (.cells #[.string s, .int .i64 8, .bool true, .int .i64 m] 28)
    have k2 := blk_cell (i := 2) (v := .bool true) a0 rfl
    have hlt := blk_lt a0
    go_enter Try.func56, Try.ntmps56
    go_wp2_with fail
    go_fit (digits64_any _)
    rintro e w1 ⟨rfl, hbx⟩
    have hb1 := bnx hb hbx
    have q2 := (hbx.cell (p := ⟨w.heap.size, 2, none⟩) hlt).trans k2
    go_wp2
    go_ret
    exact ⟨rfl, hb1⟩
  · have hb := (Below.refl w.heap.size w).alloc (Nat.le_refl _) (.cells #[.string s, .int .i64 4, .bool false, .int .i64 m] 28)
    have a0 := heap_alloc_new w (.cells #[.string s, .int .i64 4, .bool false, .int .i64 m] 28)
    have k2 := blk_cell (i := 2) (v := .bool false) a0 rfl
    have hlt := blk_lt a0
    go_enter Try.func56, Try.ntmps56
    go_wp2_with fail
    go_fit (digits32_any _)
    rintro e w1 ⟨rfl, hbx⟩
    have hb1 := bnx hb hbx
    have q2 := (hbx.cell (p := ⟨w.heap.size, 2, none⟩) hlt).trans k2
    go_wp2
    go_ret
    exact ⟨rfl, hb1⟩
  · have hb := (Below.refl w.heap.size w).alloc (Nat.le_refl _) (.cells #[.string s, .int .i64 4, .bool true, .int .i64 m] 28)
    have a0 := heap_alloc_new w (.cells #[.string s, .int .i64 4, .bool true, .int .i64 m] 28)
    have k2 := blk_cell (i := 2) (v := .bool true) a0 rfl
    have hlt := blk_lt a0
    go_enter Try.func56, Try.ntmps56
    go_wp2_with fail
    go_fit (digits32_any _)
    rintro e w1 ⟨rfl, hbx⟩
    have hb1 := bnx hb hbx
    have q2 := (hbx.cell (p := ⟨w.heap.size, 2, none⟩) hlt).trans k2
    go_wp2
    go_ret
    exact ⟨rfl, hb1⟩
  · have hb := (Below.refl w.heap.size w).alloc (Nat.le_refl _) (.cells #[.string s, .int .i64 2, .bool false, .int .i64 m] 28)
    have a0 := heap_alloc_new w (.cells #[.string s, .int .i64 2, .bool false, .int .i64 m] 28)
    have k2 := blk_cell (i := 2) (v := .bool false) a0 rfl
    have hlt := blk_lt a0
    go_enter Try.func56, Try.ntmps56
    go_wp2_with fail
    go_fit (digits16_any _)
    rintro e w1 ⟨rfl, hbx⟩
    have hb1 := bnx hb hbx
    have q2 := (hbx.cell (p := ⟨w.heap.size, 2, none⟩) hlt).trans k2
    go_wp2
    go_ret
    exact ⟨rfl, hb1⟩
  · have hb := (Below.refl w.heap.size w).alloc (Nat.le_refl _) (.cells #[.string s, .int .i64 2, .bool true, .int .i64 m] 28)
    have a0 := heap_alloc_new w (.cells #[.string s, .int .i64 2, .bool true, .int .i64 m] 28)
    have k2 := blk_cell (i := 2) (v := .bool true) a0 rfl
    have hlt := blk_lt a0
    go_enter Try.func56, Try.ntmps56
    go_wp2_with fail
    go_fit (digits16_any _)
    rintro e w1 ⟨rfl, hbx⟩
    have hb1 := bnx hb hbx
    have q2 := (hbx.cell (p := ⟨w.heap.size, 2, none⟩) hlt).trans k2
    go_wp2
    go_ret
    exact ⟨rfl, hb1⟩
  · have hb := (Below.refl w.heap.size w).alloc (Nat.le_refl _) (.cells #[.string s, .int .i64 1, .bool false, .int .i64 m] 28)
    have a0 := heap_alloc_new w (.cells #[.string s, .int .i64 1, .bool false, .int .i64 m] 28)
    have k2 := blk_cell (i := 2) (v := .bool false) a0 rfl
    have hlt := blk_lt a0
    go_enter Try.func56, Try.ntmps56
    go_wp2_with fail
    go_fit (digits8_any _)
    rintro e w1 ⟨rfl, hbx⟩
    have hb1 := bnx hb hbx
    have q2 := (hbx.cell (p := ⟨w.heap.size, 2, none⟩) hlt).trans k2
    go_wp2
    go_ret
    exact ⟨rfl, hb1⟩
  · have hb := (Below.refl w.heap.size w).alloc (Nat.le_refl _) (.cells #[.string s, .int .i64 1, .bool true, .int .i64 m] 28)
    have a0 := heap_alloc_new w (.cells #[.string s, .int .i64 1, .bool true, .int .i64 m] 28)
    have k2 := blk_cell (i := 2) (v := .bool true) a0 rfl
    have hlt := blk_lt a0
    go_enter Try.func56, Try.ntmps56
    go_wp2_with fail
    go_fit (digits8_any _)
    rintro e w1 ⟨rfl, hbx⟩
    have hb1 := bnx hb hbx
    have q2 := (hbx.cell (p := ⟨w.heap.size, 2, none⟩) hlt).trans k2
    go_wp2
    go_ret
    exact ⟨rfl, hb1⟩

end Go.Proofs.Ytonejdjhdjckjaa

/-
  Extra: the plain law, bytes of a string walked (printed by gen_sch6.py).
-/
set_option linter.unusedSimpArgs false
set_option linter.unusedVariables false
namespace Go.Proofs.Ytonejdjhdjckjaa
open Go.RowKit NumLaw
attribute [local go_sem] Addr.add_mid
attribute [-go_sem] run_eql_struct run_neq_struct

open CrcLaw
/-- The bytes of a string. -/
def sbL (s : ByteArray) : List UInt8 := s.data.toList
theorem sb_app (a b : ByteArray) : sbL (a ++ b) = sbL a ++ sbL b := by simp [sbL, ByteArray.data_append]
theorem rd_bytes (w : World) (e : TypeId) (s : ByteArray) (hm : s.size ≤ maxLen) : Rd (Lib.bytesWorld w e s) (w.heap.size + 1) 1 (some ⟨w.heap.size, 0, none⟩) s.size (grownCap w s.size 0 e) (bv (sbL s)) := by
  refine ⟨by rw [bv_len, Nat.mul_one]; exact Array.length_toList, grownCap_ge _ _ _ _, grownCap_le_maxLen _ _ _ _ hm, fun _ => ⟨_, rfl, Nat.lt_succ_self _, fun j u hu => ?_⟩⟩
  have e1 : (⟨w.heap.size, 0, none⟩ : Addr).add j = ⟨w.heap.size, j, none⟩ := by unfold Addr.add; split <;> simp_all
  have hj : j < s.data.toList.length := by have := (List.getElem?_eq_some_iff.1 hu).1; simpa [bv, sbL] using this
  rw [e1, Lib.bytesWorld_cell w e s j (by rw [Array.length_toList] at hj; exact hj)]
  unfold bv sbL at hu
  rw [List.getElem?_map, List.getElem?_eq_getElem hj] at hu
  injection hu with hu
  rw [← hu, List.getD_eq_getElem?_getD, List.getElem?_eq_getElem hj]
  rfl
theorem below_bytes (w : World) (e : TypeId) (s : ByteArray) : Below w.heap.size w (Lib.bytesWorld w e s) := ⟨rfl, rfl, rfl, by rw [Lib.bytesWorld_size]; omega, fun k hk => Lib.bytesWorld_at_old w e s k hk⟩
/-- What a part tells, and what a message tells. -/
def emS (x : PtT) : ByteArray := wordS x.sz x.sg ++ ⟨#[32]⟩ ++ x.nm ++ ⟨#[32]⟩
def emL (x : PtT) : List UInt8 := sbL (emS x) ++ if 0 < x.mn then [UInt8.ofNat x.mn.toNat] else []
def exB (p : FmT) : List UInt8 := sbL (p.1 ++ ⟨#[32]⟩) ++ (stb PtT.sz p.2).flatMap emL
def exS (p : FmT) : Int := if p.1.toList.isEmpty = true then 0 else ((moreN 65535 (exB p) % 256) ^^^ (moreN 65535 (exB p) / 256) : Nat)
theorem word_le {z : Int} (h : szQ z) (g : Bool) : (wordS z g).size ≤ 8 := by rcases h with rfl | rfl | rfl | rfl <;> cases g <;> decide
theorem emS_le {x : PtT} (h : szQ x.sz) (hn : x.nm.size ≤ 100) : (emS x).size ≤ 200 := by
  have := word_le h x.sg
  unfold emS
  rw [ByteArray.size_append, ByteArray.size_append, ByteArray.size_append]
  have : (⟨#[32]⟩ : ByteArray).size = 1 := rfl
  omega
def NmQ (p : FmT) : Prop := p.1.size ≤ 100 ∧ (∀ x ∈ p.2, x.nm.size ≤ 100) ∧ (p.1.toList.isEmpty = p.2.isEmpty)
theorem frm_nm (id : Int) : NmQ (frm id) := by
  have hN : ∀ p : FmT, p.1.size ≤ 100 → (p.2.all fun x => decide (x.nm.size ≤ 100)) = true → p.1.toList.isEmpty = p.2.isEmpty → NmQ p := fun p h1 h2 h3 => by
    rw [List.all_eq_true] at h2
    exact ⟨h1, fun x hx => of_decide_eq_true (h2 x hx), h3⟩
  rcases frm_at id with ⟨_, hf⟩ | ⟨_, hf⟩ | ⟨_, hf⟩ | ⟨_, hf⟩ | ⟨_, hf⟩ | ⟨_, hf⟩ | ⟨_, hf⟩ | ⟨_, hf⟩ | ⟨_, hf⟩ | ⟨_, hf⟩ | ⟨_, hf⟩ | ⟨_, hf⟩ | ⟨_, hf⟩ | ⟨_, hf⟩ | ⟨_, hf⟩ | ⟨_, hf⟩ | ⟨_, hf⟩ | ⟨_, hf⟩ | ⟨_, hf⟩ | ⟨_, hf⟩ | ⟨_, hf⟩ | ⟨_, hf⟩ | ⟨hf, _⟩
  · rw [hf]
    exact hN _ (by decide) (by decide) (ba_full (by intro h2; exact absurd (congrArg (fun b : ByteArray => b.data.size) h2) (by decide)))
  · rw [hf]
    exact hN _ (by decide) (by decide) (ba_full (by intro h2; exact absurd (congrArg (fun b : ByteArray => b.data.size) h2) (by decide)))
  · rw [hf]
    exact hN _ (by decide) (by decide) (ba_full (by intro h2; exact absurd (congrArg (fun b : ByteArray => b.data.size) h2) (by decide)))
  · rw [hf]
    exact hN _ (by decide) (by decide) (ba_full (by intro h2; exact absurd (congrArg (fun b : ByteArray => b.data.size) h2) (by decide)))
  · rw [hf]
    exact hN _ (by decide) (by decide) (ba_full (by intro h2; exact absurd (congrArg (fun b : ByteArray => b.data.size) h2) (by decide)))
  · rw [hf]
    exact hN _ (by decide) (by decide) (ba_full (by intro h2; exact absurd (congrArg (fun b : ByteArray => b.data.size) h2) (by decide)))
  · rw [hf]
    exact hN _ (by decide) (by decide) (ba_full (by intro h2; exact absurd (congrArg (fun b : ByteArray => b.data.size) h2) (by decide)))
  · rw [hf]
    exact hN _ (by decide) (by decide) (ba_full (by intro h2; exact absurd (congrArg (fun b : ByteArray => b.data.size) h2) (by decide)))
  · rw [hf]
    exact hN _ (by decide) (by decide) (ba_full (by intro h2; exact absurd (congrArg (fun b : ByteArray => b.data.size) h2) (by decide)))
  · rw [hf]
    exact hN _ (by decide) (by decide) (ba_full (by intro h2; exact absurd (congrArg (fun b : ByteArray => b.data.size) h2) (by decide)))
  · rw [hf]
    exact hN _ (by decide) (by decide) (ba_full (by intro h2; exact absurd (congrArg (fun b : ByteArray => b.data.size) h2) (by decide)))
  · rw [hf]
    exact hN _ (by decide) (by decide) (ba_full (by intro h2; exact absurd (congrArg (fun b : ByteArray => b.data.size) h2) (by decide)))
  · rw [hf]
    exact hN _ (by decide) (by decide) (ba_full (by intro h2; exact absurd (congrArg (fun b : ByteArray => b.data.size) h2) (by decide)))
  · rw [hf]
    exact hN _ (by decide) (by decide) (ba_full (by intro h2; exact absurd (congrArg (fun b : ByteArray => b.data.size) h2) (by decide)))
  · rw [hf]
    exact hN _ (by decide) (by decide) (ba_full (by intro h2; exact absurd (congrArg (fun b : ByteArray => b.data.size) h2) (by decide)))
  · rw [hf]
    exact hN _ (by decide) (by decide) (ba_full (by intro h2; exact absurd (congrArg (fun b : ByteArray => b.data.size) h2) (by decide)))
  · rw [hf]
    exact hN _ (by decide) (by decide) (ba_full (by intro h2; exact absurd (congrArg (fun b : ByteArray => b.data.size) h2) (by decide)))
  · rw [hf]
    exact hN _ (by decide) (by decide) (ba_full (by intro h2; exact absurd (congrArg (fun b : ByteArray => b.data.size) h2) (by decide)))
  · rw [hf]
    exact hN _ (by decide) (by decide) (ba_full (by intro h2; exact absurd (congrArg (fun b : ByteArray => b.data.size) h2) (by decide)))
  · rw [hf]
    exact hN _ (by decide) (by decide) (ba_full (by intro h2; exact absurd (congrArg (fun b : ByteArray => b.data.size) h2) (by decide)))
  · rw [hf]
    exact hN _ (by decide) (by decide) (ba_full (by intro h2; exact absurd (congrArg (fun b : ByteArray => b.data.size) h2) (by decide)))
  · rw [hf]
    exact hN _ (by decide) (by decide) (ba_full (by intro h2; exact absurd (congrArg (fun b : ByteArray => b.data.size) h2) (by decide)))
  · rw [hf]
    exact hN _ (by decide) (by decide) (ba_empty rfl)

end Go.Proofs.Ytonejdjhdjckjaa
