/-
  The law FramePuts walked.
-/
import Derived.Test.YtglfhdkknhdphaaFrPut
import Derived.Test.YtglfhdkknhdphaaOpenRow
set_option linter.unusedSimpArgs false
set_option linter.unusedVariables false
namespace Go.Proofs.Ytglfhdkknhdphaa
open Go.RowKit NumLaw

theorem num15_any (n : Int) (w : World) : Calls Try.prog 68 #[.int .i64 n] w fun e w' => e = .returned (.int .i64 n) ∧ w = w' := by
  go_enter Try.func68, Try.ntmps68
  go_wp2
  go_ret
  exact ⟨rfl, rfl⟩
set_option maxRecDepth 10000 in
set_option maxHeartbeats 1000000 in
theorem knows15 (w : World) : Calls Try.prog 65 #[] w fun e w' => e = .returned (.bool true) ∧ Below w.heap.size w w' := by
  have h1 : Rd (w.alloc (.cells #[.int .u8 240, .int .u8 1] 5)) (w.heap.size + 1) 1 (some ⟨w.heap.size, 0, none⟩) 2 2 (bv [240, 1]) := rd_const w 5 [240, 1] (0, 0) (by simp [maxLen])
  have hp := frPut_any 6 1 _ _ _ _ _ _ h1 (by simp)
  have e1 : putB 6 1 [240, 1] = [181, 98, 6, 1, 2, 0, 240, 1, 250, 18] := by decide
  have e2 : putE 6 1 ([240, 1] : List UInt8).length = 0 := by decide
  rw [e1, e2] at hp
  have Hp := Lib.hid hp
  clear e1 e2 hp h1
  go_enter Try.func65, Try.ntmps65
  go_wp2_with fail
  go_fit Hp.out
  rintro e w1 ⟨A1, n1, c1, rfl, hown1, hb1⟩
  have hb1' := bnx ((Below.refl w.heap.size w).alloc (Nat.le_refl _) (.cells #[.int .u8 240, .int .u8 1] 5)) hb1
  have v1 := run_str w1 22 9 5 Try.underlying22 Try.underlying5 Try.underlying9 (Rd.own hown1)
  have r2 : Rd (w1.alloc (.cells #[.int .u8 181, .int .u8 98, .int .u8 6, .int .u8 1, .int .u8 2, .int .u8 0, .int .u8 240, .int .u8 1, .int .u8 250, .int .u8 18] 5)) (w1.heap.size + 1) 1 (some ⟨w1.heap.size, 0, none⟩) 10 10 (bv [181, 98, 6, 1, 2, 0, 240, 1, 250, 18]) := rd_const w1 5 [181, 98, 6, 1, 2, 0, 240, 1, 250, 18] (0, 0) (by simp [maxLen])
  have v2 := run_str _ 22 9 5 Try.underlying22 Try.underlying5 Try.underlying9 r2
  go_wp2_with fail
  go_fit (num15_any 0 _)
  rintro e w2 ⟨rfl, rfl⟩
  go_wp2
  go_ret
  exact ⟨rfl, hb1'.alloc hb1'.size _⟩

set_option maxRecDepth 10000 in
set_option maxHeartbeats 1000000 in
theorem frputs_any (c i : Int) (A : Option Addr) (n cap : Nat) (p : List UInt8) (m : Int) (w : World) (hc : -9223372036854775808 ≤ c ∧ c ≤ 9223372036854775807) (hi : -9223372036854775808 ≤ i ∧ i ≤ 9223372036854775807) (h : Rd w w.heap.size 1 A n cap (bv p)) (hm : -9223372036854775808 ≤ m ∧ m ≤ 9223372036854775807) :
    Calls Try.prog 14 #[.agg #[.int .i64 c, .int .i64 i, .slice A n cap], .int .i64 m] w fun e w' => e = .returned (.bool true) ∧ Below w.heap.size w w' := by
  have h1 : Below w.heap.size w (w.alloc (.cells #[.int .i64 c, .int .i64 i, .slice A n cap] 92)) := (Below.refl _ _).alloc (Nat.le_refl _) _
  have hbox : (w.alloc (.cells #[.int .i64 c, .int .i64 i, .slice A n cap] 92)).heap[w.heap.size]? = some (.cells #[.int .i64 c, .int .i64 i, .slice A n cap] 92) := heap_alloc_new w _
  have c2 := blk_cell (i := 2) (v := .slice A n cap) hbox rfl
  have hlb : w.heap.size < (w.alloc (.cells #[.int .i64 c, .int .i64 i, .slice A n cap] 92)).heap.size := blk_lt hbox
  go_enter Try.func14, Try.ntmps14
  by_cases hn : 1100 < n
  · go_wp2_with fail
    go_fit (knows15 _)
    rintro e w1 ⟨rfl, hb1⟩
    go_wp2
    go_ret
    exact ⟨rfl, bnx h1 hb1⟩
  · go_wp2_with fail
    go_fit (knows15 _)
    rintro e w1 ⟨rfl, hb1⟩
    replace hbox := blk_old hbox hb1 hlb
    have hb2 := bnx h1 hb1
    clear h1 hb1 hlb c2
    have hr1 := h.up hb2
    have c0 : w1.cell? ⟨w.heap.size, 0, none⟩ = some (.int .i64 c) := blk_cell hbox rfl
    have c1 : w1.cell? ⟨w.heap.size, 1, none⟩ = some (.int .i64 i) := blk_cell hbox rfl
    have c2 : w1.cell? ⟨w.heap.size, 2, none⟩ = some (.slice A n cap) := blk_cell hbox rfl
    go_wp2_with fail
    go_fit (frPut_any c i A n cap w.heap.size p w1 hr1 hb2.size)
    rintro e w3 ⟨A3, n3, c3, rfl, hown3, hb3⟩
    replace hbox := blk_old hbox hb3 (blk_lt hbox)
    replace hb3 := bnx hb2 hb3
    clear c0 c1 c2 hr1 hb2
    have hr1 := h.up hb3
    have c0 : w3.cell? ⟨w.heap.size, 0, none⟩ = some (.int .i64 c) := blk_cell hbox rfl
    have c1 : w3.cell? ⟨w.heap.size, 1, none⟩ = some (.int .i64 i) := blk_cell hbox rfl
    have c2 : w3.cell? ⟨w.heap.size, 2, none⟩ = some (.slice A n cap) := blk_cell hbox rfl
    go_wp2_with fail
    go_fit (frqPut_any c i A n cap w.heap.size p w3 hr1 hb3.size)
    rintro e w4 ⟨A4, n4, c4, rfl, hown4, hb4⟩
    have hr3 := Rd.own (own_up hown3 hb4 (Nat.le_refl _))
    have hr4 := Rd.own hown4
    replace hb4 := bnx hb3 hb4
    generalize putB c i p = l at *
    have v1 := run_str w4 22 9 5 Try.underlying22 Try.underlying5 Try.underlying9 hr3
    have v2 := run_str w4 22 9 5 Try.underlying22 Try.underlying5 Try.underlying9 hr4
    obtain ⟨s, hs⟩ : ∃ s, s = frSize m := ⟨_, rfl⟩
    have hsz := frsize_any m w4
    rw [← hs] at hsz
    unfold frSize frFits at hs
    rcases (by omega : m < 0 ∨ (0 ≤ m ∧ m ≤ 1016) ∨ (0 ≤ m ∧ 1016 < m)) with g | ⟨g1, g2⟩ | ⟨g1, g2⟩
    · rw [decide_eq_false (by omega)] at hs
      have hs0 : s = 0 := hs
      subst hs0
      clear hs
      go_wp2_with fail
      go_fit (num15_any _ _)
      rintro e w5 ⟨rfl, rfl⟩
      go_wp2_with fail
      go_fit (num15_any _ _)
      rintro e w5 ⟨rfl, rfl⟩
      go_wp2_with fail
      go_fit hsz
      rintro e w5 ⟨rfl, rfl⟩
      go_wp2
      go_ret
      exact ⟨rfl, hb4⟩
    · rw [decide_eq_true (by omega)] at hs
      have hs0 : s = m + 8 := hs
      subst hs0
      clear hs
      obtain ⟨k, rfl⟩ : ∃ k : Nat, m = k := ⟨m.toNat, by omega⟩
      go_wp2_with fail
      go_fit (num15_any _ _)
      rintro e w5 ⟨rfl, rfl⟩
      go_wp2_with fail
      go_fit (num15_any _ _)
      rintro e w5 ⟨rfl, rfl⟩
      go_wp2_with fail
      go_fit hsz
      rintro e w5 ⟨rfl, rfl⟩
      go_wp2
      go_ret
      exact ⟨rfl, hb4⟩
    · rw [decide_eq_false (by omega)] at hs
      have hs0 : s = 0 := hs
      subst hs0
      clear hs
      go_wp2_with fail
      go_fit (num15_any _ _)
      rintro e w5 ⟨rfl, rfl⟩
      go_wp2_with fail
      go_fit (num15_any _ _)
      rintro e w5 ⟨rfl, rfl⟩
      go_wp2_with fail
      go_fit hsz
      rintro e w5 ⟨rfl, rfl⟩
      go_wp2
      go_ret
      exact ⟨rfl, hb4⟩

end Go.Proofs.Ytglfhdkknhdphaa
