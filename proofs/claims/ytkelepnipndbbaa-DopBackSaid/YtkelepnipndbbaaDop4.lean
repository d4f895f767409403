/-
  dop.Sound and the document's (printed by gen_dop4.py).
-/
import Derived.Test.YtkelepnipndbbaaDop3
import Derived.Deep.QuietTactic
import Derived.BigQuiet
set_option linter.unusedSimpArgs false
set_option linter.unusedVariables false
namespace Go.Proofs.Ytkelepnipndbbaa
open Go.RowKit NumLaw
attribute [local go_sem] Addr.add_mid
theorem flip_ret {P : Program} {f : FuncId} {args : Array Value} {w : World} {v : Ending} (h : Calls P f args w fun e w' => e = v ∧ w = w') : Calls P f args w fun e w' => e = v ∧ w' = w := h.mono fun _ _ h => ⟨h.1, h.2.symm⟩

set_option maxRecDepth 10000 in
set_option maxHeartbeats 4000000 in
theorem sound_any (x0 x1 x2 x3 x4 x5 x6 x7 : Int) (w : World) (hb : ∀ z ∈ [x0, x1, x2, x3, x4, x5, x6, x7], -9223372036854775808 ≤ z ∧ z ≤ 9223372036854775807) :
    Calls Try.prog 41 #[.agg #[.int .i64 x0, .int .i64 x1, .int .i64 x2, .int .i64 x3, .int .i64 x4, .int .i64 x5, .int .i64 x6, .int .i64 x7]] w fun e w' => e = .returned (.bool (soundR x1 x2 x3 x4 x5 x6 x7)) ∧ Below w.heap.size w w' := by
  have h0 := fun w => holds0_any x0 x1 x2 x3 x4 x5 x6 x7 w hb
  have h1 := fun w => holds1_any x0 x1 x2 x3 x4 x5 x6 x7 w hb
  have h2 := fun w => holds2_any x0 x1 x2 x3 x4 x5 x6 x7 w hb
  unfold soundR
  obtain ⟨b0, hb0⟩ : ∃ b, b = nearB x2 (togR x4 x5) := ⟨_, rfl⟩
  rw [← hb0] at h0 ⊢
  have H0 := Lib.hid h0
  clear h0 hb0
  obtain ⟨b1, hb1⟩ : ∃ b, b = nearB x1 (togR x2 x3) := ⟨_, rfl⟩
  rw [← hb1] at h1 ⊢
  have H1 := Lib.hid h1
  clear h1 hb1
  obtain ⟨b2, hb2⟩ : ∃ b, b = nearB x5 (togR x6 x7) := ⟨_, rfl⟩
  rw [← hb2] at h2 ⊢
  have H2 := Lib.hid h2
  clear h2 hb2
  clear hb
  have hb1 : Below w.heap.size w ((w.alloc (.cells #[.int .i64 x0, .int .i64 x1, .int .i64 x2, .int .i64 x3, .int .i64 x4, .int .i64 x5, .int .i64 x6, .int .i64 x7] 58)).alloc (.cells #[.func (.func 104) #[] #[], .func (.func 106) #[] #[], .func (.func 107) #[] #[], .func (.func 103) #[] #[], .func (.func 104) #[] #[], .func (.func 105) #[] #[], .func (.func 107) #[] #[], .func (.func 108) #[] #[], .func (.func 109) #[] #[]] 126)) := ((Below.refl _ _).alloc (Nat.le_refl _) _).alloc (by simp) _
  have hd := (heap_alloc_old (w.alloc (.cells #[.int .i64 x0, .int .i64 x1, .int .i64 x2, .int .i64 x3, .int .i64 x4, .int .i64 x5, .int .i64 x6, .int .i64 x7] 58)) (.cells #[.func (.func 104) #[] #[], .func (.func 106) #[] #[], .func (.func 107) #[] #[], .func (.func 103) #[] #[], .func (.func 104) #[] #[], .func (.func 105) #[] #[], .func (.func 107) #[] #[], .func (.func 108) #[] #[], .func (.func 109) #[] #[]] 126) (blk_lt (heap_alloc_new w _))).trans (heap_alloc_new w (.cells #[.int .i64 x0, .int .i64 x1, .int .i64 x2, .int .i64 x3, .int .i64 x4, .int .i64 x5, .int .i64 x6, .int .i64 x7] 58))
  have hr := blk_new2 w (.cells #[.int .i64 x0, .int .i64 x1, .int .i64 x2, .int .i64 x3, .int .i64 x4, .int .i64 x5, .int .i64 x6, .int .i64 x7] 58) (.cells #[.func (.func 104) #[] #[], .func (.func 106) #[] #[], .func (.func 107) #[] #[], .func (.func 103) #[] #[], .func (.func 104) #[] #[], .func (.func 105) #[] #[], .func (.func 107) #[] #[], .func (.func 108) #[] #[], .func (.func 109) #[] #[]] 126)
  go_enter Try.func41, Try.ntmps41
  go_wp2_with fail
  generalize ((w.alloc (.cells #[.int .i64 x0, .int .i64 x1, .int .i64 x2, .int .i64 x3, .int .i64 x4, .int .i64 x5, .int .i64 x6, .int .i64 x7] 58)).alloc (.cells #[.func (.func 104) #[] #[], .func (.func 106) #[] #[], .func (.func 107) #[] #[], .func (.func 103) #[] #[], .func (.func 104) #[] #[], .func (.func 105) #[] #[], .func (.func 107) #[] #[], .func (.func 108) #[] #[], .func (.func 109) #[] #[]] 126)) = w1 at *
  go_loopw [26] (fun i wr => ∃ k : Nat, k ≤ 3 ∧ i = .int .i64 k ∧ Below w.heap.size w wr ∧ wr.heap[w.heap.size]? = some (.cells #[.int .i64 x0, .int .i64 x1, .int .i64 x2, .int .i64 x3, .int .i64 x4, .int .i64 x5, .int .i64 x6, .int .i64 x7] 58) ∧ wr.heap[w.heap.size + 1]? = some (.cells #[.func (.func 104) #[] #[], .func (.func 106) #[] #[], .func (.func 107) #[] #[], .func (.func 103) #[] #[], .func (.func 104) #[] #[], .func (.func 105) #[] #[], .func (.func 107) #[] #[], .func (.func 108) #[] #[], .func (.func 109) #[] #[]] 126) ∧ Hid ((0 < k → b0 = true) ∧ (1 < k → b1 = true) ∧ (2 < k → b2 = true))) (fun i _ => 3 - (intOf i).toNat)
  case atStart => exact ⟨0, by omega, rfl, hb1, hd, hr, Lib.hid ⟨fun h => absurd h (by omega), fun h => absurd h (by omega), fun h => absurd h (by omega)⟩⟩
  case round =>
    clear hb1 hd hr w1
    obtain ⟨k, hk, rfl, hb, hd, hr, hall⟩ := hrel
    rcases (by omega : k = 0 ∨ k = 1 ∨ k = 2 ∨ k = 3) with rfl | rfl | rfl | rfl
    · have k0 := blk_cell (i := 0) (v := .func (.func 104) #[] #[]) hr rfl
      have k1 := blk_cell (i := 1) (v := .func (.func 106) #[] #[]) hr rfl
      have k2 := blk_cell (i := 2) (v := .func (.func 107) #[] #[]) hr rfl
      have hb2 := hb.alloc hb.size (.cells #[.func (.func 104) #[] #[], .func (.func 106) #[] #[], .func (.func 107) #[] #[]] 126)
      have hd2 := (heap_alloc_old wr (.cells #[.func (.func 104) #[] #[], .func (.func 106) #[] #[], .func (.func 107) #[] #[]] 126) (blk_lt hd)).trans hd
      have hr2 := (heap_alloc_old wr (.cells #[.func (.func 104) #[] #[], .func (.func 106) #[] #[], .func (.func 107) #[] #[]] 126) (blk_lt hr)).trans hr
      have hn2 := heap_alloc_new wr (.cells #[.func (.func 104) #[] #[], .func (.func 106) #[] #[], .func (.func 107) #[] #[]] 126)
      have d0 := blk_cell (i := 0) (v := .int .i64 x0) hd2 rfl
      have d1 := blk_cell (i := 1) (v := .int .i64 x1) hd2 rfl
      have d2 := blk_cell (i := 2) (v := .int .i64 x2) hd2 rfl
      have d3 := blk_cell (i := 3) (v := .int .i64 x3) hd2 rfl
      have d4 := blk_cell (i := 4) (v := .int .i64 x4) hd2 rfl
      have d5 := blk_cell (i := 5) (v := .int .i64 x5) hd2 rfl
      have d6 := blk_cell (i := 6) (v := .int .i64 x6) hd2 rfl
      have d7 := blk_cell (i := 7) (v := .int .i64 x7) hd2 rfl
      go_wp2_with fail
      go_fit (H0.out _)
      rintro e w3 ⟨rfl, hb3⟩
      replace hb3' := bnx hb2 hb3
      replace hd2 := blk_old hd2 hb3 (blk_lt hd2)
      replace hr2 := blk_old hr2 hb3 (blk_lt hr2)
      clear hn2 hb2 hb3 hd hr k0 k1 k2 hb d0 d1 d2 d3 d4 d5 d6 d7
      cases hq : b0 with
      | true =>
        go_wp2
        go_roundw
        case rel => exact ⟨1, by omega, by go_num, hb3', hd2, hr2, Lib.hid ⟨fun _ => hq, fun h => absurd h (by omega), fun h => absurd h (by omega)⟩⟩
        case measure => simp [intOf]
      | false =>
        go_wp2
        go_ret
        exact ⟨by simp [hq], hb3'⟩
    · have k0 := blk_cell (i := 3) (v := .func (.func 103) #[] #[]) hr rfl
      have k1 := blk_cell (i := 4) (v := .func (.func 104) #[] #[]) hr rfl
      have k2 := blk_cell (i := 5) (v := .func (.func 105) #[] #[]) hr rfl
      have hb2 := hb.alloc hb.size (.cells #[.func (.func 103) #[] #[], .func (.func 104) #[] #[], .func (.func 105) #[] #[]] 126)
      have hd2 := (heap_alloc_old wr (.cells #[.func (.func 103) #[] #[], .func (.func 104) #[] #[], .func (.func 105) #[] #[]] 126) (blk_lt hd)).trans hd
      have hr2 := (heap_alloc_old wr (.cells #[.func (.func 103) #[] #[], .func (.func 104) #[] #[], .func (.func 105) #[] #[]] 126) (blk_lt hr)).trans hr
      have hn2 := heap_alloc_new wr (.cells #[.func (.func 103) #[] #[], .func (.func 104) #[] #[], .func (.func 105) #[] #[]] 126)
      have d0 := blk_cell (i := 0) (v := .int .i64 x0) hd2 rfl
      have d1 := blk_cell (i := 1) (v := .int .i64 x1) hd2 rfl
      have d2 := blk_cell (i := 2) (v := .int .i64 x2) hd2 rfl
      have d3 := blk_cell (i := 3) (v := .int .i64 x3) hd2 rfl
      have d4 := blk_cell (i := 4) (v := .int .i64 x4) hd2 rfl
      have d5 := blk_cell (i := 5) (v := .int .i64 x5) hd2 rfl
      have d6 := blk_cell (i := 6) (v := .int .i64 x6) hd2 rfl
      have d7 := blk_cell (i := 7) (v := .int .i64 x7) hd2 rfl
      go_wp2_with fail
      go_fit (H1.out _)
      rintro e w3 ⟨rfl, hb3⟩
      replace hb3' := bnx hb2 hb3
      replace hd2 := blk_old hd2 hb3 (blk_lt hd2)
      replace hr2 := blk_old hr2 hb3 (blk_lt hr2)
      clear hn2 hb2 hb3 hd hr k0 k1 k2 hb d0 d1 d2 d3 d4 d5 d6 d7
      cases hq : b1 with
      | true =>
        go_wp2
        go_roundw
        case rel => exact ⟨2, by omega, by go_num, hb3', hd2, hr2, Lib.hid ⟨fun _ => hall.out.1 (by omega), fun _ => hq, fun h => absurd h (by omega)⟩⟩
        case measure => simp [intOf]
      | false =>
        go_wp2
        go_ret
        exact ⟨by simp [hq], hb3'⟩
    · have k0 := blk_cell (i := 6) (v := .func (.func 107) #[] #[]) hr rfl
      have k1 := blk_cell (i := 7) (v := .func (.func 108) #[] #[]) hr rfl
      have k2 := blk_cell (i := 8) (v := .func (.func 109) #[] #[]) hr rfl
      have hb2 := hb.alloc hb.size (.cells #[.func (.func 107) #[] #[], .func (.func 108) #[] #[], .func (.func 109) #[] #[]] 126)
      have hd2 := (heap_alloc_old wr (.cells #[.func (.func 107) #[] #[], .func (.func 108) #[] #[], .func (.func 109) #[] #[]] 126) (blk_lt hd)).trans hd
      have hr2 := (heap_alloc_old wr (.cells #[.func (.func 107) #[] #[], .func (.func 108) #[] #[], .func (.func 109) #[] #[]] 126) (blk_lt hr)).trans hr
      have hn2 := heap_alloc_new wr (.cells #[.func (.func 107) #[] #[], .func (.func 108) #[] #[], .func (.func 109) #[] #[]] 126)
      have d0 := blk_cell (i := 0) (v := .int .i64 x0) hd2 rfl
      have d1 := blk_cell (i := 1) (v := .int .i64 x1) hd2 rfl
      have d2 := blk_cell (i := 2) (v := .int .i64 x2) hd2 rfl
      have d3 := blk_cell (i := 3) (v := .int .i64 x3) hd2 rfl
      have d4 := blk_cell (i := 4) (v := .int .i64 x4) hd2 rfl
      have d5 := blk_cell (i := 5) (v := .int .i64 x5) hd2 rfl
      have d6 := blk_cell (i := 6) (v := .int .i64 x6) hd2 rfl
      have d7 := blk_cell (i := 7) (v := .int .i64 x7) hd2 rfl
      go_wp2_with fail
      go_fit (H2.out _)
      rintro e w3 ⟨rfl, hb3⟩
      replace hb3' := bnx hb2 hb3
      replace hd2 := blk_old hd2 hb3 (blk_lt hd2)
      replace hr2 := blk_old hr2 hb3 (blk_lt hr2)
      clear hn2 hb2 hb3 hd hr k0 k1 k2 hb d0 d1 d2 d3 d4 d5 d6 d7
      cases hq : b2 with
      | true =>
        go_wp2
        go_roundw
        case rel => exact ⟨3, by omega, by go_num, hb3', hd2, hr2, Lib.hid ⟨fun _ => hall.out.1 (by omega), fun _ => hall.out.2.1 (by omega), fun _ => hq⟩⟩
        case measure => simp [intOf]
      | false =>
        go_wp2
        go_ret
        exact ⟨by simp [hq], hb3'⟩
    · have q0 := hall.out.1 (by omega)
      have q1 := hall.out.2.1 (by omega)
      have q2 := hall.out.2.2 (by omega)
      subst q0 q1 q2
      go_wp2
      go_ret
      exact ⟨by simp, hb⟩
theorem qnear_any (a b : Int) (w : World) (hb : 0 ≤ b ∧ b ≤ 131070) : Calls Try.prog 111 #[.int .i64 a, .int .i64 b] w fun e w' => e = .returned (.bool (nearB a b)) ∧ w = w' := by
  unfold nearB
  go_enter Try.func111, Try.ntmps111
  by_cases h : a ≤ b + 2
  · go_wp2
    go_ret
    exact ⟨by simp [h], rfl⟩
  · go_wp2
    go_ret
    exact ⟨by simp; omega, rfl⟩

end Go.Proofs.Ytkelepnipndbbaa
