/-
  The document's Take whole; the law FrameTakes walked.
-/
import Derived.Test.YtmkidihcdljkiaaGreatKTFrqTake
set_option linter.unusedSimpArgs false
set_option linter.unusedVariables false
namespace Go.Proofs.YtmkidihcdljkiaaGreat
open Go.RowKit NumLaw
attribute [local go_sem] Addr.add_mid

set_option maxRecDepth 10000 in
set_option maxHeartbeats 4000000 in
theorem frqTake_any (A : Option Addr) (n c B : Nat) (b : List UInt8) (w : World) (h : Rd w B 1 A n c (bv b)) (hB : B ≤ w.heap.size) (hn : n ≤ 1000000) :
    Calls Tryz.prog 39 #[.slice A n c] w (RetT w (frTake b)) := by
  have hll := h.blen
  have hle := h.le
  have hmx := h.max
  unfold maxLen at hmx
  have hres : (w.alloc (.cells #[.int .i64 0, .int .i64 0, .slice none 0 0] 40)).heap[w.heap.size]? = some (.cells #[.int .i64 0, .int .i64 0, .slice none 0 0] 40) := heap_alloc_new w _
  have h0 : Below w.heap.size w (w.alloc (.cells #[.int .i64 0, .int .i64 0, .slice none 0 0] 40)) := (Below.refl _ _).alloc (Nat.le_refl _) _
  have hs0 : (w.alloc (.cells #[.int .i64 0, .int .i64 0, .slice none 0 0] 40)).heap.size = w.heap.size + 1 := World.size_alloc _ _
  have hh := h.up (h0.mono hB)
  have hcell : ∀ k, k < n → ∃ ad x, A = some ad ∧ b[k]? = some x ∧ (w.alloc (.cells #[.int .i64 0, .int .i64 0, .slice none 0 0] 40)).cell? (ad.add k) = some (.int .u8 (x.toNat : Int)) := fun k hk => hh.byte hk
  obtain ⟨s1, s2, s3, s4, s5, s6, he, hs⟩ := st3 hres (.int .i64 0) (.int .i64 0) (.slice none 0 0)
  have e0 := blk_cell (i := 0) (v := .int .i64 0) he rfl
  have e1 := blk_cell (i := 1) (v := .int .i64 0) he rfl
  have e2 := blk_cell (i := 2) (v := .slice none 0 0) he rfl
  clear he hs
  obtain ⟨T, hT⟩ : ∃ T, T = frTake b := ⟨_, rfl⟩
  rw [← hT]
  have hHb := fun (hb : frBeg b = false) => (show T = ⟨0, 0, [], 0, 3⟩ by rw [hT]; unfold frTake; rw [if_pos hb])
  rcases (show b = [] ∨ (∃ x0, b = [x0]) ∨ (∃ x0 x1 more, b = x0 :: x1 :: more) from by
    match b with
    | [] => exact .inl rfl
    | [x0] => exact .inr (.inl ⟨x0, rfl⟩)
    | x0 :: x1 :: more => exact .inr (.inr ⟨x0, x1, more, rfl⟩)) with rfl | ⟨x0, rfl⟩ | ⟨x0, x1, more, rfl⟩
  · obtain rfl : n = 0 := by simpa using hll.symm
    obtain rfl : T = ⟨0, 0, [], 0, 2⟩ := hT
    go_enter Tryz.func39, Tryz.ntmps39
    go_wp2
    refine bodyPost_ret (v := .tuple #[.agg #[.int .i64 0, .int .i64 0, .slice none 0 0], .int .i64 0, .int .i64 2]) (by simp [results, go_sem, e0, e1, e2]) rfl ⟨none, 0, 0, rfl, Rd.none_ _ _ _, h0⟩
  · obtain rfl : n = 1 := by simpa using hll.symm
    obtain ⟨ad, x, rfl, hx, k0⟩ := hcell 0 (by omega)
    injection hx with hx
    subst hx
    rw [addr_zero] at k0
    by_cases g0 : x0 = 181
    · have g0' : (x0.toNat : Int) = 181 := by rw [g0]; rfl
      obtain rfl : T = ⟨0, 0, [], 0, 2⟩ := by rw [hT, g0]; rfl
      clear hT g0
      go_enter Tryz.func39, Tryz.ntmps39
      go_wp2
      refine bodyPost_ret (v := .tuple #[.agg #[.int .i64 0, .int .i64 0, .slice none 0 0], .int .i64 0, .int .i64 2]) (by simp [results, go_sem, e0, e1, e2]) rfl ⟨none, 0, 0, rfl, Rd.none_ _ _ _, h0⟩
    · have g0' : ¬ (x0.toNat : Int) = 181 := fun h => g0 (UInt8.toNat_inj.1 (by show x0.toNat = 181; omega))
      have hT2 := hHb (by simp [frBeg, g0])
      clear hHb hT
      subst hT2
      go_enter Tryz.func39, Tryz.ntmps39
      go_wp2
      refine bodyPost_ret (v := .tuple #[.agg #[.int .i64 0, .int .i64 0, .slice none 0 0], .int .i64 0, .int .i64 3]) (by simp [results, go_sem, e0, e1, e2]) rfl ⟨none, 0, 0, rfl, Rd.none_ _ _ _, h0⟩
  · have hn2 : 2 ≤ n := by simp at hll; omega
    obtain ⟨ad, x, rfl, hx, k0⟩ := hcell 0 (by omega)
    injection hx with hx
    subst hx
    rw [addr_zero] at k0
    obtain ⟨ad', x, e, hx, k1⟩ := hcell 1 (by omega)
    injection e with e
    subst e
    injection hx with hx
    subst hx
    have hsp := World.cell?_spot k0
    obtain ⟨g, off, sp⟩ := ad
    simp only at hsp
    subst hsp
    rw [Addr.add_mid] at k1
    have hgt0 : (0 : Int) < (n : Int) := by omega
    have hgt1 : (1 : Int) < (n : Int) := by omega
    by_cases g0 : x0 = 181
    · have g0' : (x0.toNat : Int) = 181 := by rw [g0]; rfl
      by_cases g1 : x1 = 98
      · have g1' : (x1.toNat : Int) = 98 := by rw [g1]; rfl
        have hbg : frBeg (x0 :: x1 :: more) = true := by rw [frBeg_two, g0, g1]; rfl
        by_cases h6 : n < 6
        · obtain rfl : T = ⟨0, 0, [], 0, 2⟩ := by rw [hT]; exact frTake_short (by rw [hll]; exact h6) hbg
          clear hT hHb
          go_enter Tryz.func39, Tryz.ntmps39
          go_wp2
          refine bodyPost_ret (v := .tuple #[.agg #[.int .i64 0, .int .i64 0, .slice none 0 0], .int .i64 0, .int .i64 2]) (by simp [results, go_sem, e0, e1, e2]) rfl ⟨none, 0, 0, rfl, Rd.none_ _ _ _, h0⟩
        · obtain ⟨x2, x3, x4, x5, rest, rfl⟩ : ∃ x2 x3 x4 x5 rest, more = x2 :: x3 :: x4 :: x5 :: rest := by
            match more, hll with
            | x2 :: x3 :: x4 :: x5 :: rest, _ => exact ⟨x2, x3, x4, x5, rest, rfl⟩
            | [], hll => simp at hll; omega
            | [_], hll => simp at hll; omega
            | [_, _], hll => simp at hll; omega
            | [_, _, _], hll => simp at hll; omega
          rw [hT]
          exact frqTake_six g off n c B x0 x1 x2 x3 x4 x5 rest w h hB hn g0 g1
      · have g1' : ¬ (x1.toNat : Int) = 98 := fun h => g1 (UInt8.toNat_inj.1 (by show x1.toNat = 98; omega))
        have hT2 := hHb (by rw [frBeg_two]; simp [g1])
        clear hHb hT
        subst hT2
        go_enter Tryz.func39, Tryz.ntmps39
        go_wp2
        refine bodyPost_ret (v := .tuple #[.agg #[.int .i64 0, .int .i64 0, .slice none 0 0], .int .i64 0, .int .i64 3]) (by simp [results, go_sem, e0, e1, e2]) rfl ⟨none, 0, 0, rfl, Rd.none_ _ _ _, h0⟩
    · have g0' : ¬ (x0.toNat : Int) = 181 := fun h => g0 (UInt8.toNat_inj.1 (by show x0.toNat = 181; omega))
      have hT2 := hHb (by rw [frBeg_two]; simp [g0])
      clear hHb hT
      subst hT2
      go_enter Tryz.func39, Tryz.ntmps39
      go_wp2
      refine bodyPost_ret (v := .tuple #[.agg #[.int .i64 0, .int .i64 0, .slice none 0 0], .int .i64 0, .int .i64 3]) (by simp [results, go_sem, e0, e1, e2]) rfl ⟨none, 0, 0, rfl, Rd.none_ _ _ _, h0⟩


end Go.Proofs.YtmkidihcdljkiaaGreat
