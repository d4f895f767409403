/-
  The document's Values and Of of layer 16 walked (printed by gen_pvt10.py).
-/
import Derived.Test.YtmkidihcdljkiaaGreatKPPvt9
set_option linter.unusedSimpArgs false
set_option linter.unusedVariables false
namespace Go.Proofs.YtmkidihcdljkiaaGreat
open Go.RowKit NumLaw

theorem own_lit64 (w : World) (vs : List Int) (n : Nat) (hn : vs.length = n) (hm : n ≤ maxLen) : RetV vs w (.returned (.slice (some ⟨w.heap.size, 0, none⟩) n n)) (w.alloc (.cells (vs.map (Value.int .i64)).toArray 2)) := by
  subst hn
  refine ⟨_, _, _, rfl, ⟨by simp, .inr ⟨w.heap.size, vs.length, _, rfl, Nat.le_refl _, heap_alloc_new w _, Nat.le_refl _, hm, by simp, by show List.take _ (vs.map _) = _; exact List.take_of_length_le (by simp)⟩⟩, (Below.refl _ _).alloc (Nat.le_refl _) _⟩
theorem len32 : ∀ (xs : List Int), xs.length = 32 → ∃ x0 x1 x2 x3 x4 x5 x6 x7 x8 x9 x10 x11 x12 x13 x14 x15 x16 x17 x18 x19 x20 x21 x22 x23 x24 x25 x26 x27 x28 x29 x30 x31 : Int, xs = [x0, x1, x2, x3, x4, x5, x6, x7, x8, x9, x10, x11, x12, x13, x14, x15, x16, x17, x18, x19, x20, x21, x22, x23, x24, x25, x26, x27, x28, x29, x30, x31]
  | x0 :: x1 :: x2 :: x3 :: x4 :: x5 :: x6 :: x7 :: x8 :: x9 :: x10 :: x11 :: x12 :: x13 :: x14 :: x15 :: x16 :: x17 :: x18 :: x19 :: x20 :: x21 :: x22 :: x23 :: x24 :: x25 :: x26 :: x27 :: x28 :: x29 :: x30 :: x31 :: [], _ => ⟨_, _, _, _, _, _, _, _, _, _, _, _, _, _, _, _, _, _, _, _, _, _, _, _, _, _, _, _, _, _, _, _, rfl⟩
set_option maxRecDepth 100000 in
set_option maxHeartbeats 8000000 in
theorem qvalues_any (xs : List Int) (w : World) (hl : xs.length = 32) : Calls Tryz.prog 42 #[.agg (pvC xs)] w (RetV (valsOf xs) w) := by
  obtain ⟨x0, x1, x2, x3, x4, x5, x6, x7, x8, x9, x10, x11, x12, x13, x14, x15, x16, x17, x18, x19, x20, x21, x22, x23, x24, x25, x26, x27, x28, x29, x30, x31, rfl⟩ := len32 xs hl
  have hb0 : Below w.heap.size w (w.alloc (.cells (pvC [x0, x1, x2, x3, x4, x5, x6, x7, x8, x9, x10, x11, x12, x13, x14, x15, x16, x17, x18, x19, x20, x21, x22, x23, x24, x25, x26, x27, x28, x29, x30, x31]) 23)) := (Below.refl _ _).alloc (Nat.le_refl _) _
  have hbox := heap_alloc_new w (.cells (pvC [x0, x1, x2, x3, x4, x5, x6, x7, x8, x9, x10, x11, x12, x13, x14, x15, x16, x17, x18, x19, x20, x21, x22, x23, x24, x25, x26, x27, x28, x29, x30, x31]) 23)
  have c0 : (w.alloc (.cells (pvC [x0, x1, x2, x3, x4, x5, x6, x7, x8, x9, x10, x11, x12, x13, x14, x15, x16, x17, x18, x19, x20, x21, x22, x23, x24, x25, x26, x27, x28, x29, x30, x31]) 23)).cell? ⟨w.heap.size, 0, none⟩ = some (.int .i64 x0) := blk_cell hbox rfl
  have c1 : (w.alloc (.cells (pvC [x0, x1, x2, x3, x4, x5, x6, x7, x8, x9, x10, x11, x12, x13, x14, x15, x16, x17, x18, x19, x20, x21, x22, x23, x24, x25, x26, x27, x28, x29, x30, x31]) 23)).cell? ⟨w.heap.size, 1, none⟩ = some (.int .i64 x1) := blk_cell hbox rfl
  have c2 : (w.alloc (.cells (pvC [x0, x1, x2, x3, x4, x5, x6, x7, x8, x9, x10, x11, x12, x13, x14, x15, x16, x17, x18, x19, x20, x21, x22, x23, x24, x25, x26, x27, x28, x29, x30, x31]) 23)).cell? ⟨w.heap.size, 2, none⟩ = some (.int .i64 x2) := blk_cell hbox rfl
  have c3 : (w.alloc (.cells (pvC [x0, x1, x2, x3, x4, x5, x6, x7, x8, x9, x10, x11, x12, x13, x14, x15, x16, x17, x18, x19, x20, x21, x22, x23, x24, x25, x26, x27, x28, x29, x30, x31]) 23)).cell? ⟨w.heap.size, 3, none⟩ = some (.int .i64 x3) := blk_cell hbox rfl
  have c4 : (w.alloc (.cells (pvC [x0, x1, x2, x3, x4, x5, x6, x7, x8, x9, x10, x11, x12, x13, x14, x15, x16, x17, x18, x19, x20, x21, x22, x23, x24, x25, x26, x27, x28, x29, x30, x31]) 23)).cell? ⟨w.heap.size, 4, none⟩ = some (.int .i64 x4) := blk_cell hbox rfl
  have c5 : (w.alloc (.cells (pvC [x0, x1, x2, x3, x4, x5, x6, x7, x8, x9, x10, x11, x12, x13, x14, x15, x16, x17, x18, x19, x20, x21, x22, x23, x24, x25, x26, x27, x28, x29, x30, x31]) 23)).cell? ⟨w.heap.size, 5, none⟩ = some (.int .i64 x5) := blk_cell hbox rfl
  have c6 : (w.alloc (.cells (pvC [x0, x1, x2, x3, x4, x5, x6, x7, x8, x9, x10, x11, x12, x13, x14, x15, x16, x17, x18, x19, x20, x21, x22, x23, x24, x25, x26, x27, x28, x29, x30, x31]) 23)).cell? ⟨w.heap.size, 6, none⟩ = some (.int .i64 x6) := blk_cell hbox rfl
  have c7 : (w.alloc (.cells (pvC [x0, x1, x2, x3, x4, x5, x6, x7, x8, x9, x10, x11, x12, x13, x14, x15, x16, x17, x18, x19, x20, x21, x22, x23, x24, x25, x26, x27, x28, x29, x30, x31]) 23)).cell? ⟨w.heap.size, 7, none⟩ = some (.int .i64 x7) := blk_cell hbox rfl
  have c8 : (w.alloc (.cells (pvC [x0, x1, x2, x3, x4, x5, x6, x7, x8, x9, x10, x11, x12, x13, x14, x15, x16, x17, x18, x19, x20, x21, x22, x23, x24, x25, x26, x27, x28, x29, x30, x31]) 23)).cell? ⟨w.heap.size, 8, none⟩ = some (.int .i64 x8) := blk_cell hbox rfl
  have c9 : (w.alloc (.cells (pvC [x0, x1, x2, x3, x4, x5, x6, x7, x8, x9, x10, x11, x12, x13, x14, x15, x16, x17, x18, x19, x20, x21, x22, x23, x24, x25, x26, x27, x28, x29, x30, x31]) 23)).cell? ⟨w.heap.size, 9, none⟩ = some (.int .i64 x9) := blk_cell hbox rfl
  have c10 : (w.alloc (.cells (pvC [x0, x1, x2, x3, x4, x5, x6, x7, x8, x9, x10, x11, x12, x13, x14, x15, x16, x17, x18, x19, x20, x21, x22, x23, x24, x25, x26, x27, x28, x29, x30, x31]) 23)).cell? ⟨w.heap.size, 10, none⟩ = some (.int .i64 x10) := blk_cell hbox rfl
  have c11 : (w.alloc (.cells (pvC [x0, x1, x2, x3, x4, x5, x6, x7, x8, x9, x10, x11, x12, x13, x14, x15, x16, x17, x18, x19, x20, x21, x22, x23, x24, x25, x26, x27, x28, x29, x30, x31]) 23)).cell? ⟨w.heap.size, 11, none⟩ = some (.int .i64 x11) := blk_cell hbox rfl
  have c12 : (w.alloc (.cells (pvC [x0, x1, x2, x3, x4, x5, x6, x7, x8, x9, x10, x11, x12, x13, x14, x15, x16, x17, x18, x19, x20, x21, x22, x23, x24, x25, x26, x27, x28, x29, x30, x31]) 23)).cell? ⟨w.heap.size, 12, none⟩ = some (.int .i64 x12) := blk_cell hbox rfl
  have c13 : (w.alloc (.cells (pvC [x0, x1, x2, x3, x4, x5, x6, x7, x8, x9, x10, x11, x12, x13, x14, x15, x16, x17, x18, x19, x20, x21, x22, x23, x24, x25, x26, x27, x28, x29, x30, x31]) 23)).cell? ⟨w.heap.size, 13, none⟩ = some (.int .i64 x13) := blk_cell hbox rfl
  have c14 : (w.alloc (.cells (pvC [x0, x1, x2, x3, x4, x5, x6, x7, x8, x9, x10, x11, x12, x13, x14, x15, x16, x17, x18, x19, x20, x21, x22, x23, x24, x25, x26, x27, x28, x29, x30, x31]) 23)).cell? ⟨w.heap.size, 14, none⟩ = some (.int .i64 x14) := blk_cell hbox rfl
  have c15 : (w.alloc (.cells (pvC [x0, x1, x2, x3, x4, x5, x6, x7, x8, x9, x10, x11, x12, x13, x14, x15, x16, x17, x18, x19, x20, x21, x22, x23, x24, x25, x26, x27, x28, x29, x30, x31]) 23)).cell? ⟨w.heap.size, 15, none⟩ = some (.int .i64 x15) := blk_cell hbox rfl
  have c16 : (w.alloc (.cells (pvC [x0, x1, x2, x3, x4, x5, x6, x7, x8, x9, x10, x11, x12, x13, x14, x15, x16, x17, x18, x19, x20, x21, x22, x23, x24, x25, x26, x27, x28, x29, x30, x31]) 23)).cell? ⟨w.heap.size, 16, none⟩ = some (.int .i64 x16) := blk_cell hbox rfl
  have c17 : (w.alloc (.cells (pvC [x0, x1, x2, x3, x4, x5, x6, x7, x8, x9, x10, x11, x12, x13, x14, x15, x16, x17, x18, x19, x20, x21, x22, x23, x24, x25, x26, x27, x28, x29, x30, x31]) 23)).cell? ⟨w.heap.size, 17, none⟩ = some (.int .i64 x17) := blk_cell hbox rfl
  have c18 : (w.alloc (.cells (pvC [x0, x1, x2, x3, x4, x5, x6, x7, x8, x9, x10, x11, x12, x13, x14, x15, x16, x17, x18, x19, x20, x21, x22, x23, x24, x25, x26, x27, x28, x29, x30, x31]) 23)).cell? ⟨w.heap.size, 18, none⟩ = some (.int .i64 x18) := blk_cell hbox rfl
  have c19 : (w.alloc (.cells (pvC [x0, x1, x2, x3, x4, x5, x6, x7, x8, x9, x10, x11, x12, x13, x14, x15, x16, x17, x18, x19, x20, x21, x22, x23, x24, x25, x26, x27, x28, x29, x30, x31]) 23)).cell? ⟨w.heap.size, 19, none⟩ = some (.int .i64 x19) := blk_cell hbox rfl
  have c20 : (w.alloc (.cells (pvC [x0, x1, x2, x3, x4, x5, x6, x7, x8, x9, x10, x11, x12, x13, x14, x15, x16, x17, x18, x19, x20, x21, x22, x23, x24, x25, x26, x27, x28, x29, x30, x31]) 23)).cell? ⟨w.heap.size, 20, none⟩ = some (.int .i64 x20) := blk_cell hbox rfl
  have c21 : (w.alloc (.cells (pvC [x0, x1, x2, x3, x4, x5, x6, x7, x8, x9, x10, x11, x12, x13, x14, x15, x16, x17, x18, x19, x20, x21, x22, x23, x24, x25, x26, x27, x28, x29, x30, x31]) 23)).cell? ⟨w.heap.size, 21, none⟩ = some (.int .i64 x21) := blk_cell hbox rfl
  have c22 : (w.alloc (.cells (pvC [x0, x1, x2, x3, x4, x5, x6, x7, x8, x9, x10, x11, x12, x13, x14, x15, x16, x17, x18, x19, x20, x21, x22, x23, x24, x25, x26, x27, x28, x29, x30, x31]) 23)).cell? ⟨w.heap.size, 22, none⟩ = some (.int .i64 x22) := blk_cell hbox rfl
  have c23 : (w.alloc (.cells (pvC [x0, x1, x2, x3, x4, x5, x6, x7, x8, x9, x10, x11, x12, x13, x14, x15, x16, x17, x18, x19, x20, x21, x22, x23, x24, x25, x26, x27, x28, x29, x30, x31]) 23)).cell? ⟨w.heap.size, 23, none⟩ = some (.int .i64 x23) := blk_cell hbox rfl
  have c24 : (w.alloc (.cells (pvC [x0, x1, x2, x3, x4, x5, x6, x7, x8, x9, x10, x11, x12, x13, x14, x15, x16, x17, x18, x19, x20, x21, x22, x23, x24, x25, x26, x27, x28, x29, x30, x31]) 23)).cell? ⟨w.heap.size, 24, none⟩ = some (.int .i64 x24) := blk_cell hbox rfl
  have c25 : (w.alloc (.cells (pvC [x0, x1, x2, x3, x4, x5, x6, x7, x8, x9, x10, x11, x12, x13, x14, x15, x16, x17, x18, x19, x20, x21, x22, x23, x24, x25, x26, x27, x28, x29, x30, x31]) 23)).cell? ⟨w.heap.size, 25, none⟩ = some (.int .i64 x25) := blk_cell hbox rfl
  have c26 : (w.alloc (.cells (pvC [x0, x1, x2, x3, x4, x5, x6, x7, x8, x9, x10, x11, x12, x13, x14, x15, x16, x17, x18, x19, x20, x21, x22, x23, x24, x25, x26, x27, x28, x29, x30, x31]) 23)).cell? ⟨w.heap.size, 26, none⟩ = some (.int .i64 x26) := blk_cell hbox rfl
  have c27 : (w.alloc (.cells (pvC [x0, x1, x2, x3, x4, x5, x6, x7, x8, x9, x10, x11, x12, x13, x14, x15, x16, x17, x18, x19, x20, x21, x22, x23, x24, x25, x26, x27, x28, x29, x30, x31]) 23)).cell? ⟨w.heap.size, 27, none⟩ = some (.int .i64 x27) := blk_cell hbox rfl
  have c28 : (w.alloc (.cells (pvC [x0, x1, x2, x3, x4, x5, x6, x7, x8, x9, x10, x11, x12, x13, x14, x15, x16, x17, x18, x19, x20, x21, x22, x23, x24, x25, x26, x27, x28, x29, x30, x31]) 23)).cell? ⟨w.heap.size, 28, none⟩ = some (.int .i64 x28) := blk_cell hbox rfl
  have c29 : (w.alloc (.cells (pvC [x0, x1, x2, x3, x4, x5, x6, x7, x8, x9, x10, x11, x12, x13, x14, x15, x16, x17, x18, x19, x20, x21, x22, x23, x24, x25, x26, x27, x28, x29, x30, x31]) 23)).cell? ⟨w.heap.size, 29, none⟩ = some (.int .i64 x29) := blk_cell hbox rfl
  have c30 : (w.alloc (.cells (pvC [x0, x1, x2, x3, x4, x5, x6, x7, x8, x9, x10, x11, x12, x13, x14, x15, x16, x17, x18, x19, x20, x21, x22, x23, x24, x25, x26, x27, x28, x29, x30, x31]) 23)).cell? ⟨w.heap.size, 30, none⟩ = some (.int .i64 x30) := blk_cell hbox rfl
  have c31 : (w.alloc (.cells (pvC [x0, x1, x2, x3, x4, x5, x6, x7, x8, x9, x10, x11, x12, x13, x14, x15, x16, x17, x18, x19, x20, x21, x22, x23, x24, x25, x26, x27, x28, x29, x30, x31]) 23)).cell? ⟨w.heap.size, 31, none⟩ = some (.int .i64 x31) := blk_cell hbox rfl
  clear hbox
  go_enter Tryz.func42, Tryz.ntmps42
  go_wp2
  have hs : (w.alloc (.cells (pvC [x0, x1, x2, x3, x4, x5, x6, x7, x8, x9, x10, x11, x12, x13, x14, x15, x16, x17, x18, x19, x20, x21, x22, x23, x24, x25, x26, x27, x28, x29, x30, x31]) 23)).heap.size = w.heap.size + 1 := World.size_alloc _ _
  generalize (w.alloc (.cells (pvC [x0, x1, x2, x3, x4, x5, x6, x7, x8, x9, x10, x11, x12, x13, x14, x15, x16, x17, x18, x19, x20, x21, x22, x23, x24, x25, x26, x27, x28, x29, x30, x31]) 23)) = w1 at *
  clear c0 c1 c2 c3 c4 c5 c6 c7 c8 c9 c10 c11 c12 c13 c14 c15 c16 c17 c18 c19 c20 c21 c22 c23 c24 c25 c26 c27 c28 c29 c30 c31
  obtain ⟨A, n, c, he, hown, hbz⟩ := own_lit64 w1 (valsOf [x0, x1, x2, x3, x4, x5, x6, x7, x8, x9, x10, x11, x12, x13, x14, x15, x16, x17, x18, x19, x20, x21, x22, x23, x24, x25, x26, x27, x28, x29, x30, x31]) 33 rfl (by simp [maxLen])
  have hbf := bnx hb0 hbz
  have hown' := own_mono hown (base' := w.heap.size) hb0.size
  rw [hs] at he
  go_ret
  exact ⟨A, n, c, he, hown', hbf⟩

end Go.Proofs.YtmkidihcdljkiaaGreat
