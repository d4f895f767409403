/-
  The document's Same walked; the law FrameSteady walked.
-/
import Derived.Test.YtmkidihcdljkiaaGreatKPFrPut
import Derived.Stop.BytesEq
import Derived.Laws.CopyOwn
import Derived.Test.YtmkidihcdljkiaaGreatKPGA
set_option linter.unusedSimpArgs false
set_option linter.unusedVariables false
namespace Go.Proofs.YtmkidihcdljkiaaGreat
open Go.RowKit NumLaw

set_option maxRecDepth 10000 in
set_option maxHeartbeats 1000000 in
theorem frSame_any (c i : Int) (A : Option Addr) (n cap B : Nat) (p : List UInt8) (c' i' : Int) (A' : Option Addr) (n' cap' B' : Nat) (p' : List UInt8) (w : World) (h : Rd w B 1 A n cap (bv p)) (hB : B ≤ w.heap.size) (h' : Rd w B' 1 A' n' cap' (bv p')) (hB' : B' ≤ w.heap.size) :
    Calls Tryz.prog 12 #[.agg #[.int .i64 c, .int .i64 i, .slice A n cap], .agg #[.int .i64 c', .int .i64 i', .slice A' n' cap']] w fun e w' => e = .returned (.bool (decide (c = c' ∧ i = i' ∧ p = p'))) ∧ Below w.heap.size w w' := by
  have h1 : Below w.heap.size w (w.alloc (.cells #[.int .i64 c, .int .i64 i, .slice A n cap] 40)) := (Below.refl _ _).alloc (Nat.le_refl _) _
  have h2 := h1.alloc h1.size (.cells #[.int .i64 c', .int .i64 i', .slice A' n' cap'] 40)
  have hx : ((w.alloc (.cells #[.int .i64 c, .int .i64 i, .slice A n cap] 40)).alloc (.cells #[.int .i64 c', .int .i64 i', .slice A' n' cap'] 40)).heap[w.heap.size]? = some (.cells #[.int .i64 c, .int .i64 i, .slice A n cap] 40) := (heap_alloc_old _ _ (by simp)).trans (heap_alloc_new w _)
  have hy : ((w.alloc (.cells #[.int .i64 c, .int .i64 i, .slice A n cap] 40)).alloc (.cells #[.int .i64 c', .int .i64 i', .slice A' n' cap'] 40)).heap[w.heap.size + 1]? = some (.cells #[.int .i64 c', .int .i64 i', .slice A' n' cap'] 40) := blk_new2 _ _ _
  have v1 := run_str _ 38 9 5 Tryz.underlying38 Tryz.underlying5 Tryz.underlying9 (h.up (h2.mono hB))
  have v2 := run_str _ 38 9 5 Tryz.underlying38 Tryz.underlying5 Tryz.underlying9 (h'.up (h2.mono hB'))
  go_enter Tryz.func12, Tryz.ntmps12
  have c0 := blk_cell (i := 0) (v := .int .i64 c) hx rfl
  have c1 := blk_cell (i := 1) (v := .int .i64 i) hx rfl
  have c2 := blk_cell (i := 2) (v := .slice A n cap) hx rfl
  have d0 := blk_cell (i := 0) (v := .int .i64 c') hy rfl
  have d1 := blk_cell (i := 1) (v := .int .i64 i') hy rfl
  have d2 := blk_cell (i := 2) (v := .slice A' n' cap') hy rfl
  clear hx hy
  by_cases g1 : c = c'
  · subst g1
    by_cases g2 : i = i'
    · subst g2
      go_wp2
      go_ret
      exact ⟨congrArg (fun b => Ending.returned (.bool b)) (by rw [Bool.eq_iff_iff]; simp), h2⟩
    · go_wp2
      go_ret
      exact ⟨by simp [g2], h2⟩
  · go_wp2
    go_ret
    exact ⟨by simp [g1], h2⟩

end Go.Proofs.YtmkidihcdljkiaaGreat
