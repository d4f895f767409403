/-
  the document's makers of parts walked (printed by gen_sch4.py).
-/
import Derived.Test.YtonejdjhdjckjaaGreatSch2
set_option linter.unusedSimpArgs false
set_option linter.unusedVariables false
namespace Go.Proofs.YtonejdjhdjckjaaGreat
open Go.RowKit NumLaw
attribute [local go_sem] Addr.add_mid

def RetPt (L : List PtT) (w : World) (e : Ending) (w' : World) : Prop :=
  ∃ (A : Option Addr) (n c : Nat), e = .returned (.slice A n c) ∧ RdP w' w'.heap.size A n c L ∧ Below w.heap.size w w'
set_option maxRecDepth 10000 in
theorem qu_any (s : ByteArray) (b z : Int) (hz : (b = 8 ∧ z = 1) ∨ (b = 16 ∧ z = 2) ∨ (b = 32 ∧ z = 4) ∨ (b = 64 ∧ z = 8)) (w : World) : Calls Tryz.prog 93 #[.string s, .int .i64 b] w fun e w' => e = .returned (.agg #[.string s, .int .i64 z, .bool false, .int .i64 0]) ∧ Below w.heap.size w w' := by
  rcases hz with ⟨rfl, rfl⟩ | ⟨rfl, rfl⟩ | ⟨rfl, rfl⟩ | ⟨rfl, rfl⟩
  · have a0 := heap_alloc_new w (.cells #[.string ⟨#[]⟩, .int .i64 0, .bool false, .int .i64 0] 71)
    have hb : Below w.heap.size w (w.alloc (.cells #[.string ⟨#[]⟩, .int .i64 0, .bool false, .int .i64 0] 71)) := (Below.refl _ _).alloc (Nat.le_refl _) _
    have hb' := below_setRow hb (Nat.le_refl _) (#[.string s, .int .i64 1, .bool false, .int .i64 0] : Array Value)
    have b0 := setRow_heap _ _ _ (#[.string s, .int .i64 1, .bool false, .int .i64 0] : Array Value) _ _ a0
    go_enter Tryz.func93, Tryz.ntmps93
    go_wp2_with (first | (with_reducible refine stop_storeT 71 ?_))
    generalize (w.alloc (.cells #[.string ⟨#[]⟩, .int .i64 0, .bool false, .int .i64 0] 71)) = v at *
    refine go_ (wpList_store_row rfl _ _ _ rfl w.heap.size #[.string s, .int .i64 1, .bool false, .int .i64 0] rfl rfl _ _ a0 (by kernel_rfl) rfl (by kernel_rfl) ?_)
    generalize (v.setRow w.heap.size #[.string s, .int .i64 1, .bool false, .int .i64 0]) = w9 at *
    have e0 := blk_cell (i := 0) (v := .string s) b0 rfl
    have e1 := blk_cell (i := 1) (v := .int .i64 1) b0 rfl
    have e2 := blk_cell (i := 2) (v := .bool false) b0 rfl
    have e3 := blk_cell (i := 3) (v := .int .i64 0) b0 rfl
    clear a0 b0 hb
    go_wp2
    exact bodyPost_ret (v := .agg #[.string s, .int .i64 1, .bool false, .int .i64 0]) (by simp [results, go_sem, e0, e1, e2, e3]) rfl ⟨rfl, hb'⟩
  · have a0 := heap_alloc_new w (.cells #[.string ⟨#[]⟩, .int .i64 0, .bool false, .int .i64 0] 71)
    have hb : Below w.heap.size w (w.alloc (.cells #[.string ⟨#[]⟩, .int .i64 0, .bool false, .int .i64 0] 71)) := (Below.refl _ _).alloc (Nat.le_refl _) _
    have hb' := below_setRow hb (Nat.le_refl _) (#[.string s, .int .i64 2, .bool false, .int .i64 0] : Array Value)
    have b0 := setRow_heap _ _ _ (#[.string s, .int .i64 2, .bool false, .int .i64 0] : Array Value) _ _ a0
    go_enter Tryz.func93, Tryz.ntmps93
    go_wp2_with (first | (with_reducible refine stop_storeT 71 ?_))
    generalize (w.alloc (.cells #[.string ⟨#[]⟩, .int .i64 0, .bool false, .int .i64 0] 71)) = v at *
    refine go_ (wpList_store_row rfl _ _ _ rfl w.heap.size #[.string s, .int .i64 2, .bool false, .int .i64 0] rfl rfl _ _ a0 (by kernel_rfl) rfl (by kernel_rfl) ?_)
    generalize (v.setRow w.heap.size #[.string s, .int .i64 2, .bool false, .int .i64 0]) = w9 at *
    have e0 := blk_cell (i := 0) (v := .string s) b0 rfl
    have e1 := blk_cell (i := 1) (v := .int .i64 2) b0 rfl
    have e2 := blk_cell (i := 2) (v := .bool false) b0 rfl
    have e3 := blk_cell (i := 3) (v := .int .i64 0) b0 rfl
    clear a0 b0 hb
    go_wp2
    exact bodyPost_ret (v := .agg #[.string s, .int .i64 2, .bool false, .int .i64 0]) (by simp [results, go_sem, e0, e1, e2, e3]) rfl ⟨rfl, hb'⟩
  · have a0 := heap_alloc_new w (.cells #[.string ⟨#[]⟩, .int .i64 0, .bool false, .int .i64 0] 71)
    have hb : Below w.heap.size w (w.alloc (.cells #[.string ⟨#[]⟩, .int .i64 0, .bool false, .int .i64 0] 71)) := (Below.refl _ _).alloc (Nat.le_refl _) _
    have hb' := below_setRow hb (Nat.le_refl _) (#[.string s, .int .i64 4, .bool false, .int .i64 0] : Array Value)
    have b0 := setRow_heap _ _ _ (#[.string s, .int .i64 4, .bool false, .int .i64 0] : Array Value) _ _ a0
    go_enter Tryz.func93, Tryz.ntmps93
    go_wp2_with (first | (with_reducible refine stop_storeT 71 ?_))
    generalize (w.alloc (.cells #[.string ⟨#[]⟩, .int .i64 0, .bool false, .int .i64 0] 71)) = v at *
    refine go_ (wpList_store_row rfl _ _ _ rfl w.heap.size #[.string s, .int .i64 4, .bool false, .int .i64 0] rfl rfl _ _ a0 (by kernel_rfl) rfl (by kernel_rfl) ?_)
    generalize (v.setRow w.heap.size #[.string s, .int .i64 4, .bool false, .int .i64 0]) = w9 at *
    have e0 := blk_cell (i := 0) (v := .string s) b0 rfl
    have e1 := blk_cell (i := 1) (v := .int .i64 4) b0 rfl
    have e2 := blk_cell (i := 2) (v := .bool false) b0 rfl
    have e3 := blk_cell (i := 3) (v := .int .i64 0) b0 rfl
    clear a0 b0 hb
    go_wp2
    exact bodyPost_ret (v := .agg #[.string s, .int .i64 4, .bool false, .int .i64 0]) (by simp [results, go_sem, e0, e1, e2, e3]) rfl ⟨rfl, hb'⟩
  · have a0 := heap_alloc_new w (.cells #[.string ⟨#[]⟩, .int .i64 0, .bool false, .int .i64 0] 71)
    have hb : Below w.heap.size w (w.alloc (.cells #[.string ⟨#[]⟩, .int .i64 0, .bool false, .int .i64 0] 71)) := (Below.refl _ _).alloc (Nat.le_refl _) _
    have hb' := below_setRow hb (Nat.le_refl _) (#[.string s, .int .i64 8, .bool false, .int .i64 0] : Array Value)
    have b0 := setRow_heap _ _ _ (#[.string s, .int .i64 8, .bool false, .int .i64 0] : Array Value) _ _ a0
    go_enter Tryz.func93, Tryz.ntmps93
    go_wp2_with (first | (with_reducible refine stop_storeT 71 ?_))
    generalize (w.alloc (.cells #[.string ⟨#[]⟩, .int .i64 0, .bool false, .int .i64 0] 71)) = v at *
    refine go_ (wpList_store_row rfl _ _ _ rfl w.heap.size #[.string s, .int .i64 8, .bool false, .int .i64 0] rfl rfl _ _ a0 (by kernel_rfl) rfl (by kernel_rfl) ?_)
    generalize (v.setRow w.heap.size #[.string s, .int .i64 8, .bool false, .int .i64 0]) = w9 at *
    have e0 := blk_cell (i := 0) (v := .string s) b0 rfl
    have e1 := blk_cell (i := 1) (v := .int .i64 8) b0 rfl
    have e2 := blk_cell (i := 2) (v := .bool false) b0 rfl
    have e3 := blk_cell (i := 3) (v := .int .i64 0) b0 rfl
    clear a0 b0 hb
    go_wp2
    exact bodyPost_ret (v := .agg #[.string s, .int .i64 8, .bool false, .int .i64 0]) (by simp [results, go_sem, e0, e1, e2, e3]) rfl ⟨rfl, hb'⟩
set_option maxRecDepth 10000 in
theorem qi_any (s : ByteArray) (b z : Int) (hz : (b = 8 ∧ z = 1) ∨ (b = 16 ∧ z = 2) ∨ (b = 32 ∧ z = 4) ∨ (b = 64 ∧ z = 8)) (w : World) : Calls Tryz.prog 94 #[.string s, .int .i64 b] w fun e w' => e = .returned (.agg #[.string s, .int .i64 z, .bool true, .int .i64 0]) ∧ Below w.heap.size w w' := by
  rcases hz with ⟨rfl, rfl⟩ | ⟨rfl, rfl⟩ | ⟨rfl, rfl⟩ | ⟨rfl, rfl⟩
  · have a0 := heap_alloc_new w (.cells #[.string ⟨#[]⟩, .int .i64 0, .bool false, .int .i64 0] 71)
    have hb : Below w.heap.size w (w.alloc (.cells #[.string ⟨#[]⟩, .int .i64 0, .bool false, .int .i64 0] 71)) := (Below.refl _ _).alloc (Nat.le_refl _) _
    have hb' := below_setRow hb (Nat.le_refl _) (#[.string s, .int .i64 1, .bool true, .int .i64 0] : Array Value)
    have b0 := setRow_heap _ _ _ (#[.string s, .int .i64 1, .bool true, .int .i64 0] : Array Value) _ _ a0
    go_enter Tryz.func94, Tryz.ntmps94
    go_wp2_with (first | (with_reducible refine stop_storeT 71 ?_))
    generalize (w.alloc (.cells #[.string ⟨#[]⟩, .int .i64 0, .bool false, .int .i64 0] 71)) = v at *
    refine go_ (wpList_store_row rfl _ _ _ rfl w.heap.size #[.string s, .int .i64 1, .bool true, .int .i64 0] rfl rfl _ _ a0 (by kernel_rfl) rfl (by kernel_rfl) ?_)
    generalize (v.setRow w.heap.size #[.string s, .int .i64 1, .bool true, .int .i64 0]) = w9 at *
    have e0 := blk_cell (i := 0) (v := .string s) b0 rfl
    have e1 := blk_cell (i := 1) (v := .int .i64 1) b0 rfl
    have e2 := blk_cell (i := 2) (v := .bool true) b0 rfl
    have e3 := blk_cell (i := 3) (v := .int .i64 0) b0 rfl
    clear a0 b0 hb
    go_wp2
    exact bodyPost_ret (v := .agg #[.string s, .int .i64 1, .bool true, .int .i64 0]) (by simp [results, go_sem, e0, e1, e2, e3]) rfl ⟨rfl, hb'⟩
  · have a0 := heap_alloc_new w (.cells #[.string ⟨#[]⟩, .int .i64 0, .bool false, .int .i64 0] 71)
    have hb : Below w.heap.size w (w.alloc (.cells #[.string ⟨#[]⟩, .int .i64 0, .bool false, .int .i64 0] 71)) := (Below.refl _ _).alloc (Nat.le_refl _) _
    have hb' := below_setRow hb (Nat.le_refl _) (#[.string s, .int .i64 2, .bool true, .int .i64 0] : Array Value)
    have b0 := setRow_heap _ _ _ (#[.string s, .int .i64 2, .bool true, .int .i64 0] : Array Value) _ _ a0
    go_enter Tryz.func94, Tryz.ntmps94
    go_wp2_with (first | (with_reducible refine stop_storeT 71 ?_))
    generalize (w.alloc (.cells #[.string ⟨#[]⟩, .int .i64 0, .bool false, .int .i64 0] 71)) = v at *
    refine go_ (wpList_store_row rfl _ _ _ rfl w.heap.size #[.string s, .int .i64 2, .bool true, .int .i64 0] rfl rfl _ _ a0 (by kernel_rfl) rfl (by kernel_rfl) ?_)
    generalize (v.setRow w.heap.size #[.string s, .int .i64 2, .bool true, .int .i64 0]) = w9 at *
    have e0 := blk_cell (i := 0) (v := .string s) b0 rfl
    have e1 := blk_cell (i := 1) (v := .int .i64 2) b0 rfl
    have e2 := blk_cell (i := 2) (v := .bool true) b0 rfl
    have e3 := blk_cell (i := 3) (v := .int .i64 0) b0 rfl
    clear a0 b0 hb
    go_wp2
    exact bodyPost_ret (v := .agg #[.string s, .int .i64 2, .bool true, .int .i64 0]) (by simp [results, go_sem, e0, e1, e2, e3]) rfl ⟨rfl, hb'⟩
  · have a0 := heap_alloc_new w (.cells #[.string ⟨#[]⟩, .int .i64 0, .bool false, .int .i64 0] 71)
    have hb : Below w.heap.size w (w.alloc (.cells #[.string ⟨#[]⟩, .int .i64 0, .bool false, .int .i64 0] 71)) := (Below.refl _ _).alloc (Nat.le_refl _) _
    have hb' := below_setRow hb (Nat.le_refl _) (#[.string s, .int .i64 4, .bool true, .int .i64 0] : Array Value)
    have b0 := setRow_heap _ _ _ (#[.string s, .int .i64 4, .bool true, .int .i64 0] : Array Value) _ _ a0
    go_enter Tryz.func94, Tryz.ntmps94
    go_wp2_with (first | (with_reducible refine stop_storeT 71 ?_))
    generalize (w.alloc (.cells #[.string ⟨#[]⟩, .int .i64 0, .bool false, .int .i64 0] 71)) = v at *
    refine go_ (wpList_store_row rfl _ _ _ rfl w.heap.size #[.string s, .int .i64 4, .bool true, .int .i64 0] rfl rfl _ _ a0 (by kernel_rfl) rfl (by kernel_rfl) ?_)
    generalize (v.setRow w.heap.size #[.string s, .int .i64 4, .bool true, .int .i64 0]) = w9 at *
    have e0 := blk_cell (i := 0) (v := .string s) b0 rfl
    have e1 := blk_cell (i := 1) (v := .int .i64 4) b0 rfl
    have e2 := blk_cell (i := 2) (v := .bool true) b0 rfl
    have e3 := blk_cell (i := 3) (v := .int .i64 0) b0 rfl
    clear a0 b0 hb
    go_wp2
    exact bodyPost_ret (v := .agg #[.string s, .int .i64 4, .bool true, .int .i64 0]) (by simp [results, go_sem, e0, e1, e2, e3]) rfl ⟨rfl, hb'⟩
  · have a0 := heap_alloc_new w (.cells #[.string ⟨#[]⟩, .int .i64 0, .bool false, .int .i64 0] 71)
    have hb : Below w.heap.size w (w.alloc (.cells #[.string ⟨#[]⟩, .int .i64 0, .bool false, .int .i64 0] 71)) := (Below.refl _ _).alloc (Nat.le_refl _) _
    have hb' := below_setRow hb (Nat.le_refl _) (#[.string s, .int .i64 8, .bool true, .int .i64 0] : Array Value)
    have b0 := setRow_heap _ _ _ (#[.string s, .int .i64 8, .bool true, .int .i64 0] : Array Value) _ _ a0
    go_enter Tryz.func94, Tryz.ntmps94
    go_wp2_with (first | (with_reducible refine stop_storeT 71 ?_))
    generalize (w.alloc (.cells #[.string ⟨#[]⟩, .int .i64 0, .bool false, .int .i64 0] 71)) = v at *
    refine go_ (wpList_store_row rfl _ _ _ rfl w.heap.size #[.string s, .int .i64 8, .bool true, .int .i64 0] rfl rfl _ _ a0 (by kernel_rfl) rfl (by kernel_rfl) ?_)
    generalize (v.setRow w.heap.size #[.string s, .int .i64 8, .bool true, .int .i64 0]) = w9 at *
    have e0 := blk_cell (i := 0) (v := .string s) b0 rfl
    have e1 := blk_cell (i := 1) (v := .int .i64 8) b0 rfl
    have e2 := blk_cell (i := 2) (v := .bool true) b0 rfl
    have e3 := blk_cell (i := 3) (v := .int .i64 0) b0 rfl
    clear a0 b0 hb
    go_wp2
    exact bodyPost_ret (v := .agg #[.string s, .int .i64 8, .bool true, .int .i64 0]) (by simp [results, go_sem, e0, e1, e2, e3]) rfl ⟨rfl, hb'⟩
set_option maxRecDepth 10000 in
theorem qmany_any (s : ByteArray) (m : Int) (w : World) : Calls Tryz.prog 95 #[.string s, .int .i64 m] w fun e w' => e = .returned (.agg #[.string s, .int .i64 1, .bool false, .int .i64 m]) ∧ Below w.heap.size w w' := by
  have a0 := heap_alloc_new w (.cells #[.string ⟨#[]⟩, .int .i64 0, .bool false, .int .i64 0] 71)
  have hb : Below w.heap.size w (w.alloc (.cells #[.string ⟨#[]⟩, .int .i64 0, .bool false, .int .i64 0] 71)) := (Below.refl _ _).alloc (Nat.le_refl _) _
  have hb' := below_setRow hb (Nat.le_refl _) (#[.string s, .int .i64 1, .bool false, .int .i64 m] : Array Value)
  have b0 := setRow_heap _ _ _ (#[.string s, .int .i64 1, .bool false, .int .i64 m] : Array Value) _ _ a0
  go_enter Tryz.func95, Tryz.ntmps95
  go_wp2_with (first | (with_reducible refine stop_storeT 71 ?_))
  generalize (w.alloc (.cells #[.string ⟨#[]⟩, .int .i64 0, .bool false, .int .i64 0] 71)) = v at *
  refine go_ (wpList_store_row rfl _ _ _ rfl w.heap.size #[.string s, .int .i64 1, .bool false, .int .i64 m] rfl rfl _ _ a0 (by kernel_rfl) rfl (by kernel_rfl) ?_)
  generalize (v.setRow w.heap.size #[.string s, .int .i64 1, .bool false, .int .i64 m]) = w9 at *
  have e0 := blk_cell (i := 0) (v := .string s) b0 rfl
  have e1 := blk_cell (i := 1) (v := .int .i64 1) b0 rfl
  have e2 := blk_cell (i := 2) (v := .bool false) b0 rfl
  have e3 := blk_cell (i := 3) (v := .int .i64 m) b0 rfl
  clear a0 b0 hb
  go_wp2
  exact bodyPost_ret (v := .agg #[.string s, .int .i64 1, .bool false, .int .i64 m]) (by simp [results, go_sem, e0, e1, e2, e3]) rfl ⟨rfl, hb'⟩

end Go.Proofs.YtonejdjhdjckjaaGreat
