/-
  The fields of layer 17, and the document's; a satellite's numbers, and the satellite of numbers (printed by gen_sats1.py).
-/
import Derived.Test.YtkelepnipndbbaaSatsLaw
import Derived.Test.YtkelepnipndbbaaShTells
import Derived.Test.YtkelepnipndbbaaRowR
import Derived.Test.YtkelepnipndbbaaBig
set_option linter.unusedSimpArgs false
set_option linter.unusedVariables false
namespace Go.Proofs.Ytkelepnipndbbaa
open Go.RowKit NumLaw

theorem retF_lit7 (w w0 : World) (hb0 : Below w0.heap.size w0 w) (e : TypeId) (l : List FieldV) (cs : Array Value) (hcs : cs = (fcs l).toArray) (hm : l.length ≤ 1000) (hb : FB l) (n : Nat) (hn : l.length = n) : RetF l w0 (.returned (.slice (some ⟨w.heap.size, 0, none⟩) n n)) (w.alloc (.cells cs e)) := by
  subst hn
  refine ⟨_, _, _, rfl, hm, ?_, hb0.alloc hb0.size _⟩
  rw [World.size_alloc]
  exact rdF_lit w e l cs hcs (by unfold maxLen; omega) hb
theorem any1u : anyF 1 false = ⟨1, false, 0, 255⟩ := by simp [anyF, fitsF]
theorem any2s : anyF 2 true = ⟨2, true, -32768, 32767⟩ := by simp [anyF, fitsF]
theorem any4u : anyF 4 false = ⟨4, false, 0, 4294967295⟩ := by simp [anyF, fitsF]

set_option maxRecDepth 10000 in
set_option maxHeartbeats 2000000 in
theorem satsHead_any (w : World) : Calls Try.prog 68 #[] w (RetF headF w) := by
  have hb0 : Below w.heap.size w w := Below.refl _ _
  have a1 := fun w => shU_any 4 604799999 w
  rw [if_pos (by decide)] at a1
  unfold fv at a1
  have a2 := fun w => shU_any 1 64 w
  rw [if_pos (by decide)] at a2
  unfold fv at a2
  have a3 := fun w => shU_any 2 0 w
  rw [if_pos (by decide)] at a3
  unfold fv at a3
  go_enter Try.func68, Try.ntmps68
  go_wp2_with fail
  go_fit (a1 _)
  rintro e w1 ⟨rfl, hc1⟩
  have hb1 := bnx hb0 hc1
  clear hc1
  go_wp2_with fail
  go_fit (a2 _)
  rintro e w2 ⟨rfl, hc2⟩
  have hb2 := bnx hb1 hc2
  clear hc2
  go_wp2_with fail
  go_fit (a3 _)
  rintro e w3 ⟨rfl, hc3⟩
  have hb3 := bnx hb2 hc3
  clear hc3
  go_wp2
  go_ret
  exact retF_lit7 w3 w hb3 _ headF _ rfl (by simp [headF]) headF_b 4 rfl

set_option maxRecDepth 10000 in
set_option maxHeartbeats 2000000 in
theorem satsShape_any (w : World) : Calls Try.prog 70 #[] w (RetF satF w) := by
  have hb0 : Below w.heap.size w w := Below.refl _ _
  have a1 := fun w => shU_any 1 7 w
  rw [if_pos (by decide)] at a1
  unfold fv at a1
  have a2 := fun w => shAny_any 1 false w
  rw [any1u] at a2
  unfold fv at a2
  have a3 := fun w => shU_any 1 63 w
  rw [if_pos (by decide)] at a3
  unfold fv at a3
  have a4 := fun w => shI_any 1 (-90) 90 w
  rw [if_pos (by decide)] at a4
  unfold fv at a4
  have a5 := fun w => shI_any 2 0 360 w
  rw [if_pos (by decide)] at a5
  unfold fv at a5
  have a6 := fun w => shAny_any 2 true w
  rw [any2s] at a6
  unfold fv at a6
  have a7 := fun w => shAny_any 4 false w
  rw [any4u] at a7
  unfold fv at a7
  go_enter Try.func70, Try.ntmps70
  go_wp2_with fail
  go_fit (a1 _)
  rintro e w1 ⟨rfl, hc1⟩
  have hb1 := bnx hb0 hc1
  clear hc1
  go_wp2_with fail
  go_fit (a2 _)
  rintro e w2 ⟨rfl, hc2⟩
  have hb2 := bnx hb1 hc2
  clear hc2
  go_wp2_with fail
  go_fit (a3 _)
  rintro e w3 ⟨rfl, hc3⟩
  have hb3 := bnx hb2 hc3
  clear hc3
  go_wp2_with fail
  go_fit (a4 _)
  rintro e w4 ⟨rfl, hc4⟩
  have hb4 := bnx hb3 hc4
  clear hc4
  go_wp2_with fail
  go_fit (a5 _)
  rintro e w5 ⟨rfl, hc5⟩
  have hb5 := bnx hb4 hc5
  clear hc5
  go_wp2_with fail
  go_fit (a6 _)
  rintro e w6 ⟨rfl, hc6⟩
  have hb6 := bnx hb5 hc6
  clear hc6
  go_wp2_with fail
  go_fit (a7 _)
  rintro e w7 ⟨rfl, hc7⟩
  have hb7 := bnx hb6 hc7
  clear hc7
  go_wp2
  go_ret
  exact retF_lit7 w7 w hb7 _ satF _ rfl (by simp [satF]) satF_b 7 rfl

set_option maxRecDepth 10000 in
set_option maxHeartbeats 1000000 in
theorem qsatsHead_any (w : World) : Calls Try.prog 69 #[] w (RetF headF w) := by
  go_enter Try.func69, Try.ntmps69
  go_wp2
  go_ret
  exact retF_lit7 w w (Below.refl _ _) _ headF _ rfl (by simp [headF]) headF_b 4 rfl

set_option maxRecDepth 10000 in
set_option maxHeartbeats 1000000 in
theorem qsatsShape_any (w : World) : Calls Try.prog 71 #[] w (RetF satF w) := by
  go_enter Try.func71, Try.ntmps71
  go_wp2
  go_ret
  exact retF_lit7 w w (Below.refl _ _) _ satF _ rfl (by simp [satF]) satF_b 7 rfl

/-- A satellite as cells. -/
def saC (s : List Int) : List Value := s.map (Value.int .i64)
theorem len7 : ∀ (xs : List Int), xs.length = 7 → ∃ x0 x1 x2 x3 x4 x5 x6 : Int, xs = [x0, x1, x2, x3, x4, x5, x6]
  | x0 :: x1 :: x2 :: x3 :: x4 :: x5 :: x6 :: [], _ => ⟨_, _, _, _, _, _, _, rfl⟩
def RetV7 (vs : List Int) (w : World) (e : Ending) (w' : World) : Prop :=
  ∃ A n c, e = .returned (.slice A n c) ∧ w'.ownsRow w.heap.size 2 1 (.slice A n c) n (vs.map (Value.int .i64)) ∧ Below w.heap.size w w'
theorem own_lit7 (w w0 : World) (hb0 : Below w0.heap.size w0 w) (vs : List Int) (n : Nat) (hn : vs.length = n) (hm : n ≤ maxLen) : RetV7 vs w0 (.returned (.slice (some ⟨w.heap.size, 0, none⟩) n n)) (w.alloc (.cells (vs.map (Value.int .i64)).toArray 2)) := by
  subst hn
  refine ⟨_, _, _, rfl, ⟨by simp, .inr ⟨w.heap.size, vs.length, _, rfl, hb0.size, heap_alloc_new w _, Nat.le_refl _, hm, by simp, by show List.take _ (vs.map _) = _; exact List.take_of_length_le (by simp)⟩⟩, hb0.alloc hb0.size _⟩
set_option maxRecDepth 10000 in
set_option maxHeartbeats 1000000 in
theorem satsvalues_any (s : List Int) (hs : s.length = 7) (w : World) : Calls Try.prog 156 #[.agg (saC s).toArray] w (RetV7 s w) := by
  obtain ⟨x0, x1, x2, x3, x4, x5, x6, rfl⟩ := len7 s hs
  have hb0 : Below w.heap.size w (w.alloc (.cells (saC [x0, x1, x2, x3, x4, x5, x6]).toArray 143)) := (Below.refl _ _).alloc (Nat.le_refl _) _
  have hbox := heap_alloc_new w (.cells (saC [x0, x1, x2, x3, x4, x5, x6]).toArray 143)
  have c0 : (w.alloc (.cells (saC [x0, x1, x2, x3, x4, x5, x6]).toArray 143)).cell? ⟨w.heap.size, 0, none⟩ = some (.int .i64 x0) := blk_cell hbox rfl
  have c1 : (w.alloc (.cells (saC [x0, x1, x2, x3, x4, x5, x6]).toArray 143)).cell? ⟨w.heap.size, 1, none⟩ = some (.int .i64 x1) := blk_cell hbox rfl
  have c2 : (w.alloc (.cells (saC [x0, x1, x2, x3, x4, x5, x6]).toArray 143)).cell? ⟨w.heap.size, 2, none⟩ = some (.int .i64 x2) := blk_cell hbox rfl
  have c3 : (w.alloc (.cells (saC [x0, x1, x2, x3, x4, x5, x6]).toArray 143)).cell? ⟨w.heap.size, 3, none⟩ = some (.int .i64 x3) := blk_cell hbox rfl
  have c4 : (w.alloc (.cells (saC [x0, x1, x2, x3, x4, x5, x6]).toArray 143)).cell? ⟨w.heap.size, 4, none⟩ = some (.int .i64 x4) := blk_cell hbox rfl
  have c5 : (w.alloc (.cells (saC [x0, x1, x2, x3, x4, x5, x6]).toArray 143)).cell? ⟨w.heap.size, 5, none⟩ = some (.int .i64 x5) := blk_cell hbox rfl
  have c6 : (w.alloc (.cells (saC [x0, x1, x2, x3, x4, x5, x6]).toArray 143)).cell? ⟨w.heap.size, 6, none⟩ = some (.int .i64 x6) := blk_cell hbox rfl
  clear hbox
  go_enter Try.func156, Try.ntmps156
  go_wp2
  have hsz : (w.alloc (.cells (saC [x0, x1, x2, x3, x4, x5, x6]).toArray 143)).heap.size = w.heap.size + 1 := World.size_alloc _ _
  have hlast := own_lit7 _ w hb0 [x0, x1, x2, x3, x4, x5, x6] 7 rfl (by simp [maxLen])
  rw [hsz] at hlast
  go_ret
  exact hlast

set_option maxRecDepth 10000 in
set_option maxHeartbeats 2000000 in
theorem satsof_any (A : Option Addr) (c B : Nat) (s : List Int) (hs : s.length = 7) (w : World) (h : Rd w B 1 A 7 c (s.map (Value.int .i64))) (hB : B ≤ w.heap.size) : Calls Try.prog 125 #[.slice A 7 c] w fun e w' => e = .returned (.agg (saC s).toArray) ∧ Below w.heap.size w w' := by
  obtain ⟨x0, x1, x2, x3, x4, x5, x6, rfl⟩ := len7 s hs
  have hle := h.le
  have hmx := h.max
  unfold maxLen at hmx
  have hb1 : Below w.heap.size w (w.alloc (.cells #[.int .i64 0, .int .i64 0, .int .i64 0, .int .i64 0, .int .i64 0, .int .i64 0, .int .i64 0] 143)) := (Below.refl _ _).alloc (Nat.le_refl _) _
  have hres := heap_alloc_new w (.cells #[.int .i64 0, .int .i64 0, .int .i64 0, .int .i64 0, .int .i64 0, .int .i64 0, .int .i64 0] 143)
  have hr1 := h.up (hb1.mono hB)
  obtain ⟨ad, rfl, hblk, hcell⟩ := hr1.at_ (by omega)
  have c0 : (w.alloc (.cells #[.int .i64 0, .int .i64 0, .int .i64 0, .int .i64 0, .int .i64 0, .int .i64 0, .int .i64 0] 143)).cell? ad = some (.int .i64 x0) := hcell 0 _ rfl
  have c1 : (w.alloc (.cells #[.int .i64 0, .int .i64 0, .int .i64 0, .int .i64 0, .int .i64 0, .int .i64 0, .int .i64 0] 143)).cell? ⟨ad.block, ad.off + 1, none⟩ = some (.int .i64 x1) := hcell 1 _ rfl
  have c2 : (w.alloc (.cells #[.int .i64 0, .int .i64 0, .int .i64 0, .int .i64 0, .int .i64 0, .int .i64 0, .int .i64 0] 143)).cell? ⟨ad.block, ad.off + 2, none⟩ = some (.int .i64 x2) := hcell 2 _ rfl
  have c3 : (w.alloc (.cells #[.int .i64 0, .int .i64 0, .int .i64 0, .int .i64 0, .int .i64 0, .int .i64 0, .int .i64 0] 143)).cell? ⟨ad.block, ad.off + 3, none⟩ = some (.int .i64 x3) := hcell 3 _ rfl
  have c4 : (w.alloc (.cells #[.int .i64 0, .int .i64 0, .int .i64 0, .int .i64 0, .int .i64 0, .int .i64 0, .int .i64 0] 143)).cell? ⟨ad.block, ad.off + 4, none⟩ = some (.int .i64 x4) := hcell 4 _ rfl
  have c5 : (w.alloc (.cells #[.int .i64 0, .int .i64 0, .int .i64 0, .int .i64 0, .int .i64 0, .int .i64 0, .int .i64 0] 143)).cell? ⟨ad.block, ad.off + 5, none⟩ = some (.int .i64 x5) := hcell 5 _ rfl
  have c6 : (w.alloc (.cells #[.int .i64 0, .int .i64 0, .int .i64 0, .int .i64 0, .int .i64 0, .int .i64 0, .int .i64 0] 143)).cell? ⟨ad.block, ad.off + 6, none⟩ = some (.int .i64 x6) := hcell 6 _ rfl
  clear hcell hr1 h
  go_enter Try.func125, Try.ntmps125
  go_wp2_with fail
  generalize (w.alloc (.cells #[.int .i64 0, .int .i64 0, .int .i64 0, .int .i64 0, .int .i64 0, .int .i64 0, .int .i64 0] 143)) = w1 at *
  refine Ord.region_ (fun w' => Below w.heap.size w1 w') false [] (by kernel_rfl) (by kernel_rfl) ((Below.refl _ _).drew) ?_
  have h2 : Below w.heap.size w1 w1.drew := (Below.refl _ _).drew
  replace hb1 := hb1.drew
  replace hres : w1.drew.heap[w.heap.size]? = _ := hres
  have hbl2 : ad.block < w.heap.size := by omega
  generalize w1.drew = w2 at *
  ((with_reducible refine Ord.e_p (v := ?_) ?_ ?_ ?_ ?_); rotate_left; (· exact rfl); (· kernel_rfl); (· intro w2; go_simp; try with_reducible rfl))
  (try simp only [Act.put, List.setIfInBounds_toArray, List.set_cons_zero, List.set_cons_succ])
  ((with_reducible refine Ord.e_p (v := ?_) ?_ ?_ ?_ ?_); rotate_left; (· exact rfl); (· kernel_rfl); (· intro w2; go_simp; try with_reducible rfl))
  (try simp only [Act.put, List.setIfInBounds_toArray, List.set_cons_zero, List.set_cons_succ])
  refine Ord.e_loadS Try.underlying2 rfl (fun w' hS => ((show Below _ w1 w' from hS).cell (p := ad) hbl2).trans c0) h2 rfl (by kernel_rfl) ?_
  (try simp only [Act.put, List.setIfInBounds_toArray, List.set_cons_zero, List.set_cons_succ])
  ((with_reducible refine Ord.e_p (v := ?_) ?_ ?_ ?_ ?_); rotate_left; (· exact rfl); (· kernel_rfl); (· intro w2; go_simp; try with_reducible rfl))
  (try simp only [Act.put, List.setIfInBounds_toArray, List.set_cons_zero, List.set_cons_succ])
  ((with_reducible refine Ord.e_p (v := ?_) ?_ ?_ ?_ ?_); rotate_left; (· exact rfl); (· kernel_rfl); (· intro w2; go_simp; try with_reducible rfl))
  (try simp only [Act.put, List.setIfInBounds_toArray, List.set_cons_zero, List.set_cons_succ])
  refine Ord.e_loadS Try.underlying2 rfl (fun w' hS => ((show Below _ w1 w' from hS).cell (p := ⟨ad.block, ad.off + 1, none⟩) hbl2).trans c1) h2 rfl (by kernel_rfl) ?_
  (try simp only [Act.put, List.setIfInBounds_toArray, List.set_cons_zero, List.set_cons_succ])
  ((with_reducible refine Ord.e_p (v := ?_) ?_ ?_ ?_ ?_); rotate_left; (· exact rfl); (· kernel_rfl); (· intro w2; go_simp; try with_reducible rfl))
  (try simp only [Act.put, List.setIfInBounds_toArray, List.set_cons_zero, List.set_cons_succ])
  ((with_reducible refine Ord.e_p (v := ?_) ?_ ?_ ?_ ?_); rotate_left; (· exact rfl); (· kernel_rfl); (· intro w2; go_simp; try with_reducible rfl))
  (try simp only [Act.put, List.setIfInBounds_toArray, List.set_cons_zero, List.set_cons_succ])
  refine Ord.e_loadS Try.underlying2 rfl (fun w' hS => ((show Below _ w1 w' from hS).cell (p := ⟨ad.block, ad.off + 2, none⟩) hbl2).trans c2) h2 rfl (by kernel_rfl) ?_
  (try simp only [Act.put, List.setIfInBounds_toArray, List.set_cons_zero, List.set_cons_succ])
  ((with_reducible refine Ord.e_p (v := ?_) ?_ ?_ ?_ ?_); rotate_left; (· exact rfl); (· kernel_rfl); (· intro w2; go_simp; try with_reducible rfl))
  (try simp only [Act.put, List.setIfInBounds_toArray, List.set_cons_zero, List.set_cons_succ])
  ((with_reducible refine Ord.e_p (v := ?_) ?_ ?_ ?_ ?_); rotate_left; (· exact rfl); (· kernel_rfl); (· intro w2; go_simp; try with_reducible rfl))
  (try simp only [Act.put, List.setIfInBounds_toArray, List.set_cons_zero, List.set_cons_succ])
  refine Ord.e_loadS Try.underlying2 rfl (fun w' hS => ((show Below _ w1 w' from hS).cell (p := ⟨ad.block, ad.off + 3, none⟩) hbl2).trans c3) h2 rfl (by kernel_rfl) ?_
  (try simp only [Act.put, List.setIfInBounds_toArray, List.set_cons_zero, List.set_cons_succ])
  ((with_reducible refine Ord.e_p (v := ?_) ?_ ?_ ?_ ?_); rotate_left; (· exact rfl); (· kernel_rfl); (· intro w2; go_simp; try with_reducible rfl))
  (try simp only [Act.put, List.setIfInBounds_toArray, List.set_cons_zero, List.set_cons_succ])
  ((with_reducible refine Ord.e_p (v := ?_) ?_ ?_ ?_ ?_); rotate_left; (· exact rfl); (· kernel_rfl); (· intro w2; go_simp; try with_reducible rfl))
  (try simp only [Act.put, List.setIfInBounds_toArray, List.set_cons_zero, List.set_cons_succ])
  refine Ord.e_loadS Try.underlying2 rfl (fun w' hS => ((show Below _ w1 w' from hS).cell (p := ⟨ad.block, ad.off + 4, none⟩) hbl2).trans c4) h2 rfl (by kernel_rfl) ?_
  (try simp only [Act.put, List.setIfInBounds_toArray, List.set_cons_zero, List.set_cons_succ])
  ((with_reducible refine Ord.e_p (v := ?_) ?_ ?_ ?_ ?_); rotate_left; (· exact rfl); (· kernel_rfl); (· intro w2; go_simp; try with_reducible rfl))
  (try simp only [Act.put, List.setIfInBounds_toArray, List.set_cons_zero, List.set_cons_succ])
  ((with_reducible refine Ord.e_p (v := ?_) ?_ ?_ ?_ ?_); rotate_left; (· exact rfl); (· kernel_rfl); (· intro w2; go_simp; try with_reducible rfl))
  (try simp only [Act.put, List.setIfInBounds_toArray, List.set_cons_zero, List.set_cons_succ])
  refine Ord.e_loadS Try.underlying2 rfl (fun w' hS => ((show Below _ w1 w' from hS).cell (p := ⟨ad.block, ad.off + 5, none⟩) hbl2).trans c5) h2 rfl (by kernel_rfl) ?_
  (try simp only [Act.put, List.setIfInBounds_toArray, List.set_cons_zero, List.set_cons_succ])
  ((with_reducible refine Ord.e_p (v := ?_) ?_ ?_ ?_ ?_); rotate_left; (· exact rfl); (· kernel_rfl); (· intro w2; go_simp; try with_reducible rfl))
  (try simp only [Act.put, List.setIfInBounds_toArray, List.set_cons_zero, List.set_cons_succ])
  ((with_reducible refine Ord.e_p (v := ?_) ?_ ?_ ?_ ?_); rotate_left; (· exact rfl); (· kernel_rfl); (· intro w2; go_simp; try with_reducible rfl))
  (try simp only [Act.put, List.setIfInBounds_toArray, List.set_cons_zero, List.set_cons_succ])
  refine Ord.e_loadS Try.underlying2 rfl (fun w' hS => ((show Below _ w1 w' from hS).cell (p := ⟨ad.block, ad.off + 6, none⟩) hbl2).trans c6) h2 rfl (by kernel_rfl) ?_
  (try simp only [Act.put, List.setIfInBounds_toArray, List.set_cons_zero, List.set_cons_succ])
  ((with_reducible refine Ord.e_p (v := ?_) ?_ ?_ ?_ ?_); rotate_left; (· exact rfl); (· kernel_rfl); (· intro w2; go_simp; try with_reducible rfl))
  (try simp only [Act.put, List.setIfInBounds_toArray, List.set_cons_zero, List.set_cons_succ])
  refine Ord.e_x rfl (by kernel_rfl) ?_
  refine wpList_store_row rfl _ _ _ rfl w.heap.size #[.int .i64 x0, .int .i64 x1, .int .i64 x2, .int .i64 x3, .int .i64 x4, .int .i64 x5, .int .i64 x6] rfl rfl _ _ hres (by kernel_rfl) rfl (by kernel_rfl) ?_
  have h3 := below_setRow h2 (Nat.le_refl _) (#[.int .i64 x0, .int .i64 x1, .int .i64 x2, .int .i64 x3, .int .i64 x4, .int .i64 x5, .int .i64 x6] : Array Value)
  have hb5 := below_setRow hb1 (Nat.le_refl _) (#[.int .i64 x0, .int .i64 x1, .int .i64 x2, .int .i64 x3, .int .i64 x4, .int .i64 x5, .int .i64 x6] : Array Value)
  have hres5 := setRow_heap _ _ _ (#[.int .i64 x0, .int .i64 x1, .int .i64 x2, .int .i64 x3, .int .i64 x4, .int .i64 x5, .int .i64 x6] : Array Value) _ _ hres
  generalize (w2.setRow w.heap.size #[.int .i64 x0, .int .i64 x1, .int .i64 x2, .int .i64 x3, .int .i64 x4, .int .i64 x5, .int .i64 x6]) = w5 at *
  go_wp2_with fail
  refine Ord.Seg.go h3 (fun h => by cases h) ?_
  (try simp only [Act.put, List.setIfInBounds_toArray, List.set_cons_zero, List.set_cons_succ])
  refine Ord.e_nil ?_
  clear h2 h3 hres hb1 c0 c1 c2 c3 c4 c5 c6
  go_wp2
  have hr := results_cell_row (P := Try.prog) (fn := Try.f125) Try.results125
  refine bodyPost_ret (v := .agg #[.int .i64 x0, .int .i64 x1, .int .i64 x2, .int .i64 x3, .int .i64 x4, .int .i64 x5, .int .i64 x6]) (hr _ w5 w.heap.size _ _ (0, 0) _ rfl hres5 Try.underlying143 rfl (by kernel_rfl)) rfl ?_
  exact ⟨rfl, hb5⟩

end Go.Proofs.Ytkelepnipndbbaa
