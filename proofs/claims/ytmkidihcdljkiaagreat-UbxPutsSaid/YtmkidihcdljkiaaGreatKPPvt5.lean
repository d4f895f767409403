/-
  The fields of layer 16, and the document's (printed by gen_pvt5.py).
-/
import Derived.Test.YtmkidihcdljkiaaGreatKPGE
import Derived.Test.YtmkidihcdljkiaaGreatKPGM
set_option linter.unusedSimpArgs false
set_option linter.unusedVariables false
namespace Go.Proofs.YtmkidihcdljkiaaGreat
open Go.RowKit NumLaw

def pvtF : List FieldV := [⟨4, false, 0, 604799999⟩, ⟨2, false, 0, 65535⟩, ⟨1, false, 0, 12⟩, ⟨1, false, 0, 31⟩, ⟨1, false, 0, 23⟩, ⟨1, false, 0, 59⟩, ⟨1, false, 0, 60⟩, ⟨1, false, 0, 15⟩, ⟨4, false, 0, 4294967295⟩, ⟨4, true, (-1000000000), 1000000000⟩, ⟨1, false, 0, 5⟩, ⟨1, false, 0, 255⟩, ⟨1, false, 0, 255⟩, ⟨1, false, 0, 255⟩, ⟨4, true, (-1800000000), 1800000000⟩, ⟨4, true, (-900000000), 900000000⟩, ⟨4, true, (-2147483648), 2147483647⟩, ⟨4, true, (-2147483648), 2147483647⟩, ⟨4, false, 0, 4294967295⟩, ⟨4, false, 0, 4294967295⟩, ⟨4, true, (-2147483648), 2147483647⟩, ⟨4, true, (-2147483648), 2147483647⟩, ⟨4, true, (-2147483648), 2147483647⟩, ⟨4, true, (-2147483648), 2147483647⟩, ⟨4, true, 0, 36000000⟩, ⟨4, false, 0, 4294967295⟩, ⟨4, false, 0, 4294967295⟩, ⟨2, false, 0, 65535⟩, ⟨2, false, 0, 31⟩, ⟨4, false, 0, 0⟩, ⟨4, true, 0, 36000000⟩, ⟨2, true, (-18000), 18000⟩, ⟨2, false, 0, 65535⟩]
theorem pvtF_b : FB pvtF := by
  have h : (pvtF.all fun f => decide ((-9223372036854775808 ≤ f.size ∧ f.size ≤ 9223372036854775807) ∧ (-9223372036854775808 ≤ f.lo ∧ f.lo ≤ 9223372036854775807) ∧ (-9223372036854775808 ≤ f.hi ∧ f.hi ≤ 9223372036854775807))) = true := by decide +kernel
  intro f hf
  exact of_decide_eq_true (List.all_eq_true.1 h f hf)
theorem retF_lit (w : World) (e : TypeId) (l : List FieldV) (cs : Array Value) (hcs : cs = (fcs l).toArray) (hm : l.length ≤ 1000) (hb : FB l) (n : Nat) (hn : l.length = n) : RetF l w (.returned (.slice (some ⟨w.heap.size, 0, none⟩) n n)) (w.alloc (.cells cs e)) := by
  subst hn
  refine ⟨_, _, _, rfl, hm, ?_, (Below.refl _ _).alloc (Nat.le_refl _) _⟩
  rw [World.size_alloc]
  exact rdF_lit w e l cs hcs (by unfold maxLen; omega) hb
set_option maxRecDepth 100000 in
set_option maxHeartbeats 1000000 in
theorem qpvtShape_any (w : World) : Calls Tryz.prog 41 #[] w (RetF pvtF w) := by
  go_enter Tryz.func41, Tryz.ntmps41
  go_wp2
  go_ret
  exact retF_lit w _ pvtF _ rfl (by simp [pvtF]) pvtF_b 33 rfl

theorem anyF_1 : anyF 1 false = ⟨1, false, 0, 255⟩ := by simp [anyF, fitsF]
theorem anyF_2 : anyF 2 false = ⟨2, false, 0, 65535⟩ := by simp [anyF, fitsF]
theorem anyF_4 : anyF 4 false = ⟨4, false, 0, 4294967295⟩ := by simp [anyF, fitsF]
theorem anyF_4s : anyF 4 true = ⟨4, true, -2147483648, 2147483647⟩ := by simp [anyF, fitsF]
set_option maxRecDepth 100000 in
set_option maxHeartbeats 4000000 in
theorem pvtShape_any (w : World) : Calls Tryz.prog 116 #[] w (RetF pvtF w) := by
  have a1 := fun w => shAny_any 1 false w
  have a2 := fun w => shAny_any 2 false w
  have a3 := fun w => shAny_any 4 false w
  have a4 := fun w => shAny_any 4 true w
  have a5 := fun w => shI_any 4 0 36000000 w
  rw [anyF_1] at a1
  rw [anyF_2] at a2
  rw [anyF_4] at a3
  rw [anyF_4s] at a4
  rw [if_pos (by decide)] at a5
  unfold fv at a1 a2 a3 a4 a5
  go_enter Tryz.func116, Tryz.ntmps116
  go_wp2_with fail
  go_fit (a1 _)
  rintro e w1 ⟨rfl, hb1⟩
  go_wp2_with fail
  go_fit (a2 _)
  rintro e w2 ⟨rfl, hb12⟩
  have hb2 := bnx hb1 hb12
  go_wp2_with fail
  go_fit (a3 _)
  rintro e w3 ⟨rfl, hb23⟩
  have hb3 := bnx hb2 hb23
  clear hb1 hb12 hb2 hb23
  obtain ⟨q1, q2, q3, hs, hbl⟩ := al3 w3 (.cells #[.int .i64 1, .bool false, .int .i64 0, .int .i64 255] 130) (.cells #[.int .i64 2, .bool false, .int .i64 0, .int .i64 65535] 130) (.cells #[.int .i64 4, .bool false, .int .i64 0, .int .i64 4294967295] 130)
  have hb4 := bnx hb3 hbl
  have Hs := Lib.hid hs
  clear hs hbl hb3
  go_wp2_with fail
  generalize (((w3.alloc (.cells #[.int .i64 1, .bool false, .int .i64 0, .int .i64 255] 130)).alloc (.cells #[.int .i64 2, .bool false, .int .i64 0, .int .i64 65535] 130)).alloc (.cells #[.int .i64 4, .bool false, .int .i64 0, .int .i64 4294967295] 130)) = w4 at *
  generalize w3.heap.size = g1 at *
  go_fit (a4 _)
  rintro e w5 ⟨rfl, hb45⟩
  have hb5 := bnx hb4 hb45
  replace q1 := blk_old q1 hb45 (blk_lt q1)
  replace q2 := blk_old q2 hb45 (blk_lt q2)
  replace q3 := blk_old q3 hb45 (blk_lt q3)
  have q4 := heap_alloc_new w5 (.cells #[.int .i64 4, .bool true, .int .i64 (-2147483648), .int .i64 2147483647] 130)
  replace q1 := (heap_alloc_old w5 (.cells #[.int .i64 4, .bool true, .int .i64 (-2147483648), .int .i64 2147483647] 130) (blk_lt q1)).trans q1
  replace q2 := (heap_alloc_old w5 (.cells #[.int .i64 4, .bool true, .int .i64 (-2147483648), .int .i64 2147483647] 130) (blk_lt q2)).trans q2
  replace q3 := (heap_alloc_old w5 (.cells #[.int .i64 4, .bool true, .int .i64 (-2147483648), .int .i64 2147483647] 130) (blk_lt q3)).trans q3
  have hb6 := hb5.alloc hb5.size (.cells #[.int .i64 4, .bool true, .int .i64 (-2147483648), .int .i64 2147483647] 130)
  clear hb4 hb45 hb5
  go_wp2_with fail
  generalize (w5.alloc (.cells #[.int .i64 4, .bool true, .int .i64 (-2147483648), .int .i64 2147483647] 130)) = w6 at *
  generalize w5.heap.size = g2 at *
  go_fit (a5 _)
  rintro e w7 ⟨rfl, hb67⟩
  have hb7 := bnx hb6 hb67
  replace q1 := blk_old q1 hb67 (blk_lt q1)
  replace q2 := blk_old q2 hb67 (blk_lt q2)
  replace q3 := blk_old q3 hb67 (blk_lt q3)
  replace q4 := blk_old q4 hb67 (blk_lt q4)
  have q5 := heap_alloc_new w7 (.cells #[.int .i64 4, .bool true, .int .i64 0, .int .i64 36000000] 130)
  replace q1 := (heap_alloc_old w7 (.cells #[.int .i64 4, .bool true, .int .i64 0, .int .i64 36000000] 130) (blk_lt q1)).trans q1
  replace q2 := (heap_alloc_old w7 (.cells #[.int .i64 4, .bool true, .int .i64 0, .int .i64 36000000] 130) (blk_lt q2)).trans q2
  replace q3 := (heap_alloc_old w7 (.cells #[.int .i64 4, .bool true, .int .i64 0, .int .i64 36000000] 130) (blk_lt q3)).trans q3
  replace q4 := (heap_alloc_old w7 (.cells #[.int .i64 4, .bool true, .int .i64 0, .int .i64 36000000] 130) (blk_lt q4)).trans q4
  have hb8 := hb7.alloc hb7.size (.cells #[.int .i64 4, .bool true, .int .i64 0, .int .i64 36000000] 130)
  clear hb6 hb67 hb7 a1 a2 a3 a4 a5
  go_wp2_with fail
  generalize (w7.alloc (.cells #[.int .i64 4, .bool true, .int .i64 0, .int .i64 36000000] 130)) = w8 at *
  generalize w7.heap.size = g3 at *
  have r1 : w8.rangeAt (g1) 0 [.int .i64 1, .bool false, .int .i64 0, .int .i64 255] := own_range q1 0 (fun j v hv => by simpa using hv)
  have l1 := blk_lt q1
  have r2 : w8.rangeAt (g1 + 1) 0 [.int .i64 2, .bool false, .int .i64 0, .int .i64 65535] := own_range q2 0 (fun j v hv => by simpa using hv)
  have l2 := blk_lt q2
  have r3 : w8.rangeAt (g1 + 2) 0 [.int .i64 4, .bool false, .int .i64 0, .int .i64 4294967295] := own_range q3 0 (fun j v hv => by simpa using hv)
  have l3 := blk_lt q3
  have r4 : w8.rangeAt (g2) 0 [.int .i64 4, .bool true, .int .i64 (-2147483648), .int .i64 2147483647] := own_range q4 0 (fun j v hv => by simpa using hv)
  have l4 := blk_lt q4
  have r5 : w8.rangeAt (g3) 0 [.int .i64 4, .bool true, .int .i64 0, .int .i64 36000000] := own_range q5 0 (fun j v hv => by simpa using hv)
  have l5 := blk_lt q5
  clear q1 q2 q3 q4 q5
  refine Ord.region_ (fun w' => Below w8.heap.size w8 w') false [] (by kernel_rfl) (by kernel_rfl) ((Below.refl _ _).drew) ?_
  have h0 : Below w8.heap.size w8 w8.drew := (Below.refl _ _).drew
  generalize w8.drew = u0 at *
  have hu := fun w => shU_any 4 604799999 w
  rw [if_pos (by decide)] at hu
  unfold fv at hu
  refine Ord.e_x rfl (by kernel_rfl) ?_
  go_wp2_with fail
  go_fit (hu _)
  rintro e u1 ⟨rfl, hbu⟩
  have h1 := h0.trans (hbu.mono h0.size)
  go_wp2_with fail
  refine Ord.Seg.go h1 (fun h => by cases h) ?_
  (try simp only [Act.put, List.setIfInBounds_toArray, List.set_cons_zero, List.set_cons_succ])
  clear hbu hu h0
  refine Ord.e_rowS Tryz.underlying130 rfl (by kernel_rfl) rfl (by simp) (fun w' hS j v hv => ((show Below _ w8 w' from hS).cell (p := ⟨g1 + 1, 0 + j, none⟩) l2).trans (r2 j v hv)) h1 (by kernel_rfl) ?_
  (try simp only [Act.put, List.setIfInBounds_toArray, List.set_cons_zero, List.set_cons_succ])
  have hu := fun w => shU_any 1 12 w
  rw [if_pos (by decide)] at hu
  unfold fv at hu
  refine Ord.e_x rfl (by kernel_rfl) ?_
  go_wp2_with fail
  go_fit (hu _)
  rintro e u2 ⟨rfl, hbu⟩
  have h2 := h1.trans (hbu.mono h1.size)
  go_wp2_with fail
  refine Ord.Seg.go h2 (fun h => by cases h) ?_
  (try simp only [Act.put, List.setIfInBounds_toArray, List.set_cons_zero, List.set_cons_succ])
  clear hbu hu h1
  have hu := fun w => shU_any 1 31 w
  rw [if_pos (by decide)] at hu
  unfold fv at hu
  refine Ord.e_x rfl (by kernel_rfl) ?_
  go_wp2_with fail
  go_fit (hu _)
  rintro e u3 ⟨rfl, hbu⟩
  have h3 := h2.trans (hbu.mono h2.size)
  go_wp2_with fail
  refine Ord.Seg.go h3 (fun h => by cases h) ?_
  (try simp only [Act.put, List.setIfInBounds_toArray, List.set_cons_zero, List.set_cons_succ])
  clear hbu hu h2
  have hu := fun w => shU_any 1 23 w
  rw [if_pos (by decide)] at hu
  unfold fv at hu
  refine Ord.e_x rfl (by kernel_rfl) ?_
  go_wp2_with fail
  go_fit (hu _)
  rintro e u4 ⟨rfl, hbu⟩
  have h4 := h3.trans (hbu.mono h3.size)
  go_wp2_with fail
  refine Ord.Seg.go h4 (fun h => by cases h) ?_
  (try simp only [Act.put, List.setIfInBounds_toArray, List.set_cons_zero, List.set_cons_succ])
  clear hbu hu h3
  have hu := fun w => shU_any 1 59 w
  rw [if_pos (by decide)] at hu
  unfold fv at hu
  refine Ord.e_x rfl (by kernel_rfl) ?_
  go_wp2_with fail
  go_fit (hu _)
  rintro e u5 ⟨rfl, hbu⟩
  have h5 := h4.trans (hbu.mono h4.size)
  go_wp2_with fail
  refine Ord.Seg.go h5 (fun h => by cases h) ?_
  (try simp only [Act.put, List.setIfInBounds_toArray, List.set_cons_zero, List.set_cons_succ])
  clear hbu hu h4
  have hu := fun w => shU_any 1 60 w
  rw [if_pos (by decide)] at hu
  unfold fv at hu
  refine Ord.e_x rfl (by kernel_rfl) ?_
  go_wp2_with fail
  go_fit (hu _)
  rintro e u6 ⟨rfl, hbu⟩
  have h6 := h5.trans (hbu.mono h5.size)
  go_wp2_with fail
  refine Ord.Seg.go h6 (fun h => by cases h) ?_
  (try simp only [Act.put, List.setIfInBounds_toArray, List.set_cons_zero, List.set_cons_succ])
  clear hbu hu h5
  have hu := fun w => shU_any 1 15 w
  rw [if_pos (by decide)] at hu
  unfold fv at hu
  refine Ord.e_x rfl (by kernel_rfl) ?_
  go_wp2_with fail
  go_fit (hu _)
  rintro e u7 ⟨rfl, hbu⟩
  have h7 := h6.trans (hbu.mono h6.size)
  go_wp2_with fail
  refine Ord.Seg.go h7 (fun h => by cases h) ?_
  (try simp only [Act.put, List.setIfInBounds_toArray, List.set_cons_zero, List.set_cons_succ])
  clear hbu hu h6
  refine Ord.e_rowS Tryz.underlying130 rfl (by kernel_rfl) rfl (by simp) (fun w' hS j v hv => ((show Below _ w8 w' from hS).cell (p := ⟨g1 + 2, 0 + j, none⟩) l3).trans (r3 j v hv)) h7 (by kernel_rfl) ?_
  (try simp only [Act.put, List.setIfInBounds_toArray, List.set_cons_zero, List.set_cons_succ])
  have hu := fun w => shI_any 4 (-1000000000) 1000000000 w
  rw [if_pos (by decide)] at hu
  unfold fv at hu
  refine Ord.e_x rfl (by kernel_rfl) ?_
  go_wp2_with fail
  go_fit (hu _)
  rintro e u8 ⟨rfl, hbu⟩
  have h8 := h7.trans (hbu.mono h7.size)
  go_wp2_with fail
  refine Ord.Seg.go h8 (fun h => by cases h) ?_
  (try simp only [Act.put, List.setIfInBounds_toArray, List.set_cons_zero, List.set_cons_succ])
  clear hbu hu h7
  have hu := fun w => shU_any 1 5 w
  rw [if_pos (by decide)] at hu
  unfold fv at hu
  refine Ord.e_x rfl (by kernel_rfl) ?_
  go_wp2_with fail
  go_fit (hu _)
  rintro e u9 ⟨rfl, hbu⟩
  have h9 := h8.trans (hbu.mono h8.size)
  go_wp2_with fail
  refine Ord.Seg.go h9 (fun h => by cases h) ?_
  (try simp only [Act.put, List.setIfInBounds_toArray, List.set_cons_zero, List.set_cons_succ])
  clear hbu hu h8
  refine Ord.e_rowS Tryz.underlying130 rfl (by kernel_rfl) rfl (by simp) (fun w' hS j v hv => ((show Below _ w8 w' from hS).cell (p := ⟨g1, 0 + j, none⟩) l1).trans (r1 j v hv)) h9 (by kernel_rfl) ?_
  (try simp only [Act.put, List.setIfInBounds_toArray, List.set_cons_zero, List.set_cons_succ])
  refine Ord.e_rowS Tryz.underlying130 rfl (by kernel_rfl) rfl (by simp) (fun w' hS j v hv => ((show Below _ w8 w' from hS).cell (p := ⟨g1, 0 + j, none⟩) l1).trans (r1 j v hv)) h9 (by kernel_rfl) ?_
  (try simp only [Act.put, List.setIfInBounds_toArray, List.set_cons_zero, List.set_cons_succ])
  refine Ord.e_rowS Tryz.underlying130 rfl (by kernel_rfl) rfl (by simp) (fun w' hS j v hv => ((show Below _ w8 w' from hS).cell (p := ⟨g1, 0 + j, none⟩) l1).trans (r1 j v hv)) h9 (by kernel_rfl) ?_
  (try simp only [Act.put, List.setIfInBounds_toArray, List.set_cons_zero, List.set_cons_succ])
  have hu := fun w => shI_any 4 (-1800000000) 1800000000 w
  rw [if_pos (by decide)] at hu
  unfold fv at hu
  refine Ord.e_x rfl (by kernel_rfl) ?_
  go_wp2_with fail
  go_fit (hu _)
  rintro e u10 ⟨rfl, hbu⟩
  have h10 := h9.trans (hbu.mono h9.size)
  go_wp2_with fail
  refine Ord.Seg.go h10 (fun h => by cases h) ?_
  (try simp only [Act.put, List.setIfInBounds_toArray, List.set_cons_zero, List.set_cons_succ])
  clear hbu hu h9
  have hu := fun w => shI_any 4 (-900000000) 900000000 w
  rw [if_pos (by decide)] at hu
  unfold fv at hu
  refine Ord.e_x rfl (by kernel_rfl) ?_
  go_wp2_with fail
  go_fit (hu _)
  rintro e u11 ⟨rfl, hbu⟩
  have h11 := h10.trans (hbu.mono h10.size)
  go_wp2_with fail
  refine Ord.Seg.go h11 (fun h => by cases h) ?_
  (try simp only [Act.put, List.setIfInBounds_toArray, List.set_cons_zero, List.set_cons_succ])
  clear hbu hu h10
  refine Ord.e_rowS Tryz.underlying130 rfl (by kernel_rfl) rfl (by simp) (fun w' hS j v hv => ((show Below _ w8 w' from hS).cell (p := ⟨g2, 0 + j, none⟩) l4).trans (r4 j v hv)) h11 (by kernel_rfl) ?_
  (try simp only [Act.put, List.setIfInBounds_toArray, List.set_cons_zero, List.set_cons_succ])
  refine Ord.e_rowS Tryz.underlying130 rfl (by kernel_rfl) rfl (by simp) (fun w' hS j v hv => ((show Below _ w8 w' from hS).cell (p := ⟨g2, 0 + j, none⟩) l4).trans (r4 j v hv)) h11 (by kernel_rfl) ?_
  (try simp only [Act.put, List.setIfInBounds_toArray, List.set_cons_zero, List.set_cons_succ])
  refine Ord.e_rowS Tryz.underlying130 rfl (by kernel_rfl) rfl (by simp) (fun w' hS j v hv => ((show Below _ w8 w' from hS).cell (p := ⟨g1 + 2, 0 + j, none⟩) l3).trans (r3 j v hv)) h11 (by kernel_rfl) ?_
  (try simp only [Act.put, List.setIfInBounds_toArray, List.set_cons_zero, List.set_cons_succ])
  refine Ord.e_rowS Tryz.underlying130 rfl (by kernel_rfl) rfl (by simp) (fun w' hS j v hv => ((show Below _ w8 w' from hS).cell (p := ⟨g1 + 2, 0 + j, none⟩) l3).trans (r3 j v hv)) h11 (by kernel_rfl) ?_
  (try simp only [Act.put, List.setIfInBounds_toArray, List.set_cons_zero, List.set_cons_succ])
  refine Ord.e_rowS Tryz.underlying130 rfl (by kernel_rfl) rfl (by simp) (fun w' hS j v hv => ((show Below _ w8 w' from hS).cell (p := ⟨g2, 0 + j, none⟩) l4).trans (r4 j v hv)) h11 (by kernel_rfl) ?_
  (try simp only [Act.put, List.setIfInBounds_toArray, List.set_cons_zero, List.set_cons_succ])
  refine Ord.e_rowS Tryz.underlying130 rfl (by kernel_rfl) rfl (by simp) (fun w' hS j v hv => ((show Below _ w8 w' from hS).cell (p := ⟨g2, 0 + j, none⟩) l4).trans (r4 j v hv)) h11 (by kernel_rfl) ?_
  (try simp only [Act.put, List.setIfInBounds_toArray, List.set_cons_zero, List.set_cons_succ])
  refine Ord.e_rowS Tryz.underlying130 rfl (by kernel_rfl) rfl (by simp) (fun w' hS j v hv => ((show Below _ w8 w' from hS).cell (p := ⟨g2, 0 + j, none⟩) l4).trans (r4 j v hv)) h11 (by kernel_rfl) ?_
  (try simp only [Act.put, List.setIfInBounds_toArray, List.set_cons_zero, List.set_cons_succ])
  refine Ord.e_rowS Tryz.underlying130 rfl (by kernel_rfl) rfl (by simp) (fun w' hS j v hv => ((show Below _ w8 w' from hS).cell (p := ⟨g2, 0 + j, none⟩) l4).trans (r4 j v hv)) h11 (by kernel_rfl) ?_
  (try simp only [Act.put, List.setIfInBounds_toArray, List.set_cons_zero, List.set_cons_succ])
  refine Ord.e_rowS Tryz.underlying130 rfl (by kernel_rfl) rfl (by simp) (fun w' hS j v hv => ((show Below _ w8 w' from hS).cell (p := ⟨g3, 0 + j, none⟩) l5).trans (r5 j v hv)) h11 (by kernel_rfl) ?_
  (try simp only [Act.put, List.setIfInBounds_toArray, List.set_cons_zero, List.set_cons_succ])
  refine Ord.e_rowS Tryz.underlying130 rfl (by kernel_rfl) rfl (by simp) (fun w' hS j v hv => ((show Below _ w8 w' from hS).cell (p := ⟨g1 + 2, 0 + j, none⟩) l3).trans (r3 j v hv)) h11 (by kernel_rfl) ?_
  (try simp only [Act.put, List.setIfInBounds_toArray, List.set_cons_zero, List.set_cons_succ])
  refine Ord.e_rowS Tryz.underlying130 rfl (by kernel_rfl) rfl (by simp) (fun w' hS j v hv => ((show Below _ w8 w' from hS).cell (p := ⟨g1 + 2, 0 + j, none⟩) l3).trans (r3 j v hv)) h11 (by kernel_rfl) ?_
  (try simp only [Act.put, List.setIfInBounds_toArray, List.set_cons_zero, List.set_cons_succ])
  refine Ord.e_rowS Tryz.underlying130 rfl (by kernel_rfl) rfl (by simp) (fun w' hS j v hv => ((show Below _ w8 w' from hS).cell (p := ⟨g1 + 1, 0 + j, none⟩) l2).trans (r2 j v hv)) h11 (by kernel_rfl) ?_
  (try simp only [Act.put, List.setIfInBounds_toArray, List.set_cons_zero, List.set_cons_succ])
  have hu := fun w => shU_any 2 31 w
  rw [if_pos (by decide)] at hu
  unfold fv at hu
  refine Ord.e_x rfl (by kernel_rfl) ?_
  go_wp2_with fail
  go_fit (hu _)
  rintro e u12 ⟨rfl, hbu⟩
  have h12 := h11.trans (hbu.mono h11.size)
  go_wp2_with fail
  refine Ord.Seg.go h12 (fun h => by cases h) ?_
  (try simp only [Act.put, List.setIfInBounds_toArray, List.set_cons_zero, List.set_cons_succ])
  clear hbu hu h11
  have hu := fun w => shU_any 4 0 w
  rw [if_pos (by decide)] at hu
  unfold fv at hu
  refine Ord.e_x rfl (by kernel_rfl) ?_
  go_wp2_with fail
  go_fit (hu _)
  rintro e u13 ⟨rfl, hbu⟩
  have h13 := h12.trans (hbu.mono h12.size)
  go_wp2_with fail
  refine Ord.Seg.go h13 (fun h => by cases h) ?_
  (try simp only [Act.put, List.setIfInBounds_toArray, List.set_cons_zero, List.set_cons_succ])
  clear hbu hu h12
  refine Ord.e_rowS Tryz.underlying130 rfl (by kernel_rfl) rfl (by simp) (fun w' hS j v hv => ((show Below _ w8 w' from hS).cell (p := ⟨g3, 0 + j, none⟩) l5).trans (r5 j v hv)) h13 (by kernel_rfl) ?_
  (try simp only [Act.put, List.setIfInBounds_toArray, List.set_cons_zero, List.set_cons_succ])
  have hu := fun w => shI_any 2 (-18000) 18000 w
  rw [if_pos (by decide)] at hu
  unfold fv at hu
  refine Ord.e_x rfl (by kernel_rfl) ?_
  go_wp2_with fail
  go_fit (hu _)
  rintro e u14 ⟨rfl, hbu⟩
  have h14 := h13.trans (hbu.mono h13.size)
  go_wp2_with fail
  refine Ord.Seg.go h14 (fun h => by cases h) ?_
  (try simp only [Act.put, List.setIfInBounds_toArray, List.set_cons_zero, List.set_cons_succ])
  clear hbu hu h13
  refine Ord.e_rowS Tryz.underlying130 rfl (by kernel_rfl) rfl (by simp) (fun w' hS j v hv => ((show Below _ w8 w' from hS).cell (p := ⟨g1 + 1, 0 + j, none⟩) l2).trans (r2 j v hv)) h14 (by kernel_rfl) ?_
  (try simp only [Act.put, List.setIfInBounds_toArray, List.set_cons_zero, List.set_cons_succ])
  refine Ord.e_x rfl (by kernel_rfl) ?_
  go_wp2
  have hfin := hb8.trans (h14.mono hb8.size)
  have hge := hfin.size
  have hlast := retF_lit u14 130 pvtF _ rfl (by simp [pvtF]) pvtF_b 33 rfl
  obtain ⟨A, n, c, he, hn, hr, hbz⟩ := hlast
  have hfin2 := bnx hfin hbz
  have hz := h14.trans (hbz.mono h14.size)
  refine Ord.Seg.go hz (fun h => by cases h) ?_
  (try simp only [Act.put, List.setIfInBounds_toArray, List.set_cons_zero, List.set_cons_succ])
  ((with_reducible refine Ord.e_p (v := ?_) ?_ ?_ ?_ ?_); rotate_left; (· exact rfl); (· kernel_rfl); (· intro w2; go_simp; try with_reducible rfl))
  (try simp only [Act.put, List.setIfInBounds_toArray, List.set_cons_zero, List.set_cons_succ])
  refine Ord.e_nil ?_
  clear hz hbz h14 r1 l1 r2 l2 r3 l3 r4 l4 r5 l5
  go_wp2
  go_ret
  exact ⟨A, n, c, he, hn, hr, hfin2⟩

end Go.Proofs.YtmkidihcdljkiaaGreat
