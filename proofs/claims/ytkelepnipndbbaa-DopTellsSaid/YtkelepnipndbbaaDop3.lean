/-
  dop.Sound and the document's (printed by gen_dop3.py).
-/
import Derived.Test.YtkelepnipndbbaaRoot2
import Derived.Test.YtkelepnipndbbaaCells
import Derived.Test.YtkelepnipndbbaaOrder
import Derived.Laws.EntriesVeiled
set_option linter.unusedSimpArgs false
set_option linter.unusedVariables false
namespace Go.Proofs.Ytkelepnipndbbaa
open Go.RowKit NumLaw

theorem snd1_any (x0 x1 x2 x3 x4 x5 x6 x7 : Int) (w : World) : Calls Try.prog 103 #[.agg #[.int .i64 x0, .int .i64 x1, .int .i64 x2, .int .i64 x3, .int .i64 x4, .int .i64 x5, .int .i64 x6, .int .i64 x7]] w fun e w' => e = .returned (.int .i64 x1) ∧ Below w.heap.size w w' := by
  have hbox := heap_alloc_new w (.cells #[.int .i64 x0, .int .i64 x1, .int .i64 x2, .int .i64 x3, .int .i64 x4, .int .i64 x5, .int .i64 x6, .int .i64 x7] 58)
  have hb : Below w.heap.size w (w.alloc (.cells #[.int .i64 x0, .int .i64 x1, .int .i64 x2, .int .i64 x3, .int .i64 x4, .int .i64 x5, .int .i64 x6, .int .i64 x7] 58)) := (Below.refl _ _).alloc (Nat.le_refl _) _
  have c := blk_cell (i := 1) (v := .int .i64 x1) hbox rfl
  go_enter Try.func103, Try.ntmps103
  go_wp2
  go_ret
  exact ⟨rfl, hb⟩
theorem snd2_any (x0 x1 x2 x3 x4 x5 x6 x7 : Int) (w : World) : Calls Try.prog 104 #[.agg #[.int .i64 x0, .int .i64 x1, .int .i64 x2, .int .i64 x3, .int .i64 x4, .int .i64 x5, .int .i64 x6, .int .i64 x7]] w fun e w' => e = .returned (.int .i64 x2) ∧ Below w.heap.size w w' := by
  have hbox := heap_alloc_new w (.cells #[.int .i64 x0, .int .i64 x1, .int .i64 x2, .int .i64 x3, .int .i64 x4, .int .i64 x5, .int .i64 x6, .int .i64 x7] 58)
  have hb : Below w.heap.size w (w.alloc (.cells #[.int .i64 x0, .int .i64 x1, .int .i64 x2, .int .i64 x3, .int .i64 x4, .int .i64 x5, .int .i64 x6, .int .i64 x7] 58)) := (Below.refl _ _).alloc (Nat.le_refl _) _
  have c := blk_cell (i := 2) (v := .int .i64 x2) hbox rfl
  go_enter Try.func104, Try.ntmps104
  go_wp2
  go_ret
  exact ⟨rfl, hb⟩
theorem snd3_any (x0 x1 x2 x3 x4 x5 x6 x7 : Int) (w : World) : Calls Try.prog 105 #[.agg #[.int .i64 x0, .int .i64 x1, .int .i64 x2, .int .i64 x3, .int .i64 x4, .int .i64 x5, .int .i64 x6, .int .i64 x7]] w fun e w' => e = .returned (.int .i64 x3) ∧ Below w.heap.size w w' := by
  have hbox := heap_alloc_new w (.cells #[.int .i64 x0, .int .i64 x1, .int .i64 x2, .int .i64 x3, .int .i64 x4, .int .i64 x5, .int .i64 x6, .int .i64 x7] 58)
  have hb : Below w.heap.size w (w.alloc (.cells #[.int .i64 x0, .int .i64 x1, .int .i64 x2, .int .i64 x3, .int .i64 x4, .int .i64 x5, .int .i64 x6, .int .i64 x7] 58)) := (Below.refl _ _).alloc (Nat.le_refl _) _
  have c := blk_cell (i := 3) (v := .int .i64 x3) hbox rfl
  go_enter Try.func105, Try.ntmps105
  go_wp2
  go_ret
  exact ⟨rfl, hb⟩
theorem snd4_any (x0 x1 x2 x3 x4 x5 x6 x7 : Int) (w : World) : Calls Try.prog 106 #[.agg #[.int .i64 x0, .int .i64 x1, .int .i64 x2, .int .i64 x3, .int .i64 x4, .int .i64 x5, .int .i64 x6, .int .i64 x7]] w fun e w' => e = .returned (.int .i64 x4) ∧ Below w.heap.size w w' := by
  have hbox := heap_alloc_new w (.cells #[.int .i64 x0, .int .i64 x1, .int .i64 x2, .int .i64 x3, .int .i64 x4, .int .i64 x5, .int .i64 x6, .int .i64 x7] 58)
  have hb : Below w.heap.size w (w.alloc (.cells #[.int .i64 x0, .int .i64 x1, .int .i64 x2, .int .i64 x3, .int .i64 x4, .int .i64 x5, .int .i64 x6, .int .i64 x7] 58)) := (Below.refl _ _).alloc (Nat.le_refl _) _
  have c := blk_cell (i := 4) (v := .int .i64 x4) hbox rfl
  go_enter Try.func106, Try.ntmps106
  go_wp2
  go_ret
  exact ⟨rfl, hb⟩
theorem snd5_any (x0 x1 x2 x3 x4 x5 x6 x7 : Int) (w : World) : Calls Try.prog 107 #[.agg #[.int .i64 x0, .int .i64 x1, .int .i64 x2, .int .i64 x3, .int .i64 x4, .int .i64 x5, .int .i64 x6, .int .i64 x7]] w fun e w' => e = .returned (.int .i64 x5) ∧ Below w.heap.size w w' := by
  have hbox := heap_alloc_new w (.cells #[.int .i64 x0, .int .i64 x1, .int .i64 x2, .int .i64 x3, .int .i64 x4, .int .i64 x5, .int .i64 x6, .int .i64 x7] 58)
  have hb : Below w.heap.size w (w.alloc (.cells #[.int .i64 x0, .int .i64 x1, .int .i64 x2, .int .i64 x3, .int .i64 x4, .int .i64 x5, .int .i64 x6, .int .i64 x7] 58)) := (Below.refl _ _).alloc (Nat.le_refl _) _
  have c := blk_cell (i := 5) (v := .int .i64 x5) hbox rfl
  go_enter Try.func107, Try.ntmps107
  go_wp2
  go_ret
  exact ⟨rfl, hb⟩
theorem snd6_any (x0 x1 x2 x3 x4 x5 x6 x7 : Int) (w : World) : Calls Try.prog 108 #[.agg #[.int .i64 x0, .int .i64 x1, .int .i64 x2, .int .i64 x3, .int .i64 x4, .int .i64 x5, .int .i64 x6, .int .i64 x7]] w fun e w' => e = .returned (.int .i64 x6) ∧ Below w.heap.size w w' := by
  have hbox := heap_alloc_new w (.cells #[.int .i64 x0, .int .i64 x1, .int .i64 x2, .int .i64 x3, .int .i64 x4, .int .i64 x5, .int .i64 x6, .int .i64 x7] 58)
  have hb : Below w.heap.size w (w.alloc (.cells #[.int .i64 x0, .int .i64 x1, .int .i64 x2, .int .i64 x3, .int .i64 x4, .int .i64 x5, .int .i64 x6, .int .i64 x7] 58)) := (Below.refl _ _).alloc (Nat.le_refl _) _
  have c := blk_cell (i := 6) (v := .int .i64 x6) hbox rfl
  go_enter Try.func108, Try.ntmps108
  go_wp2
  go_ret
  exact ⟨rfl, hb⟩
theorem snd7_any (x0 x1 x2 x3 x4 x5 x6 x7 : Int) (w : World) : Calls Try.prog 109 #[.agg #[.int .i64 x0, .int .i64 x1, .int .i64 x2, .int .i64 x3, .int .i64 x4, .int .i64 x5, .int .i64 x6, .int .i64 x7]] w fun e w' => e = .returned (.int .i64 x7) ∧ Below w.heap.size w w' := by
  have hbox := heap_alloc_new w (.cells #[.int .i64 x0, .int .i64 x1, .int .i64 x2, .int .i64 x3, .int .i64 x4, .int .i64 x5, .int .i64 x6, .int .i64 x7] 58)
  have hb : Below w.heap.size w (w.alloc (.cells #[.int .i64 x0, .int .i64 x1, .int .i64 x2, .int .i64 x3, .int .i64 x4, .int .i64 x5, .int .i64 x6, .int .i64 x7] 58)) := (Below.refl _ _).alloc (Nat.le_refl _) _
  have c := blk_cell (i := 7) (v := .int .i64 x7) hbox rfl
  go_enter Try.func109, Try.ntmps109
  go_wp2
  go_ret
  exact ⟨rfl, hb⟩
set_option maxRecDepth 10000 in
set_option maxHeartbeats 2000000 in
theorem holds0_any (x0 x1 x2 x3 x4 x5 x6 x7 : Int) (w : World) (hb : ∀ z ∈ [x0, x1, x2, x3, x4, x5, x6, x7], -9223372036854775808 ≤ z ∧ z ≤ 9223372036854775807) :
    Calls Try.prog 110 #[.agg #[.func (.func 104) #[] #[], .func (.func 106) #[] #[], .func (.func 107) #[] #[]], .agg #[.int .i64 x0, .int .i64 x1, .int .i64 x2, .int .i64 x3, .int .i64 x4, .int .i64 x5, .int .i64 x6, .int .i64 x7]] w fun e w' => e = .returned (.bool (nearB x2 (togR x4 x5))) ∧ Below w.heap.size w w' := by
  have hba := hb x2 (by simp)
  have hbb := hb x4 (by simp)
  have hbc := hb x5 (by simp)
  clear hb
  have htb := togR_bound x4 x5
  have htog := fun w => together_any x4 x5 w hbb hbc
  have Htog := Lib.hid htog
  clear htog
  obtain ⟨t, ht⟩ : ∃ t, t = togR x4 x5 := ⟨_, rfl⟩
  rw [← ht] at Htog htb ⊢
  clear ht
  unfold nearB
  have h1 : Below w.heap.size w ((w.alloc (.cells #[.func (.func 104) #[] #[], .func (.func 106) #[] #[], .func (.func 107) #[] #[]] 126)).alloc (.cells #[.int .i64 x0, .int .i64 x1, .int .i64 x2, .int .i64 x3, .int .i64 x4, .int .i64 x5, .int .i64 x6, .int .i64 x7] 58)) := ((Below.refl _ _).alloc (Nat.le_refl _) _).alloc (by simp) _
  have hr := (heap_alloc_old (w.alloc (.cells #[.func (.func 104) #[] #[], .func (.func 106) #[] #[], .func (.func 107) #[] #[]] 126)) (.cells #[.int .i64 x0, .int .i64 x1, .int .i64 x2, .int .i64 x3, .int .i64 x4, .int .i64 x5, .int .i64 x6, .int .i64 x7] 58) (blk_lt (heap_alloc_new w _))).trans (heap_alloc_new w (.cells #[.func (.func 104) #[] #[], .func (.func 106) #[] #[], .func (.func 107) #[] #[]] 126))
  have hd := blk_new2 w (.cells #[.func (.func 104) #[] #[], .func (.func 106) #[] #[], .func (.func 107) #[] #[]] 126) (.cells #[.int .i64 x0, .int .i64 x1, .int .i64 x2, .int .i64 x3, .int .i64 x4, .int .i64 x5, .int .i64 x6, .int .i64 x7] 58)
  go_enter Try.func110, Try.ntmps110
  go_wp2_with fail
  generalize ((w.alloc (.cells #[.func (.func 104) #[] #[], .func (.func 106) #[] #[], .func (.func 107) #[] #[]] 126)).alloc (.cells #[.int .i64 x0, .int .i64 x1, .int .i64 x2, .int .i64 x3, .int .i64 x4, .int .i64 x5, .int .i64 x6, .int .i64 x7] 58)) = w1 at *
  have hltr := blk_lt hr
  have hltd := blk_lt hd
  have hk1 := blk_cell (i := 1) (v := .func (.func 106) #[] #[]) hr rfl
  have hk2 := blk_cell (i := 2) (v := .func (.func 107) #[] #[]) hr rfl
  have hrow : w1.rangeAt (w.heap.size + 1) 0 [.int .i64 x0, .int .i64 x1, .int .i64 x2, .int .i64 x3, .int .i64 x4, .int .i64 x5, .int .i64 x6, .int .i64 x7] := own_range hd 0 (fun j v hv => by simpa using hv)
  refine Ord.region_ (fun w' => Below w1.heap.size w1 w') false [] (by kernel_rfl) (by kernel_rfl) ((Below.refl _ _).drew) ?_
  have h2 : Below w1.heap.size w1 w1.drew := (Below.refl _ _).drew
  generalize w1.drew = w2 at *
  repeat (first | (refine Ord.e_p (v := ?_) rfl (by rfl) ?_ ?_; rotate_left; · (intro w2; go_simp; try with_reducible rfl)) | (refine Ord.e_u (by rfl) ?_)); (try simp only [Act.put, List.setIfInBounds_toArray, List.set_cons_zero, List.set_cons_succ])
  refine Ord.e_loadS Try.underlying124 rfl (fun w' hS => ((show Below _ w1 w' from hS).cell (p := ⟨w.heap.size, 1, none⟩) hltr).trans hk1) h2 rfl (by rfl) ?_
  (try simp only [Act.put, List.setIfInBounds_toArray, List.set_cons_zero, List.set_cons_succ])
  repeat (first | (refine Ord.e_p (v := ?_) rfl (by rfl) ?_ ?_; rotate_left; · (intro w2; go_simp; try with_reducible rfl)) | (refine Ord.e_u (by rfl) ?_)); (try simp only [Act.put, List.setIfInBounds_toArray, List.set_cons_zero, List.set_cons_succ])
  refine Ord.e_rowS Try.underlying58 rfl (by kernel_rfl) rfl (by simp) (fun w' hS j v hv => ((show Below _ w1 w' from hS).cell (p := ⟨w.heap.size + 1, 0 + j, none⟩) hltd).trans (hrow j v hv)) h2 (by rfl) ?_
  (try simp only [Act.put, List.setIfInBounds_toArray, List.set_cons_zero, List.set_cons_succ])
  repeat (first | (refine Ord.e_p (v := ?_) rfl (by rfl) ?_ ?_; rotate_left; · (intro w2; go_simp; try with_reducible rfl)) | (refine Ord.e_u (by rfl) ?_)); (try simp only [Act.put, List.setIfInBounds_toArray, List.set_cons_zero, List.set_cons_succ])
  refine Ord.e_x rfl (by rfl) ?_
  go_wp2_with fail
  go_fit (snd4_any x0 x1 x2 x3 x4 x5 x6 x7 _)
  rintro e w3 ⟨rfl, hb23⟩
  have h3 := h2.trans (hb23.mono h2.size)
  go_wp2_with fail
  refine Ord.Seg.go h3 (fun h => by cases h) ?_
  (try simp only [Act.put, List.setIfInBounds_toArray, List.set_cons_zero, List.set_cons_succ])
  clear h2 hb23
  repeat (first | (refine Ord.e_p (v := ?_) rfl (by rfl) ?_ ?_; rotate_left; · (intro w2; go_simp; try with_reducible rfl)) | (refine Ord.e_u (by rfl) ?_)); (try simp only [Act.put, List.setIfInBounds_toArray, List.set_cons_zero, List.set_cons_succ])
  refine Ord.e_loadS Try.underlying124 rfl (fun w' hS => ((show Below _ w1 w' from hS).cell (p := ⟨w.heap.size, 2, none⟩) hltr).trans hk2) h3 rfl (by rfl) ?_
  (try simp only [Act.put, List.setIfInBounds_toArray, List.set_cons_zero, List.set_cons_succ])
  repeat (first | (refine Ord.e_p (v := ?_) rfl (by rfl) ?_ ?_; rotate_left; · (intro w2; go_simp; try with_reducible rfl)) | (refine Ord.e_u (by rfl) ?_)); (try simp only [Act.put, List.setIfInBounds_toArray, List.set_cons_zero, List.set_cons_succ])
  refine Ord.e_rowS Try.underlying58 rfl (by kernel_rfl) rfl (by simp) (fun w' hS j v hv => ((show Below _ w1 w' from hS).cell (p := ⟨w.heap.size + 1, 0 + j, none⟩) hltd).trans (hrow j v hv)) h3 (by rfl) ?_
  (try simp only [Act.put, List.setIfInBounds_toArray, List.set_cons_zero, List.set_cons_succ])
  repeat (first | (refine Ord.e_p (v := ?_) rfl (by rfl) ?_ ?_; rotate_left; · (intro w2; go_simp; try with_reducible rfl)) | (refine Ord.e_u (by rfl) ?_)); (try simp only [Act.put, List.setIfInBounds_toArray, List.set_cons_zero, List.set_cons_succ])
  refine Ord.e_x rfl (by rfl) ?_
  go_wp2_with fail
  go_fit (snd5_any x0 x1 x2 x3 x4 x5 x6 x7 _)
  rintro e w4 ⟨rfl, hb34⟩
  have h4 := h3.trans (hb34.mono h3.size)
  go_wp2_with fail
  refine Ord.Seg.go h4 (fun h => by cases h) ?_
  (try simp only [Act.put, List.setIfInBounds_toArray, List.set_cons_zero, List.set_cons_succ])
  clear h3 hb34
  repeat (first | (refine Ord.e_p (v := ?_) rfl (by rfl) ?_ ?_; rotate_left; · (intro w2; go_simp; try with_reducible rfl)) | (refine Ord.e_u (by rfl) ?_)); (try simp only [Act.put, List.setIfInBounds_toArray, List.set_cons_zero, List.set_cons_succ])
  refine Ord.e_x rfl (by rfl) ?_
  go_wp2_with fail
  go_fit (Htog.out _)
  rintro e w5 ⟨rfl, hb45⟩
  have h5 := h4.trans (hb45.mono h4.size)
  go_wp2_with fail
  refine Ord.Seg.go h5 (fun h => by cases h) ?_
  (try simp only [Act.put, List.setIfInBounds_toArray, List.set_cons_zero, List.set_cons_succ])
  clear h4 hb45
  repeat (first | (refine Ord.e_p (v := ?_) rfl (by rfl) ?_ ?_; rotate_left; · (intro w2; go_simp; try with_reducible rfl)) | (refine Ord.e_u (by rfl) ?_)); (try simp only [Act.put, List.setIfInBounds_toArray, List.set_cons_zero, List.set_cons_succ])
  refine Ord.e_nil ?_
  replace h1 := h1.trans (h5.mono h1.size)
  replace hr := blk_old hr h5 hltr
  replace hd := blk_old hd h5 hltd
  clear hk1 hk2 hrow h5 hltr hltd
  have hk0 := blk_cell (i := 0) (v := .func (.func 104) #[] #[]) hr rfl
  have d0 := blk_cell (i := 0) (v := .int .i64 x0) hd rfl
  have d1 := blk_cell (i := 1) (v := .int .i64 x1) hd rfl
  have d2 := blk_cell (i := 2) (v := .int .i64 x2) hd rfl
  have d3 := blk_cell (i := 3) (v := .int .i64 x3) hd rfl
  have d4 := blk_cell (i := 4) (v := .int .i64 x4) hd rfl
  have d5 := blk_cell (i := 5) (v := .int .i64 x5) hd rfl
  have d6 := blk_cell (i := 6) (v := .int .i64 x6) hd rfl
  have d7 := blk_cell (i := 7) (v := .int .i64 x7) hd rfl
  by_cases hle : x2 ≤ t + 2
  · go_wp2_with fail
    go_fit (snd2_any x0 x1 x2 x3 x4 x5 x6 x7 _)
    rintro e w6 ⟨rfl, hb6⟩
    replace h1 := bnx h1 hb6
    replace hr := blk_old hr hb6 (blk_lt hr)
    replace hd := blk_old hd hb6 (blk_lt hd)
    clear hk0 d0 d1 d2 d3 d4 d5 d6 d7 hb6
    have hk0 := blk_cell (i := 0) (v := .func (.func 104) #[] #[]) hr rfl
    have d0 := blk_cell (i := 0) (v := .int .i64 x0) hd rfl
    have d1 := blk_cell (i := 1) (v := .int .i64 x1) hd rfl
    have d2 := blk_cell (i := 2) (v := .int .i64 x2) hd rfl
    have d3 := blk_cell (i := 3) (v := .int .i64 x3) hd rfl
    have d4 := blk_cell (i := 4) (v := .int .i64 x4) hd rfl
    have d5 := blk_cell (i := 5) (v := .int .i64 x5) hd rfl
    have d6 := blk_cell (i := 6) (v := .int .i64 x6) hd rfl
    have d7 := blk_cell (i := 7) (v := .int .i64 x7) hd rfl
    go_wp2_with fail
    go_fit (snd2_any x0 x1 x2 x3 x4 x5 x6 x7 _)
    rintro e w7 ⟨rfl, hb7⟩
    go_wp2
    go_ret
    exact ⟨by simp [hle], bnx h1 hb7⟩
  · go_wp2_with fail
    go_fit (snd2_any x0 x1 x2 x3 x4 x5 x6 x7 _)
    rintro e w6 ⟨rfl, hb6⟩
    go_wp2
    go_ret
    exact ⟨by simp; omega, bnx h1 hb6⟩
set_option maxRecDepth 10000 in
set_option maxHeartbeats 2000000 in
theorem holds1_any (x0 x1 x2 x3 x4 x5 x6 x7 : Int) (w : World) (hb : ∀ z ∈ [x0, x1, x2, x3, x4, x5, x6, x7], -9223372036854775808 ≤ z ∧ z ≤ 9223372036854775807) :
    Calls Try.prog 110 #[.agg #[.func (.func 103) #[] #[], .func (.func 104) #[] #[], .func (.func 105) #[] #[]], .agg #[.int .i64 x0, .int .i64 x1, .int .i64 x2, .int .i64 x3, .int .i64 x4, .int .i64 x5, .int .i64 x6, .int .i64 x7]] w fun e w' => e = .returned (.bool (nearB x1 (togR x2 x3))) ∧ Below w.heap.size w w' := by
  have hba := hb x1 (by simp)
  have hbb := hb x2 (by simp)
  have hbc := hb x3 (by simp)
  clear hb
  have htb := togR_bound x2 x3
  have htog := fun w => together_any x2 x3 w hbb hbc
  have Htog := Lib.hid htog
  clear htog
  obtain ⟨t, ht⟩ : ∃ t, t = togR x2 x3 := ⟨_, rfl⟩
  rw [← ht] at Htog htb ⊢
  clear ht
  unfold nearB
  have h1 : Below w.heap.size w ((w.alloc (.cells #[.func (.func 103) #[] #[], .func (.func 104) #[] #[], .func (.func 105) #[] #[]] 126)).alloc (.cells #[.int .i64 x0, .int .i64 x1, .int .i64 x2, .int .i64 x3, .int .i64 x4, .int .i64 x5, .int .i64 x6, .int .i64 x7] 58)) := ((Below.refl _ _).alloc (Nat.le_refl _) _).alloc (by simp) _
  have hr := (heap_alloc_old (w.alloc (.cells #[.func (.func 103) #[] #[], .func (.func 104) #[] #[], .func (.func 105) #[] #[]] 126)) (.cells #[.int .i64 x0, .int .i64 x1, .int .i64 x2, .int .i64 x3, .int .i64 x4, .int .i64 x5, .int .i64 x6, .int .i64 x7] 58) (blk_lt (heap_alloc_new w _))).trans (heap_alloc_new w (.cells #[.func (.func 103) #[] #[], .func (.func 104) #[] #[], .func (.func 105) #[] #[]] 126))
  have hd := blk_new2 w (.cells #[.func (.func 103) #[] #[], .func (.func 104) #[] #[], .func (.func 105) #[] #[]] 126) (.cells #[.int .i64 x0, .int .i64 x1, .int .i64 x2, .int .i64 x3, .int .i64 x4, .int .i64 x5, .int .i64 x6, .int .i64 x7] 58)
  go_enter Try.func110, Try.ntmps110
  go_wp2_with fail
  generalize ((w.alloc (.cells #[.func (.func 103) #[] #[], .func (.func 104) #[] #[], .func (.func 105) #[] #[]] 126)).alloc (.cells #[.int .i64 x0, .int .i64 x1, .int .i64 x2, .int .i64 x3, .int .i64 x4, .int .i64 x5, .int .i64 x6, .int .i64 x7] 58)) = w1 at *
  have hltr := blk_lt hr
  have hltd := blk_lt hd
  have hk1 := blk_cell (i := 1) (v := .func (.func 104) #[] #[]) hr rfl
  have hk2 := blk_cell (i := 2) (v := .func (.func 105) #[] #[]) hr rfl
  have hrow : w1.rangeAt (w.heap.size + 1) 0 [.int .i64 x0, .int .i64 x1, .int .i64 x2, .int .i64 x3, .int .i64 x4, .int .i64 x5, .int .i64 x6, .int .i64 x7] := own_range hd 0 (fun j v hv => by simpa using hv)
  refine Ord.region_ (fun w' => Below w1.heap.size w1 w') false [] (by kernel_rfl) (by kernel_rfl) ((Below.refl _ _).drew) ?_
  have h2 : Below w1.heap.size w1 w1.drew := (Below.refl _ _).drew
  generalize w1.drew = w2 at *
  repeat (first | (refine Ord.e_p (v := ?_) rfl (by rfl) ?_ ?_; rotate_left; · (intro w2; go_simp; try with_reducible rfl)) | (refine Ord.e_u (by rfl) ?_)); (try simp only [Act.put, List.setIfInBounds_toArray, List.set_cons_zero, List.set_cons_succ])
  refine Ord.e_loadS Try.underlying124 rfl (fun w' hS => ((show Below _ w1 w' from hS).cell (p := ⟨w.heap.size, 1, none⟩) hltr).trans hk1) h2 rfl (by rfl) ?_
  (try simp only [Act.put, List.setIfInBounds_toArray, List.set_cons_zero, List.set_cons_succ])
  repeat (first | (refine Ord.e_p (v := ?_) rfl (by rfl) ?_ ?_; rotate_left; · (intro w2; go_simp; try with_reducible rfl)) | (refine Ord.e_u (by rfl) ?_)); (try simp only [Act.put, List.setIfInBounds_toArray, List.set_cons_zero, List.set_cons_succ])
  refine Ord.e_rowS Try.underlying58 rfl (by kernel_rfl) rfl (by simp) (fun w' hS j v hv => ((show Below _ w1 w' from hS).cell (p := ⟨w.heap.size + 1, 0 + j, none⟩) hltd).trans (hrow j v hv)) h2 (by rfl) ?_
  (try simp only [Act.put, List.setIfInBounds_toArray, List.set_cons_zero, List.set_cons_succ])
  repeat (first | (refine Ord.e_p (v := ?_) rfl (by rfl) ?_ ?_; rotate_left; · (intro w2; go_simp; try with_reducible rfl)) | (refine Ord.e_u (by rfl) ?_)); (try simp only [Act.put, List.setIfInBounds_toArray, List.set_cons_zero, List.set_cons_succ])
  refine Ord.e_x rfl (by rfl) ?_
  go_wp2_with fail
  go_fit (snd2_any x0 x1 x2 x3 x4 x5 x6 x7 _)
  rintro e w3 ⟨rfl, hb23⟩
  have h3 := h2.trans (hb23.mono h2.size)
  go_wp2_with fail
  refine Ord.Seg.go h3 (fun h => by cases h) ?_
  (try simp only [Act.put, List.setIfInBounds_toArray, List.set_cons_zero, List.set_cons_succ])
  clear h2 hb23
  repeat (first | (refine Ord.e_p (v := ?_) rfl (by rfl) ?_ ?_; rotate_left; · (intro w2; go_simp; try with_reducible rfl)) | (refine Ord.e_u (by rfl) ?_)); (try simp only [Act.put, List.setIfInBounds_toArray, List.set_cons_zero, List.set_cons_succ])
  refine Ord.e_loadS Try.underlying124 rfl (fun w' hS => ((show Below _ w1 w' from hS).cell (p := ⟨w.heap.size, 2, none⟩) hltr).trans hk2) h3 rfl (by rfl) ?_
  (try simp only [Act.put, List.setIfInBounds_toArray, List.set_cons_zero, List.set_cons_succ])
  repeat (first | (refine Ord.e_p (v := ?_) rfl (by rfl) ?_ ?_; rotate_left; · (intro w2; go_simp; try with_reducible rfl)) | (refine Ord.e_u (by rfl) ?_)); (try simp only [Act.put, List.setIfInBounds_toArray, List.set_cons_zero, List.set_cons_succ])
  refine Ord.e_rowS Try.underlying58 rfl (by kernel_rfl) rfl (by simp) (fun w' hS j v hv => ((show Below _ w1 w' from hS).cell (p := ⟨w.heap.size + 1, 0 + j, none⟩) hltd).trans (hrow j v hv)) h3 (by rfl) ?_
  (try simp only [Act.put, List.setIfInBounds_toArray, List.set_cons_zero, List.set_cons_succ])
  repeat (first | (refine Ord.e_p (v := ?_) rfl (by rfl) ?_ ?_; rotate_left; · (intro w2; go_simp; try with_reducible rfl)) | (refine Ord.e_u (by rfl) ?_)); (try simp only [Act.put, List.setIfInBounds_toArray, List.set_cons_zero, List.set_cons_succ])
  refine Ord.e_x rfl (by rfl) ?_
  go_wp2_with fail
  go_fit (snd3_any x0 x1 x2 x3 x4 x5 x6 x7 _)
  rintro e w4 ⟨rfl, hb34⟩
  have h4 := h3.trans (hb34.mono h3.size)
  go_wp2_with fail
  refine Ord.Seg.go h4 (fun h => by cases h) ?_
  (try simp only [Act.put, List.setIfInBounds_toArray, List.set_cons_zero, List.set_cons_succ])
  clear h3 hb34
  repeat (first | (refine Ord.e_p (v := ?_) rfl (by rfl) ?_ ?_; rotate_left; · (intro w2; go_simp; try with_reducible rfl)) | (refine Ord.e_u (by rfl) ?_)); (try simp only [Act.put, List.setIfInBounds_toArray, List.set_cons_zero, List.set_cons_succ])
  refine Ord.e_x rfl (by rfl) ?_
  go_wp2_with fail
  go_fit (Htog.out _)
  rintro e w5 ⟨rfl, hb45⟩
  have h5 := h4.trans (hb45.mono h4.size)
  go_wp2_with fail
  refine Ord.Seg.go h5 (fun h => by cases h) ?_
  (try simp only [Act.put, List.setIfInBounds_toArray, List.set_cons_zero, List.set_cons_succ])
  clear h4 hb45
  repeat (first | (refine Ord.e_p (v := ?_) rfl (by rfl) ?_ ?_; rotate_left; · (intro w2; go_simp; try with_reducible rfl)) | (refine Ord.e_u (by rfl) ?_)); (try simp only [Act.put, List.setIfInBounds_toArray, List.set_cons_zero, List.set_cons_succ])
  refine Ord.e_nil ?_
  replace h1 := h1.trans (h5.mono h1.size)
  replace hr := blk_old hr h5 hltr
  replace hd := blk_old hd h5 hltd
  clear hk1 hk2 hrow h5 hltr hltd
  have hk0 := blk_cell (i := 0) (v := .func (.func 103) #[] #[]) hr rfl
  have d0 := blk_cell (i := 0) (v := .int .i64 x0) hd rfl
  have d1 := blk_cell (i := 1) (v := .int .i64 x1) hd rfl
  have d2 := blk_cell (i := 2) (v := .int .i64 x2) hd rfl
  have d3 := blk_cell (i := 3) (v := .int .i64 x3) hd rfl
  have d4 := blk_cell (i := 4) (v := .int .i64 x4) hd rfl
  have d5 := blk_cell (i := 5) (v := .int .i64 x5) hd rfl
  have d6 := blk_cell (i := 6) (v := .int .i64 x6) hd rfl
  have d7 := blk_cell (i := 7) (v := .int .i64 x7) hd rfl
  by_cases hle : x1 ≤ t + 2
  · go_wp2_with fail
    go_fit (snd1_any x0 x1 x2 x3 x4 x5 x6 x7 _)
    rintro e w6 ⟨rfl, hb6⟩
    replace h1 := bnx h1 hb6
    replace hr := blk_old hr hb6 (blk_lt hr)
    replace hd := blk_old hd hb6 (blk_lt hd)
    clear hk0 d0 d1 d2 d3 d4 d5 d6 d7 hb6
    have hk0 := blk_cell (i := 0) (v := .func (.func 103) #[] #[]) hr rfl
    have d0 := blk_cell (i := 0) (v := .int .i64 x0) hd rfl
    have d1 := blk_cell (i := 1) (v := .int .i64 x1) hd rfl
    have d2 := blk_cell (i := 2) (v := .int .i64 x2) hd rfl
    have d3 := blk_cell (i := 3) (v := .int .i64 x3) hd rfl
    have d4 := blk_cell (i := 4) (v := .int .i64 x4) hd rfl
    have d5 := blk_cell (i := 5) (v := .int .i64 x5) hd rfl
    have d6 := blk_cell (i := 6) (v := .int .i64 x6) hd rfl
    have d7 := blk_cell (i := 7) (v := .int .i64 x7) hd rfl
    go_wp2_with fail
    go_fit (snd1_any x0 x1 x2 x3 x4 x5 x6 x7 _)
    rintro e w7 ⟨rfl, hb7⟩
    go_wp2
    go_ret
    exact ⟨by simp [hle], bnx h1 hb7⟩
  · go_wp2_with fail
    go_fit (snd1_any x0 x1 x2 x3 x4 x5 x6 x7 _)
    rintro e w6 ⟨rfl, hb6⟩
    go_wp2
    go_ret
    exact ⟨by simp; omega, bnx h1 hb6⟩
set_option maxRecDepth 10000 in
set_option maxHeartbeats 2000000 in
theorem holds2_any (x0 x1 x2 x3 x4 x5 x6 x7 : Int) (w : World) (hb : ∀ z ∈ [x0, x1, x2, x3, x4, x5, x6, x7], -9223372036854775808 ≤ z ∧ z ≤ 9223372036854775807) :
    Calls Try.prog 110 #[.agg #[.func (.func 107) #[] #[], .func (.func 108) #[] #[], .func (.func 109) #[] #[]], .agg #[.int .i64 x0, .int .i64 x1, .int .i64 x2, .int .i64 x3, .int .i64 x4, .int .i64 x5, .int .i64 x6, .int .i64 x7]] w fun e w' => e = .returned (.bool (nearB x5 (togR x6 x7))) ∧ Below w.heap.size w w' := by
  have hba := hb x5 (by simp)
  have hbb := hb x6 (by simp)
  have hbc := hb x7 (by simp)
  clear hb
  have htb := togR_bound x6 x7
  have htog := fun w => together_any x6 x7 w hbb hbc
  have Htog := Lib.hid htog
  clear htog
  obtain ⟨t, ht⟩ : ∃ t, t = togR x6 x7 := ⟨_, rfl⟩
  rw [← ht] at Htog htb ⊢
  clear ht
  unfold nearB
  have h1 : Below w.heap.size w ((w.alloc (.cells #[.func (.func 107) #[] #[], .func (.func 108) #[] #[], .func (.func 109) #[] #[]] 126)).alloc (.cells #[.int .i64 x0, .int .i64 x1, .int .i64 x2, .int .i64 x3, .int .i64 x4, .int .i64 x5, .int .i64 x6, .int .i64 x7] 58)) := ((Below.refl _ _).alloc (Nat.le_refl _) _).alloc (by simp) _
  have hr := (heap_alloc_old (w.alloc (.cells #[.func (.func 107) #[] #[], .func (.func 108) #[] #[], .func (.func 109) #[] #[]] 126)) (.cells #[.int .i64 x0, .int .i64 x1, .int .i64 x2, .int .i64 x3, .int .i64 x4, .int .i64 x5, .int .i64 x6, .int .i64 x7] 58) (blk_lt (heap_alloc_new w _))).trans (heap_alloc_new w (.cells #[.func (.func 107) #[] #[], .func (.func 108) #[] #[], .func (.func 109) #[] #[]] 126))
  have hd := blk_new2 w (.cells #[.func (.func 107) #[] #[], .func (.func 108) #[] #[], .func (.func 109) #[] #[]] 126) (.cells #[.int .i64 x0, .int .i64 x1, .int .i64 x2, .int .i64 x3, .int .i64 x4, .int .i64 x5, .int .i64 x6, .int .i64 x7] 58)
  go_enter Try.func110, Try.ntmps110
  go_wp2_with fail
  generalize ((w.alloc (.cells #[.func (.func 107) #[] #[], .func (.func 108) #[] #[], .func (.func 109) #[] #[]] 126)).alloc (.cells #[.int .i64 x0, .int .i64 x1, .int .i64 x2, .int .i64 x3, .int .i64 x4, .int .i64 x5, .int .i64 x6, .int .i64 x7] 58)) = w1 at *
  have hltr := blk_lt hr
  have hltd := blk_lt hd
  have hk1 := blk_cell (i := 1) (v := .func (.func 108) #[] #[]) hr rfl
  have hk2 := blk_cell (i := 2) (v := .func (.func 109) #[] #[]) hr rfl
  have hrow : w1.rangeAt (w.heap.size + 1) 0 [.int .i64 x0, .int .i64 x1, .int .i64 x2, .int .i64 x3, .int .i64 x4, .int .i64 x5, .int .i64 x6, .int .i64 x7] := own_range hd 0 (fun j v hv => by simpa using hv)
  refine Ord.region_ (fun w' => Below w1.heap.size w1 w') false [] (by kernel_rfl) (by kernel_rfl) ((Below.refl _ _).drew) ?_
  have h2 : Below w1.heap.size w1 w1.drew := (Below.refl _ _).drew
  generalize w1.drew = w2 at *
  repeat (first | (refine Ord.e_p (v := ?_) rfl (by rfl) ?_ ?_; rotate_left; · (intro w2; go_simp; try with_reducible rfl)) | (refine Ord.e_u (by rfl) ?_)); (try simp only [Act.put, List.setIfInBounds_toArray, List.set_cons_zero, List.set_cons_succ])
  refine Ord.e_loadS Try.underlying124 rfl (fun w' hS => ((show Below _ w1 w' from hS).cell (p := ⟨w.heap.size, 1, none⟩) hltr).trans hk1) h2 rfl (by rfl) ?_
  (try simp only [Act.put, List.setIfInBounds_toArray, List.set_cons_zero, List.set_cons_succ])
  repeat (first | (refine Ord.e_p (v := ?_) rfl (by rfl) ?_ ?_; rotate_left; · (intro w2; go_simp; try with_reducible rfl)) | (refine Ord.e_u (by rfl) ?_)); (try simp only [Act.put, List.setIfInBounds_toArray, List.set_cons_zero, List.set_cons_succ])
  refine Ord.e_rowS Try.underlying58 rfl (by kernel_rfl) rfl (by simp) (fun w' hS j v hv => ((show Below _ w1 w' from hS).cell (p := ⟨w.heap.size + 1, 0 + j, none⟩) hltd).trans (hrow j v hv)) h2 (by rfl) ?_
  (try simp only [Act.put, List.setIfInBounds_toArray, List.set_cons_zero, List.set_cons_succ])
  repeat (first | (refine Ord.e_p (v := ?_) rfl (by rfl) ?_ ?_; rotate_left; · (intro w2; go_simp; try with_reducible rfl)) | (refine Ord.e_u (by rfl) ?_)); (try simp only [Act.put, List.setIfInBounds_toArray, List.set_cons_zero, List.set_cons_succ])
  refine Ord.e_x rfl (by rfl) ?_
  go_wp2_with fail
  go_fit (snd6_any x0 x1 x2 x3 x4 x5 x6 x7 _)
  rintro e w3 ⟨rfl, hb23⟩
  have h3 := h2.trans (hb23.mono h2.size)
  go_wp2_with fail
  refine Ord.Seg.go h3 (fun h => by cases h) ?_
  (try simp only [Act.put, List.setIfInBounds_toArray, List.set_cons_zero, List.set_cons_succ])
  clear h2 hb23
  repeat (first | (refine Ord.e_p (v := ?_) rfl (by rfl) ?_ ?_; rotate_left; · (intro w2; go_simp; try with_reducible rfl)) | (refine Ord.e_u (by rfl) ?_)); (try simp only [Act.put, List.setIfInBounds_toArray, List.set_cons_zero, List.set_cons_succ])
  refine Ord.e_loadS Try.underlying124 rfl (fun w' hS => ((show Below _ w1 w' from hS).cell (p := ⟨w.heap.size, 2, none⟩) hltr).trans hk2) h3 rfl (by rfl) ?_
  (try simp only [Act.put, List.setIfInBounds_toArray, List.set_cons_zero, List.set_cons_succ])
  repeat (first | (refine Ord.e_p (v := ?_) rfl (by rfl) ?_ ?_; rotate_left; · (intro w2; go_simp; try with_reducible rfl)) | (refine Ord.e_u (by rfl) ?_)); (try simp only [Act.put, List.setIfInBounds_toArray, List.set_cons_zero, List.set_cons_succ])
  refine Ord.e_rowS Try.underlying58 rfl (by kernel_rfl) rfl (by simp) (fun w' hS j v hv => ((show Below _ w1 w' from hS).cell (p := ⟨w.heap.size + 1, 0 + j, none⟩) hltd).trans (hrow j v hv)) h3 (by rfl) ?_
  (try simp only [Act.put, List.setIfInBounds_toArray, List.set_cons_zero, List.set_cons_succ])
  repeat (first | (refine Ord.e_p (v := ?_) rfl (by rfl) ?_ ?_; rotate_left; · (intro w2; go_simp; try with_reducible rfl)) | (refine Ord.e_u (by rfl) ?_)); (try simp only [Act.put, List.setIfInBounds_toArray, List.set_cons_zero, List.set_cons_succ])
  refine Ord.e_x rfl (by rfl) ?_
  go_wp2_with fail
  go_fit (snd7_any x0 x1 x2 x3 x4 x5 x6 x7 _)
  rintro e w4 ⟨rfl, hb34⟩
  have h4 := h3.trans (hb34.mono h3.size)
  go_wp2_with fail
  refine Ord.Seg.go h4 (fun h => by cases h) ?_
  (try simp only [Act.put, List.setIfInBounds_toArray, List.set_cons_zero, List.set_cons_succ])
  clear h3 hb34
  repeat (first | (refine Ord.e_p (v := ?_) rfl (by rfl) ?_ ?_; rotate_left; · (intro w2; go_simp; try with_reducible rfl)) | (refine Ord.e_u (by rfl) ?_)); (try simp only [Act.put, List.setIfInBounds_toArray, List.set_cons_zero, List.set_cons_succ])
  refine Ord.e_x rfl (by rfl) ?_
  go_wp2_with fail
  go_fit (Htog.out _)
  rintro e w5 ⟨rfl, hb45⟩
  have h5 := h4.trans (hb45.mono h4.size)
  go_wp2_with fail
  refine Ord.Seg.go h5 (fun h => by cases h) ?_
  (try simp only [Act.put, List.setIfInBounds_toArray, List.set_cons_zero, List.set_cons_succ])
  clear h4 hb45
  repeat (first | (refine Ord.e_p (v := ?_) rfl (by rfl) ?_ ?_; rotate_left; · (intro w2; go_simp; try with_reducible rfl)) | (refine Ord.e_u (by rfl) ?_)); (try simp only [Act.put, List.setIfInBounds_toArray, List.set_cons_zero, List.set_cons_succ])
  refine Ord.e_nil ?_
  replace h1 := h1.trans (h5.mono h1.size)
  replace hr := blk_old hr h5 hltr
  replace hd := blk_old hd h5 hltd
  clear hk1 hk2 hrow h5 hltr hltd
  have hk0 := blk_cell (i := 0) (v := .func (.func 107) #[] #[]) hr rfl
  have d0 := blk_cell (i := 0) (v := .int .i64 x0) hd rfl
  have d1 := blk_cell (i := 1) (v := .int .i64 x1) hd rfl
  have d2 := blk_cell (i := 2) (v := .int .i64 x2) hd rfl
  have d3 := blk_cell (i := 3) (v := .int .i64 x3) hd rfl
  have d4 := blk_cell (i := 4) (v := .int .i64 x4) hd rfl
  have d5 := blk_cell (i := 5) (v := .int .i64 x5) hd rfl
  have d6 := blk_cell (i := 6) (v := .int .i64 x6) hd rfl
  have d7 := blk_cell (i := 7) (v := .int .i64 x7) hd rfl
  by_cases hle : x5 ≤ t + 2
  · go_wp2_with fail
    go_fit (snd5_any x0 x1 x2 x3 x4 x5 x6 x7 _)
    rintro e w6 ⟨rfl, hb6⟩
    replace h1 := bnx h1 hb6
    replace hr := blk_old hr hb6 (blk_lt hr)
    replace hd := blk_old hd hb6 (blk_lt hd)
    clear hk0 d0 d1 d2 d3 d4 d5 d6 d7 hb6
    have hk0 := blk_cell (i := 0) (v := .func (.func 107) #[] #[]) hr rfl
    have d0 := blk_cell (i := 0) (v := .int .i64 x0) hd rfl
    have d1 := blk_cell (i := 1) (v := .int .i64 x1) hd rfl
    have d2 := blk_cell (i := 2) (v := .int .i64 x2) hd rfl
    have d3 := blk_cell (i := 3) (v := .int .i64 x3) hd rfl
    have d4 := blk_cell (i := 4) (v := .int .i64 x4) hd rfl
    have d5 := blk_cell (i := 5) (v := .int .i64 x5) hd rfl
    have d6 := blk_cell (i := 6) (v := .int .i64 x6) hd rfl
    have d7 := blk_cell (i := 7) (v := .int .i64 x7) hd rfl
    go_wp2_with fail
    go_fit (snd5_any x0 x1 x2 x3 x4 x5 x6 x7 _)
    rintro e w7 ⟨rfl, hb7⟩
    go_wp2
    go_ret
    exact ⟨by simp [hle], bnx h1 hb7⟩
  · go_wp2_with fail
    go_fit (snd5_any x0 x1 x2 x3 x4 x5 x6 x7 _)
    rintro e w6 ⟨rfl, hb6⟩
    go_wp2
    go_ret
    exact ⟨by simp; omega, bnx h1 hb6⟩

end Go.Proofs.Ytkelepnipndbbaa
