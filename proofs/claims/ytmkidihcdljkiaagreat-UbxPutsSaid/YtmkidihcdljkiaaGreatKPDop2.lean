/-
  dop's Put and Take, and the document's (printed by gen_dop.py).
-/
import Derived.Test.YtmkidihcdljkiaaGreatKPGDA
import Derived.Test.YtmkidihcdljkiaaGreatKPGM
import Derived.Test.YtmkidihcdljkiaaGreatKPGE
set_option linter.unusedSimpArgs false
set_option linter.unusedVariables false
namespace Go.Proofs.YtmkidihcdljkiaaGreat
open Go.RowKit NumLaw

set_option maxRecDepth 10000 in
set_option maxHeartbeats 4000000 in
theorem dopPut_any (x0 x1 x2 x3 x4 x5 x6 x7 : Int) (w : World) (hb : ∀ z ∈ [x0, x1, x2, x3, x4, x5, x6, x7], -9223372036854775808 ≤ z ∧ z ≤ 9223372036854775807) :
    Calls Tryz.prog 155 #[.agg #[.int .i64 x0, .int .i64 x1, .int .i64 x2, .int .i64 x3, .int .i64 x4, .int .i64 x5, .int .i64 x6, .int .i64 x7]] w (RetPS w (shP dopF [x0, x1, x2, x3, x4, x5, x6, x7]) (shE dopF [x0, x1, x2, x3, x4, x5, x6, x7])) := by
  have hvb : ∀ z ∈ [x0, x1, x2, x3, x4, x5, x6, x7], -9223372036854775808 ≤ z ∧ z ≤ 9223372036854775807 := by intro z hz; simp only [List.mem_cons, List.not_mem_nil, or_false] at hz hb; rcases hz with rfl | rfl | rfl | rfl | rfl | rfl | rfl | rfl <;> first | (exact hb _ (by simp)) | omega
  obtain ⟨oP, hoP⟩ : ∃ oP, oP = shP dopF [x0, x1, x2, x3, x4, x5, x6, x7] := ⟨_, rfl⟩
  obtain ⟨oE, hoE⟩ : ∃ oE, oE = shE dopF [x0, x1, x2, x3, x4, x5, x6, x7] := ⟨_, rfl⟩
  rw [← hoP, ← hoE]
  have HoP := Lib.hid hoP
  have HoE := Lib.hid hoE
  have Hvb := Lib.hid hvb
  clear hoP hoE hvb hb
  have hb1 : Below w.heap.size w (w.alloc (.cells #[.int .i64 x0, .int .i64 x1, .int .i64 x2, .int .i64 x3, .int .i64 x4, .int .i64 x5, .int .i64 x6, .int .i64 x7] 28)) := (Below.refl _ _).alloc (Nat.le_refl _) _
  have hbox := heap_alloc_new w (.cells #[.int .i64 x0, .int .i64 x1, .int .i64 x2, .int .i64 x3, .int .i64 x4, .int .i64 x5, .int .i64 x6, .int .i64 x7] 28)
  have hlt := blk_lt hbox
  have c0 := blk_cell (i := 0) (v := .int .i64 x0) hbox rfl
  have c1 := blk_cell (i := 1) (v := .int .i64 x1) hbox rfl
  have c2 := blk_cell (i := 2) (v := .int .i64 x2) hbox rfl
  have c3 := blk_cell (i := 3) (v := .int .i64 x3) hbox rfl
  have c4 := blk_cell (i := 4) (v := .int .i64 x4) hbox rfl
  have c5 := blk_cell (i := 5) (v := .int .i64 x5) hbox rfl
  have c6 := blk_cell (i := 6) (v := .int .i64 x6) hbox rfl
  have c7 := blk_cell (i := 7) (v := .int .i64 x7) hbox rfl
  go_enter Tryz.func155, Tryz.ntmps155
  go_wp2_with fail
  generalize (w.alloc (.cells #[.int .i64 x0, .int .i64 x1, .int .i64 x2, .int .i64 x3, .int .i64 x4, .int .i64 x5, .int .i64 x6, .int .i64 x7] 28)) = w1 at *
  refine Ord.region_m [0, 17] [[0, 1, 2, 3, 4, 5, 6, 7, 8, 9, 10, 11, 12, 13, 14, 15, 16, 17, 18, 19, 20, 21, 22], [1, 2, 3, 4, 5, 6, 7, 8, 9, 10, 11, 12, 13, 14, 15, 16, 17, 0, 18, 19, 20, 21, 22]] (fun w' => Below w1.heap.size w1 w') false [] (by kernel_rfl) (by kernel_rfl) ((Below.refl _ _).drew) ?_
  have h2 : Below w1.heap.size w1 w1.drew := (Below.refl _ _).drew
  generalize w1.drew = w2 at *
  clear hbox
  intro L hL
  simp only [List.mem_cons, List.not_mem_nil, or_false] at hL
  rcases hL with rfl | rfl
  · simp only [Ord.lst, List.filterMap_cons, List.filterMap_nil, List.getElem?_toArray, List.getElem?_cons_succ, List.getElem?_cons_zero]
    refine Ord.e_x rfl (by rfl) ?_
    go_wp2_with fail
    go_fit (dopfields_any w2)
    rintro e w3 ⟨Af, nf, cf, rfl, hnf, hrf, hb23⟩
    have h3 := h2.trans (hb23.mono h2.size)
    go_wp2_with fail
    refine Ord.Seg.go h3 (fun h => by cases h) ?_
    (try simp only [Act.put, List.setIfInBounds_toArray, List.set_cons_zero, List.set_cons_succ])
    clear h2 hb23
    repeat (first | (refine Ord.e_p (v := ?_) rfl (by rfl) ?_ ?_; rotate_left; · (intro w2; go_simp; try with_reducible rfl)) | (refine Ord.e_u (by rfl) ?_)); (try simp only [Act.put, List.setIfInBounds_toArray, List.set_cons_zero, List.set_cons_succ])
    refine Ord.e_loadS Tryz.underlying2 rfl (fun w' hS => ((show Below _ w1 w' from hS).cell (p := ⟨w.heap.size, 0, none⟩) hlt).trans c0) h3 rfl (by rfl) ?_
    (try simp only [Act.put, List.setIfInBounds_toArray, List.set_cons_zero, List.set_cons_succ])
    repeat (first | (refine Ord.e_p (v := ?_) rfl (by rfl) ?_ ?_; rotate_left; · (intro w2; go_simp; try with_reducible rfl)) | (refine Ord.e_u (by rfl) ?_)); (try simp only [Act.put, List.setIfInBounds_toArray, List.set_cons_zero, List.set_cons_succ])
    refine Ord.e_loadS Tryz.underlying2 rfl (fun w' hS => ((show Below _ w1 w' from hS).cell (p := ⟨w.heap.size, 1, none⟩) hlt).trans c1) h3 rfl (by rfl) ?_
    (try simp only [Act.put, List.setIfInBounds_toArray, List.set_cons_zero, List.set_cons_succ])
    repeat (first | (refine Ord.e_p (v := ?_) rfl (by rfl) ?_ ?_; rotate_left; · (intro w2; go_simp; try with_reducible rfl)) | (refine Ord.e_u (by rfl) ?_)); (try simp only [Act.put, List.setIfInBounds_toArray, List.set_cons_zero, List.set_cons_succ])
    refine Ord.e_loadS Tryz.underlying2 rfl (fun w' hS => ((show Below _ w1 w' from hS).cell (p := ⟨w.heap.size, 2, none⟩) hlt).trans c2) h3 rfl (by rfl) ?_
    (try simp only [Act.put, List.setIfInBounds_toArray, List.set_cons_zero, List.set_cons_succ])
    repeat (first | (refine Ord.e_p (v := ?_) rfl (by rfl) ?_ ?_; rotate_left; · (intro w2; go_simp; try with_reducible rfl)) | (refine Ord.e_u (by rfl) ?_)); (try simp only [Act.put, List.setIfInBounds_toArray, List.set_cons_zero, List.set_cons_succ])
    refine Ord.e_loadS Tryz.underlying2 rfl (fun w' hS => ((show Below _ w1 w' from hS).cell (p := ⟨w.heap.size, 3, none⟩) hlt).trans c3) h3 rfl (by rfl) ?_
    (try simp only [Act.put, List.setIfInBounds_toArray, List.set_cons_zero, List.set_cons_succ])
    repeat (first | (refine Ord.e_p (v := ?_) rfl (by rfl) ?_ ?_; rotate_left; · (intro w2; go_simp; try with_reducible rfl)) | (refine Ord.e_u (by rfl) ?_)); (try simp only [Act.put, List.setIfInBounds_toArray, List.set_cons_zero, List.set_cons_succ])
    refine Ord.e_loadS Tryz.underlying2 rfl (fun w' hS => ((show Below _ w1 w' from hS).cell (p := ⟨w.heap.size, 4, none⟩) hlt).trans c4) h3 rfl (by rfl) ?_
    (try simp only [Act.put, List.setIfInBounds_toArray, List.set_cons_zero, List.set_cons_succ])
    repeat (first | (refine Ord.e_p (v := ?_) rfl (by rfl) ?_ ?_; rotate_left; · (intro w2; go_simp; try with_reducible rfl)) | (refine Ord.e_u (by rfl) ?_)); (try simp only [Act.put, List.setIfInBounds_toArray, List.set_cons_zero, List.set_cons_succ])
    refine Ord.e_loadS Tryz.underlying2 rfl (fun w' hS => ((show Below _ w1 w' from hS).cell (p := ⟨w.heap.size, 5, none⟩) hlt).trans c5) h3 rfl (by rfl) ?_
    (try simp only [Act.put, List.setIfInBounds_toArray, List.set_cons_zero, List.set_cons_succ])
    repeat (first | (refine Ord.e_p (v := ?_) rfl (by rfl) ?_ ?_; rotate_left; · (intro w2; go_simp; try with_reducible rfl)) | (refine Ord.e_u (by rfl) ?_)); (try simp only [Act.put, List.setIfInBounds_toArray, List.set_cons_zero, List.set_cons_succ])
    refine Ord.e_loadS Tryz.underlying2 rfl (fun w' hS => ((show Below _ w1 w' from hS).cell (p := ⟨w.heap.size, 6, none⟩) hlt).trans c6) h3 rfl (by rfl) ?_
    (try simp only [Act.put, List.setIfInBounds_toArray, List.set_cons_zero, List.set_cons_succ])
    repeat (first | (refine Ord.e_p (v := ?_) rfl (by rfl) ?_ ?_; rotate_left; · (intro w2; go_simp; try with_reducible rfl)) | (refine Ord.e_u (by rfl) ?_)); (try simp only [Act.put, List.setIfInBounds_toArray, List.set_cons_zero, List.set_cons_succ])
    refine Ord.e_loadS Tryz.underlying2 rfl (fun w' hS => ((show Below _ w1 w' from hS).cell (p := ⟨w.heap.size, 7, none⟩) hlt).trans c7) h3 rfl (by rfl) ?_
    (try simp only [Act.put, List.setIfInBounds_toArray, List.set_cons_zero, List.set_cons_succ])
    repeat (first | (refine Ord.e_p (v := ?_) rfl (by rfl) ?_ ?_; rotate_left; · (intro w2; go_simp; try with_reducible rfl)) | (refine Ord.e_u (by rfl) ?_)); (try simp only [Act.put, List.setIfInBounds_toArray, List.set_cons_zero, List.set_cons_succ])
    refine Ord.e_x rfl (by rfl) ?_
    go_wp2
    have hrn : Rd (w3.alloc (.cells #[.int .i64 x0, .int .i64 x1, .int .i64 x2, .int .i64 x3, .int .i64 x4, .int .i64 x5, .int .i64 x6, .int .i64 x7] 2)) (w3.heap.size + 1) 1 (some ⟨w3.heap.size, 0, none⟩) 8 8 ([x0, x1, x2, x3, x4, x5, x6, x7].map (Value.int .i64)) := rd_lit' w3 2 [.int .i64 x0, .int .i64 x1, .int .i64 x2, .int .i64 x3, .int .i64 x4, .int .i64 x5, .int .i64 x6, .int .i64 x7] (by simp [maxLen])
    have hb34 : Below w3.heap.size w3 (w3.alloc (.cells #[.int .i64 x0, .int .i64 x1, .int .i64 x2, .int .i64 x3, .int .i64 x4, .int .i64 x5, .int .i64 x6, .int .i64 x7] 2)) := (Below.refl _ _).alloc (Nat.le_refl _) _
    have h4 := h3.trans (hb34.mono h3.size)
    replace hrf := hrf.up hb34
    have hsz : (w3.alloc (.cells #[.int .i64 x0, .int .i64 x1, .int .i64 x2, .int .i64 x3, .int .i64 x4, .int .i64 x5, .int .i64 x6, .int .i64 x7] 2)).heap.size = w3.heap.size + 1 := World.size_alloc _ _
    refine Ord.Seg.go h4 (fun h => by cases h) ?_
    (try simp only [Act.put, List.setIfInBounds_toArray, List.set_cons_zero, List.set_cons_succ])
    generalize (w3.alloc (.cells #[.int .i64 x0, .int .i64 x1, .int .i64 x2, .int .i64 x3, .int .i64 x4, .int .i64 x5, .int .i64 x6, .int .i64 x7] 2)) = w4 at *
    have Hsz := Lib.hid hsz
    clear hsz h3 hb34
    repeat (first | (refine Ord.e_p (v := ?_) rfl (by rfl) ?_ ?_; rotate_left; · (intro w2; go_simp; try with_reducible rfl)) | (refine Ord.e_u (by rfl) ?_)); (try simp only [Act.put, List.setIfInBounds_toArray, List.set_cons_zero, List.set_cons_succ])
    refine Ord.e_x rfl (by rfl) ?_
    go_wp2_with fail
    go_fit (shPut_any Af nf cf w3.heap.size dopF (some ⟨w3.heap.size, 0, none⟩) 8 8 (w3.heap.size + 1) [x0, x1, x2, x3, x4, x5, x6, x7] w4 hrf (by rw [Hsz.out]; omega) hrn (by rw [Hsz.out]; omega) (by omega) Hvb.out)
    rw [← HoE.out, ← HoP.out]
    rintro e w5 ⟨Ap, np, cp, rfl, hown, hb5⟩
    have h5 := h4.trans (hb5.mono h4.size)
    have hfin : Below w.heap.size w w5 := hb1.trans (h5.mono hb1.size)
    have hown' := own_mono hown (base' := w.heap.size) (by have := h4.size; omega)
    go_wp2_with fail
    refine Ord.Seg.go h5 (fun h => by cases h) ?_
    (try simp only [Act.put, List.setIfInBounds_toArray, List.set_cons_zero, List.set_cons_succ])
    repeat (first | (refine Ord.e_p (v := ?_) rfl (by rfl) ?_ ?_; rotate_left; · (intro w2; go_simp; try with_reducible rfl)) | (refine Ord.e_u (by rfl) ?_)); (try simp only [Act.put, List.setIfInBounds_toArray, List.set_cons_zero, List.set_cons_succ])
    refine Ord.e_nil ?_
    clear h4 hb5 hown
    go_wp2
    go_ret2
    exact ⟨Ap, np, cp, rfl, hown', hfin⟩
  · simp only [Ord.lst, List.filterMap_cons, List.filterMap_nil, List.getElem?_toArray, List.getElem?_cons_succ, List.getElem?_cons_zero]
    repeat (first | (refine Ord.e_p (v := ?_) rfl (by rfl) ?_ ?_; rotate_left; · (intro w2; go_simp; try with_reducible rfl)) | (refine Ord.e_u (by rfl) ?_)); (try simp only [Act.put, List.setIfInBounds_toArray, List.set_cons_zero, List.set_cons_succ])
    refine Ord.e_loadS Tryz.underlying2 rfl (fun w' hS => ((show Below _ w1 w' from hS).cell (p := ⟨w.heap.size, 0, none⟩) hlt).trans c0) h2 rfl (by rfl) ?_
    (try simp only [Act.put, List.setIfInBounds_toArray, List.set_cons_zero, List.set_cons_succ])
    repeat (first | (refine Ord.e_p (v := ?_) rfl (by rfl) ?_ ?_; rotate_left; · (intro w2; go_simp; try with_reducible rfl)) | (refine Ord.e_u (by rfl) ?_)); (try simp only [Act.put, List.setIfInBounds_toArray, List.set_cons_zero, List.set_cons_succ])
    refine Ord.e_loadS Tryz.underlying2 rfl (fun w' hS => ((show Below _ w1 w' from hS).cell (p := ⟨w.heap.size, 1, none⟩) hlt).trans c1) h2 rfl (by rfl) ?_
    (try simp only [Act.put, List.setIfInBounds_toArray, List.set_cons_zero, List.set_cons_succ])
    repeat (first | (refine Ord.e_p (v := ?_) rfl (by rfl) ?_ ?_; rotate_left; · (intro w2; go_simp; try with_reducible rfl)) | (refine Ord.e_u (by rfl) ?_)); (try simp only [Act.put, List.setIfInBounds_toArray, List.set_cons_zero, List.set_cons_succ])
    refine Ord.e_loadS Tryz.underlying2 rfl (fun w' hS => ((show Below _ w1 w' from hS).cell (p := ⟨w.heap.size, 2, none⟩) hlt).trans c2) h2 rfl (by rfl) ?_
    (try simp only [Act.put, List.setIfInBounds_toArray, List.set_cons_zero, List.set_cons_succ])
    repeat (first | (refine Ord.e_p (v := ?_) rfl (by rfl) ?_ ?_; rotate_left; · (intro w2; go_simp; try with_reducible rfl)) | (refine Ord.e_u (by rfl) ?_)); (try simp only [Act.put, List.setIfInBounds_toArray, List.set_cons_zero, List.set_cons_succ])
    refine Ord.e_loadS Tryz.underlying2 rfl (fun w' hS => ((show Below _ w1 w' from hS).cell (p := ⟨w.heap.size, 3, none⟩) hlt).trans c3) h2 rfl (by rfl) ?_
    (try simp only [Act.put, List.setIfInBounds_toArray, List.set_cons_zero, List.set_cons_succ])
    repeat (first | (refine Ord.e_p (v := ?_) rfl (by rfl) ?_ ?_; rotate_left; · (intro w2; go_simp; try with_reducible rfl)) | (refine Ord.e_u (by rfl) ?_)); (try simp only [Act.put, List.setIfInBounds_toArray, List.set_cons_zero, List.set_cons_succ])
    refine Ord.e_loadS Tryz.underlying2 rfl (fun w' hS => ((show Below _ w1 w' from hS).cell (p := ⟨w.heap.size, 4, none⟩) hlt).trans c4) h2 rfl (by rfl) ?_
    (try simp only [Act.put, List.setIfInBounds_toArray, List.set_cons_zero, List.set_cons_succ])
    repeat (first | (refine Ord.e_p (v := ?_) rfl (by rfl) ?_ ?_; rotate_left; · (intro w2; go_simp; try with_reducible rfl)) | (refine Ord.e_u (by rfl) ?_)); (try simp only [Act.put, List.setIfInBounds_toArray, List.set_cons_zero, List.set_cons_succ])
    refine Ord.e_loadS Tryz.underlying2 rfl (fun w' hS => ((show Below _ w1 w' from hS).cell (p := ⟨w.heap.size, 5, none⟩) hlt).trans c5) h2 rfl (by rfl) ?_
    (try simp only [Act.put, List.setIfInBounds_toArray, List.set_cons_zero, List.set_cons_succ])
    repeat (first | (refine Ord.e_p (v := ?_) rfl (by rfl) ?_ ?_; rotate_left; · (intro w2; go_simp; try with_reducible rfl)) | (refine Ord.e_u (by rfl) ?_)); (try simp only [Act.put, List.setIfInBounds_toArray, List.set_cons_zero, List.set_cons_succ])
    refine Ord.e_loadS Tryz.underlying2 rfl (fun w' hS => ((show Below _ w1 w' from hS).cell (p := ⟨w.heap.size, 6, none⟩) hlt).trans c6) h2 rfl (by rfl) ?_
    (try simp only [Act.put, List.setIfInBounds_toArray, List.set_cons_zero, List.set_cons_succ])
    repeat (first | (refine Ord.e_p (v := ?_) rfl (by rfl) ?_ ?_; rotate_left; · (intro w2; go_simp; try with_reducible rfl)) | (refine Ord.e_u (by rfl) ?_)); (try simp only [Act.put, List.setIfInBounds_toArray, List.set_cons_zero, List.set_cons_succ])
    refine Ord.e_loadS Tryz.underlying2 rfl (fun w' hS => ((show Below _ w1 w' from hS).cell (p := ⟨w.heap.size, 7, none⟩) hlt).trans c7) h2 rfl (by rfl) ?_
    (try simp only [Act.put, List.setIfInBounds_toArray, List.set_cons_zero, List.set_cons_succ])
    repeat (first | (refine Ord.e_p (v := ?_) rfl (by rfl) ?_ ?_; rotate_left; · (intro w2; go_simp; try with_reducible rfl)) | (refine Ord.e_u (by rfl) ?_)); (try simp only [Act.put, List.setIfInBounds_toArray, List.set_cons_zero, List.set_cons_succ])
    refine Ord.e_x rfl (by rfl) ?_
    go_wp2
    have hrn : Rd (w2.alloc (.cells #[.int .i64 x0, .int .i64 x1, .int .i64 x2, .int .i64 x3, .int .i64 x4, .int .i64 x5, .int .i64 x6, .int .i64 x7] 2)) (w2.heap.size + 1) 1 (some ⟨w2.heap.size, 0, none⟩) 8 8 ([x0, x1, x2, x3, x4, x5, x6, x7].map (Value.int .i64)) := rd_lit' w2 2 [.int .i64 x0, .int .i64 x1, .int .i64 x2, .int .i64 x3, .int .i64 x4, .int .i64 x5, .int .i64 x6, .int .i64 x7] (by simp [maxLen])
    have hb23 : Below w2.heap.size w2 (w2.alloc (.cells #[.int .i64 x0, .int .i64 x1, .int .i64 x2, .int .i64 x3, .int .i64 x4, .int .i64 x5, .int .i64 x6, .int .i64 x7] 2)) := (Below.refl _ _).alloc (Nat.le_refl _) _
    have h3 := h2.trans (hb23.mono h2.size)
    have hsz : (w2.alloc (.cells #[.int .i64 x0, .int .i64 x1, .int .i64 x2, .int .i64 x3, .int .i64 x4, .int .i64 x5, .int .i64 x6, .int .i64 x7] 2)).heap.size = w2.heap.size + 1 := World.size_alloc _ _
    refine Ord.Seg.go h3 (fun h => by cases h) ?_
    (try simp only [Act.put, List.setIfInBounds_toArray, List.set_cons_zero, List.set_cons_succ])
    generalize (w2.alloc (.cells #[.int .i64 x0, .int .i64 x1, .int .i64 x2, .int .i64 x3, .int .i64 x4, .int .i64 x5, .int .i64 x6, .int .i64 x7] 2)) = w3 at *
    have Hsz := Lib.hid hsz
    clear hsz hb23 h2
    repeat (first | (refine Ord.e_p (v := ?_) rfl (by rfl) ?_ ?_; rotate_left; · (intro w2; go_simp; try with_reducible rfl)) | (refine Ord.e_u (by rfl) ?_)); (try simp only [Act.put, List.setIfInBounds_toArray, List.set_cons_zero, List.set_cons_succ])
    refine Ord.e_x rfl (by rfl) ?_
    go_wp2_with fail
    go_fit (dopfields_any w3)
    rintro e w4 ⟨Af, nf, cf, rfl, hnf, hrf, hb34⟩
    have h4 := h3.trans (hb34.mono h3.size)
    go_wp2_with fail
    refine Ord.Seg.go h4 (fun h => by cases h) ?_
    (try simp only [Act.put, List.setIfInBounds_toArray, List.set_cons_zero, List.set_cons_succ])
    repeat (first | (refine Ord.e_p (v := ?_) rfl (by rfl) ?_ ?_; rotate_left; · (intro w2; go_simp; try with_reducible rfl)) | (refine Ord.e_u (by rfl) ?_)); (try simp only [Act.put, List.setIfInBounds_toArray, List.set_cons_zero, List.set_cons_succ])
    refine Ord.e_x rfl (by rfl) ?_
    go_wp2_with fail
    go_fit (shPut_any Af nf cf w4.heap.size dopF (some ⟨w2.heap.size, 0, none⟩) 8 8 (w2.heap.size + 1) [x0, x1, x2, x3, x4, x5, x6, x7] w4 hrf (Nat.le_refl _) (hrn.up (hb34.mono (by rw [Hsz.out]; exact Nat.le_refl _))) (by rw [← Hsz.out]; exact hb34.size) (by omega) Hvb.out)
    rw [← HoE.out, ← HoP.out]
    rintro e w5 ⟨Ap, np, cp, rfl, hown, hb5⟩
    have h5 := h4.trans (hb5.mono h4.size)
    have hfin : Below w.heap.size w w5 := hb1.trans (h5.mono hb1.size)
    have hown' := own_mono hown (base' := w.heap.size) (by have := h4.size; omega)
    go_wp2_with fail
    refine Ord.Seg.go h5 (fun h => by cases h) ?_
    (try simp only [Act.put, List.setIfInBounds_toArray, List.set_cons_zero, List.set_cons_succ])
    repeat (first | (refine Ord.e_p (v := ?_) rfl (by rfl) ?_ ?_; rotate_left; · (intro w2; go_simp; try with_reducible rfl)) | (refine Ord.e_u (by rfl) ?_)); (try simp only [Act.put, List.setIfInBounds_toArray, List.set_cons_zero, List.set_cons_succ])
    refine Ord.e_nil ?_
    clear h4 hb5 hown
    go_wp2
    go_ret2
    exact ⟨Ap, np, cp, rfl, hown', hfin⟩
set_option maxRecDepth 10000 in
set_option maxHeartbeats 4000000 in
theorem qdopPut_any (x0 x1 x2 x3 x4 x5 x6 x7 : Int) (w : World) (hb : ∀ z ∈ [x0, x1, x2, x3, x4, x5, x6, x7], -9223372036854775808 ≤ z ∧ z ≤ 9223372036854775807) :
    Calls Tryz.prog 25 #[.agg #[.int .i64 x0, .int .i64 x1, .int .i64 x2, .int .i64 x3, .int .i64 x4, .int .i64 x5, .int .i64 x6, .int .i64 x7]] w (RetPS w (shP dopF [x0, x1, x2, x3, x4, x5, x6, x7]) (shE dopF [x0, x1, x2, x3, x4, x5, x6, x7])) := by
  have hvb : ∀ z ∈ [x0, x1, x2, x3, x4, x5, x6, x7], -9223372036854775808 ≤ z ∧ z ≤ 9223372036854775807 := by intro z hz; simp only [List.mem_cons, List.not_mem_nil, or_false] at hz hb; rcases hz with rfl | rfl | rfl | rfl | rfl | rfl | rfl | rfl <;> first | (exact hb _ (by simp)) | omega
  obtain ⟨oP, hoP⟩ : ∃ oP, oP = shP dopF [x0, x1, x2, x3, x4, x5, x6, x7] := ⟨_, rfl⟩
  obtain ⟨oE, hoE⟩ : ∃ oE, oE = shE dopF [x0, x1, x2, x3, x4, x5, x6, x7] := ⟨_, rfl⟩
  rw [← hoP, ← hoE]
  have HoP := Lib.hid hoP
  have HoE := Lib.hid hoE
  have Hvb := Lib.hid hvb
  clear hoP hoE hvb hb
  have hb1 : Below w.heap.size w (w.alloc (.cells #[.int .i64 x0, .int .i64 x1, .int .i64 x2, .int .i64 x3, .int .i64 x4, .int .i64 x5, .int .i64 x6, .int .i64 x7] 28)) := (Below.refl _ _).alloc (Nat.le_refl _) _
  have hbox := heap_alloc_new w (.cells #[.int .i64 x0, .int .i64 x1, .int .i64 x2, .int .i64 x3, .int .i64 x4, .int .i64 x5, .int .i64 x6, .int .i64 x7] 28)
  have hlt := blk_lt hbox
  have c0 := blk_cell (i := 0) (v := .int .i64 x0) hbox rfl
  have c1 := blk_cell (i := 1) (v := .int .i64 x1) hbox rfl
  have c2 := blk_cell (i := 2) (v := .int .i64 x2) hbox rfl
  have c3 := blk_cell (i := 3) (v := .int .i64 x3) hbox rfl
  have c4 := blk_cell (i := 4) (v := .int .i64 x4) hbox rfl
  have c5 := blk_cell (i := 5) (v := .int .i64 x5) hbox rfl
  have c6 := blk_cell (i := 6) (v := .int .i64 x6) hbox rfl
  have c7 := blk_cell (i := 7) (v := .int .i64 x7) hbox rfl
  go_enter Tryz.func25, Tryz.ntmps25
  go_wp2_with fail
  generalize (w.alloc (.cells #[.int .i64 x0, .int .i64 x1, .int .i64 x2, .int .i64 x3, .int .i64 x4, .int .i64 x5, .int .i64 x6, .int .i64 x7] 28)) = w1 at *
  refine Ord.region_m [0, 17] [[0, 1, 2, 3, 4, 5, 6, 7, 8, 9, 10, 11, 12, 13, 14, 15, 16, 17, 18, 19, 20, 21, 22, 23], [1, 2, 3, 4, 5, 6, 7, 8, 9, 10, 11, 12, 13, 14, 15, 16, 17, 0, 18, 19, 20, 21, 22, 23]] (fun w' => Below w1.heap.size w1 w') false [] (by kernel_rfl) (by kernel_rfl) ((Below.refl _ _).drew) ?_
  have h2 : Below w1.heap.size w1 w1.drew := (Below.refl _ _).drew
  generalize w1.drew = w2 at *
  clear hbox
  intro L hL
  simp only [List.mem_cons, List.not_mem_nil, or_false] at hL
  rcases hL with rfl | rfl
  · simp only [Ord.lst, List.filterMap_cons, List.filterMap_nil, List.getElem?_toArray, List.getElem?_cons_succ, List.getElem?_cons_zero]
    refine Ord.e_x rfl (by rfl) ?_
    go_wp2_with fail
    go_fit (qdopShape_any w2)
    rintro e w3 ⟨Af, nf, cf, rfl, hnf, hrf, hb23⟩
    have h3 := h2.trans (hb23.mono h2.size)
    go_wp2_with fail
    refine Ord.Seg.go h3 (fun h => by cases h) ?_
    (try simp only [Act.put, List.setIfInBounds_toArray, List.set_cons_zero, List.set_cons_succ])
    clear h2 hb23
    repeat (first | (refine Ord.e_p (v := ?_) rfl (by rfl) ?_ ?_; rotate_left; · (intro w2; go_simp; try with_reducible rfl)) | (refine Ord.e_u (by rfl) ?_)); (try simp only [Act.put, List.setIfInBounds_toArray, List.set_cons_zero, List.set_cons_succ])
    refine Ord.e_loadS Tryz.underlying2 rfl (fun w' hS => ((show Below _ w1 w' from hS).cell (p := ⟨w.heap.size, 0, none⟩) hlt).trans c0) h3 rfl (by rfl) ?_
    (try simp only [Act.put, List.setIfInBounds_toArray, List.set_cons_zero, List.set_cons_succ])
    repeat (first | (refine Ord.e_p (v := ?_) rfl (by rfl) ?_ ?_; rotate_left; · (intro w2; go_simp; try with_reducible rfl)) | (refine Ord.e_u (by rfl) ?_)); (try simp only [Act.put, List.setIfInBounds_toArray, List.set_cons_zero, List.set_cons_succ])
    refine Ord.e_loadS Tryz.underlying2 rfl (fun w' hS => ((show Below _ w1 w' from hS).cell (p := ⟨w.heap.size, 1, none⟩) hlt).trans c1) h3 rfl (by rfl) ?_
    (try simp only [Act.put, List.setIfInBounds_toArray, List.set_cons_zero, List.set_cons_succ])
    repeat (first | (refine Ord.e_p (v := ?_) rfl (by rfl) ?_ ?_; rotate_left; · (intro w2; go_simp; try with_reducible rfl)) | (refine Ord.e_u (by rfl) ?_)); (try simp only [Act.put, List.setIfInBounds_toArray, List.set_cons_zero, List.set_cons_succ])
    refine Ord.e_loadS Tryz.underlying2 rfl (fun w' hS => ((show Below _ w1 w' from hS).cell (p := ⟨w.heap.size, 2, none⟩) hlt).trans c2) h3 rfl (by rfl) ?_
    (try simp only [Act.put, List.setIfInBounds_toArray, List.set_cons_zero, List.set_cons_succ])
    repeat (first | (refine Ord.e_p (v := ?_) rfl (by rfl) ?_ ?_; rotate_left; · (intro w2; go_simp; try with_reducible rfl)) | (refine Ord.e_u (by rfl) ?_)); (try simp only [Act.put, List.setIfInBounds_toArray, List.set_cons_zero, List.set_cons_succ])
    refine Ord.e_loadS Tryz.underlying2 rfl (fun w' hS => ((show Below _ w1 w' from hS).cell (p := ⟨w.heap.size, 3, none⟩) hlt).trans c3) h3 rfl (by rfl) ?_
    (try simp only [Act.put, List.setIfInBounds_toArray, List.set_cons_zero, List.set_cons_succ])
    repeat (first | (refine Ord.e_p (v := ?_) rfl (by rfl) ?_ ?_; rotate_left; · (intro w2; go_simp; try with_reducible rfl)) | (refine Ord.e_u (by rfl) ?_)); (try simp only [Act.put, List.setIfInBounds_toArray, List.set_cons_zero, List.set_cons_succ])
    refine Ord.e_loadS Tryz.underlying2 rfl (fun w' hS => ((show Below _ w1 w' from hS).cell (p := ⟨w.heap.size, 4, none⟩) hlt).trans c4) h3 rfl (by rfl) ?_
    (try simp only [Act.put, List.setIfInBounds_toArray, List.set_cons_zero, List.set_cons_succ])
    repeat (first | (refine Ord.e_p (v := ?_) rfl (by rfl) ?_ ?_; rotate_left; · (intro w2; go_simp; try with_reducible rfl)) | (refine Ord.e_u (by rfl) ?_)); (try simp only [Act.put, List.setIfInBounds_toArray, List.set_cons_zero, List.set_cons_succ])
    refine Ord.e_loadS Tryz.underlying2 rfl (fun w' hS => ((show Below _ w1 w' from hS).cell (p := ⟨w.heap.size, 5, none⟩) hlt).trans c5) h3 rfl (by rfl) ?_
    (try simp only [Act.put, List.setIfInBounds_toArray, List.set_cons_zero, List.set_cons_succ])
    repeat (first | (refine Ord.e_p (v := ?_) rfl (by rfl) ?_ ?_; rotate_left; · (intro w2; go_simp; try with_reducible rfl)) | (refine Ord.e_u (by rfl) ?_)); (try simp only [Act.put, List.setIfInBounds_toArray, List.set_cons_zero, List.set_cons_succ])
    refine Ord.e_loadS Tryz.underlying2 rfl (fun w' hS => ((show Below _ w1 w' from hS).cell (p := ⟨w.heap.size, 6, none⟩) hlt).trans c6) h3 rfl (by rfl) ?_
    (try simp only [Act.put, List.setIfInBounds_toArray, List.set_cons_zero, List.set_cons_succ])
    repeat (first | (refine Ord.e_p (v := ?_) rfl (by rfl) ?_ ?_; rotate_left; · (intro w2; go_simp; try with_reducible rfl)) | (refine Ord.e_u (by rfl) ?_)); (try simp only [Act.put, List.setIfInBounds_toArray, List.set_cons_zero, List.set_cons_succ])
    refine Ord.e_loadS Tryz.underlying2 rfl (fun w' hS => ((show Below _ w1 w' from hS).cell (p := ⟨w.heap.size, 7, none⟩) hlt).trans c7) h3 rfl (by rfl) ?_
    (try simp only [Act.put, List.setIfInBounds_toArray, List.set_cons_zero, List.set_cons_succ])
    repeat (first | (refine Ord.e_p (v := ?_) rfl (by rfl) ?_ ?_; rotate_left; · (intro w2; go_simp; try with_reducible rfl)) | (refine Ord.e_u (by rfl) ?_)); (try simp only [Act.put, List.setIfInBounds_toArray, List.set_cons_zero, List.set_cons_succ])
    refine Ord.e_x rfl (by rfl) ?_
    go_wp2
    have hrn : Rd (w3.alloc (.cells #[.int .i64 x0, .int .i64 x1, .int .i64 x2, .int .i64 x3, .int .i64 x4, .int .i64 x5, .int .i64 x6, .int .i64 x7] 2)) (w3.heap.size + 1) 1 (some ⟨w3.heap.size, 0, none⟩) 8 8 ([x0, x1, x2, x3, x4, x5, x6, x7].map (Value.int .i64)) := rd_lit' w3 2 [.int .i64 x0, .int .i64 x1, .int .i64 x2, .int .i64 x3, .int .i64 x4, .int .i64 x5, .int .i64 x6, .int .i64 x7] (by simp [maxLen])
    have hb34 : Below w3.heap.size w3 (w3.alloc (.cells #[.int .i64 x0, .int .i64 x1, .int .i64 x2, .int .i64 x3, .int .i64 x4, .int .i64 x5, .int .i64 x6, .int .i64 x7] 2)) := (Below.refl _ _).alloc (Nat.le_refl _) _
    have h4 := h3.trans (hb34.mono h3.size)
    replace hrf := hrf.up hb34
    have hsz : (w3.alloc (.cells #[.int .i64 x0, .int .i64 x1, .int .i64 x2, .int .i64 x3, .int .i64 x4, .int .i64 x5, .int .i64 x6, .int .i64 x7] 2)).heap.size = w3.heap.size + 1 := World.size_alloc _ _
    refine Ord.Seg.go h4 (fun h => by cases h) ?_
    (try simp only [Act.put, List.setIfInBounds_toArray, List.set_cons_zero, List.set_cons_succ])
    generalize (w3.alloc (.cells #[.int .i64 x0, .int .i64 x1, .int .i64 x2, .int .i64 x3, .int .i64 x4, .int .i64 x5, .int .i64 x6, .int .i64 x7] 2)) = w4 at *
    have Hsz := Lib.hid hsz
    clear hsz h3 hb34
    repeat (first | (refine Ord.e_p (v := ?_) rfl (by rfl) ?_ ?_; rotate_left; · (intro w2; go_simp; try with_reducible rfl)) | (refine Ord.e_u (by rfl) ?_)); (try simp only [Act.put, List.setIfInBounds_toArray, List.set_cons_zero, List.set_cons_succ])
    refine Ord.e_x rfl (by rfl) ?_
    go_wp2_with fail
    go_fit (qPut14_any Af nf cf w3.heap.size dopF (some ⟨w3.heap.size, 0, none⟩) 8 8 (w3.heap.size + 1) [x0, x1, x2, x3, x4, x5, x6, x7] w4 hrf (by rw [Hsz.out]; omega) hrn (by rw [Hsz.out]; omega) (by omega))
    rw [← HoE.out, ← HoP.out]
    rintro e w5 ⟨Ap, np, cp, rfl, hown, hb5⟩
    have h5 := h4.trans (hb5.mono h4.size)
    have hfin : Below w.heap.size w w5 := hb1.trans (h5.mono hb1.size)
    have hown' := own_mono hown (base' := w.heap.size) (by have := h4.size; omega)
    go_wp2_with fail
    refine Ord.Seg.go h5 (fun h => by cases h) ?_
    (try simp only [Act.put, List.setIfInBounds_toArray, List.set_cons_zero, List.set_cons_succ])
    repeat (first | (refine Ord.e_p (v := ?_) rfl (by rfl) ?_ ?_; rotate_left; · (intro w2; go_simp; try with_reducible rfl)) | (refine Ord.e_u (by rfl) ?_)); (try simp only [Act.put, List.setIfInBounds_toArray, List.set_cons_zero, List.set_cons_succ])
    refine Ord.e_nil ?_
    clear h4 hb5 hown
    go_wp2
    go_ret2
    exact ⟨Ap, np, cp, rfl, hown', hfin⟩
  · simp only [Ord.lst, List.filterMap_cons, List.filterMap_nil, List.getElem?_toArray, List.getElem?_cons_succ, List.getElem?_cons_zero]
    repeat (first | (refine Ord.e_p (v := ?_) rfl (by rfl) ?_ ?_; rotate_left; · (intro w2; go_simp; try with_reducible rfl)) | (refine Ord.e_u (by rfl) ?_)); (try simp only [Act.put, List.setIfInBounds_toArray, List.set_cons_zero, List.set_cons_succ])
    refine Ord.e_loadS Tryz.underlying2 rfl (fun w' hS => ((show Below _ w1 w' from hS).cell (p := ⟨w.heap.size, 0, none⟩) hlt).trans c0) h2 rfl (by rfl) ?_
    (try simp only [Act.put, List.setIfInBounds_toArray, List.set_cons_zero, List.set_cons_succ])
    repeat (first | (refine Ord.e_p (v := ?_) rfl (by rfl) ?_ ?_; rotate_left; · (intro w2; go_simp; try with_reducible rfl)) | (refine Ord.e_u (by rfl) ?_)); (try simp only [Act.put, List.setIfInBounds_toArray, List.set_cons_zero, List.set_cons_succ])
    refine Ord.e_loadS Tryz.underlying2 rfl (fun w' hS => ((show Below _ w1 w' from hS).cell (p := ⟨w.heap.size, 1, none⟩) hlt).trans c1) h2 rfl (by rfl) ?_
    (try simp only [Act.put, List.setIfInBounds_toArray, List.set_cons_zero, List.set_cons_succ])
    repeat (first | (refine Ord.e_p (v := ?_) rfl (by rfl) ?_ ?_; rotate_left; · (intro w2; go_simp; try with_reducible rfl)) | (refine Ord.e_u (by rfl) ?_)); (try simp only [Act.put, List.setIfInBounds_toArray, List.set_cons_zero, List.set_cons_succ])
    refine Ord.e_loadS Tryz.underlying2 rfl (fun w' hS => ((show Below _ w1 w' from hS).cell (p := ⟨w.heap.size, 2, none⟩) hlt).trans c2) h2 rfl (by rfl) ?_
    (try simp only [Act.put, List.setIfInBounds_toArray, List.set_cons_zero, List.set_cons_succ])
    repeat (first | (refine Ord.e_p (v := ?_) rfl (by rfl) ?_ ?_; rotate_left; · (intro w2; go_simp; try with_reducible rfl)) | (refine Ord.e_u (by rfl) ?_)); (try simp only [Act.put, List.setIfInBounds_toArray, List.set_cons_zero, List.set_cons_succ])
    refine Ord.e_loadS Tryz.underlying2 rfl (fun w' hS => ((show Below _ w1 w' from hS).cell (p := ⟨w.heap.size, 3, none⟩) hlt).trans c3) h2 rfl (by rfl) ?_
    (try simp only [Act.put, List.setIfInBounds_toArray, List.set_cons_zero, List.set_cons_succ])
    repeat (first | (refine Ord.e_p (v := ?_) rfl (by rfl) ?_ ?_; rotate_left; · (intro w2; go_simp; try with_reducible rfl)) | (refine Ord.e_u (by rfl) ?_)); (try simp only [Act.put, List.setIfInBounds_toArray, List.set_cons_zero, List.set_cons_succ])
    refine Ord.e_loadS Tryz.underlying2 rfl (fun w' hS => ((show Below _ w1 w' from hS).cell (p := ⟨w.heap.size, 4, none⟩) hlt).trans c4) h2 rfl (by rfl) ?_
    (try simp only [Act.put, List.setIfInBounds_toArray, List.set_cons_zero, List.set_cons_succ])
    repeat (first | (refine Ord.e_p (v := ?_) rfl (by rfl) ?_ ?_; rotate_left; · (intro w2; go_simp; try with_reducible rfl)) | (refine Ord.e_u (by rfl) ?_)); (try simp only [Act.put, List.setIfInBounds_toArray, List.set_cons_zero, List.set_cons_succ])
    refine Ord.e_loadS Tryz.underlying2 rfl (fun w' hS => ((show Below _ w1 w' from hS).cell (p := ⟨w.heap.size, 5, none⟩) hlt).trans c5) h2 rfl (by rfl) ?_
    (try simp only [Act.put, List.setIfInBounds_toArray, List.set_cons_zero, List.set_cons_succ])
    repeat (first | (refine Ord.e_p (v := ?_) rfl (by rfl) ?_ ?_; rotate_left; · (intro w2; go_simp; try with_reducible rfl)) | (refine Ord.e_u (by rfl) ?_)); (try simp only [Act.put, List.setIfInBounds_toArray, List.set_cons_zero, List.set_cons_succ])
    refine Ord.e_loadS Tryz.underlying2 rfl (fun w' hS => ((show Below _ w1 w' from hS).cell (p := ⟨w.heap.size, 6, none⟩) hlt).trans c6) h2 rfl (by rfl) ?_
    (try simp only [Act.put, List.setIfInBounds_toArray, List.set_cons_zero, List.set_cons_succ])
    repeat (first | (refine Ord.e_p (v := ?_) rfl (by rfl) ?_ ?_; rotate_left; · (intro w2; go_simp; try with_reducible rfl)) | (refine Ord.e_u (by rfl) ?_)); (try simp only [Act.put, List.setIfInBounds_toArray, List.set_cons_zero, List.set_cons_succ])
    refine Ord.e_loadS Tryz.underlying2 rfl (fun w' hS => ((show Below _ w1 w' from hS).cell (p := ⟨w.heap.size, 7, none⟩) hlt).trans c7) h2 rfl (by rfl) ?_
    (try simp only [Act.put, List.setIfInBounds_toArray, List.set_cons_zero, List.set_cons_succ])
    repeat (first | (refine Ord.e_p (v := ?_) rfl (by rfl) ?_ ?_; rotate_left; · (intro w2; go_simp; try with_reducible rfl)) | (refine Ord.e_u (by rfl) ?_)); (try simp only [Act.put, List.setIfInBounds_toArray, List.set_cons_zero, List.set_cons_succ])
    refine Ord.e_x rfl (by rfl) ?_
    go_wp2
    have hrn : Rd (w2.alloc (.cells #[.int .i64 x0, .int .i64 x1, .int .i64 x2, .int .i64 x3, .int .i64 x4, .int .i64 x5, .int .i64 x6, .int .i64 x7] 2)) (w2.heap.size + 1) 1 (some ⟨w2.heap.size, 0, none⟩) 8 8 ([x0, x1, x2, x3, x4, x5, x6, x7].map (Value.int .i64)) := rd_lit' w2 2 [.int .i64 x0, .int .i64 x1, .int .i64 x2, .int .i64 x3, .int .i64 x4, .int .i64 x5, .int .i64 x6, .int .i64 x7] (by simp [maxLen])
    have hb23 : Below w2.heap.size w2 (w2.alloc (.cells #[.int .i64 x0, .int .i64 x1, .int .i64 x2, .int .i64 x3, .int .i64 x4, .int .i64 x5, .int .i64 x6, .int .i64 x7] 2)) := (Below.refl _ _).alloc (Nat.le_refl _) _
    have h3 := h2.trans (hb23.mono h2.size)
    have hsz : (w2.alloc (.cells #[.int .i64 x0, .int .i64 x1, .int .i64 x2, .int .i64 x3, .int .i64 x4, .int .i64 x5, .int .i64 x6, .int .i64 x7] 2)).heap.size = w2.heap.size + 1 := World.size_alloc _ _
    refine Ord.Seg.go h3 (fun h => by cases h) ?_
    (try simp only [Act.put, List.setIfInBounds_toArray, List.set_cons_zero, List.set_cons_succ])
    generalize (w2.alloc (.cells #[.int .i64 x0, .int .i64 x1, .int .i64 x2, .int .i64 x3, .int .i64 x4, .int .i64 x5, .int .i64 x6, .int .i64 x7] 2)) = w3 at *
    have Hsz := Lib.hid hsz
    clear hsz hb23 h2
    repeat (first | (refine Ord.e_p (v := ?_) rfl (by rfl) ?_ ?_; rotate_left; · (intro w2; go_simp; try with_reducible rfl)) | (refine Ord.e_u (by rfl) ?_)); (try simp only [Act.put, List.setIfInBounds_toArray, List.set_cons_zero, List.set_cons_succ])
    refine Ord.e_x rfl (by rfl) ?_
    go_wp2_with fail
    go_fit (qdopShape_any w3)
    rintro e w4 ⟨Af, nf, cf, rfl, hnf, hrf, hb34⟩
    have h4 := h3.trans (hb34.mono h3.size)
    go_wp2_with fail
    refine Ord.Seg.go h4 (fun h => by cases h) ?_
    (try simp only [Act.put, List.setIfInBounds_toArray, List.set_cons_zero, List.set_cons_succ])
    repeat (first | (refine Ord.e_p (v := ?_) rfl (by rfl) ?_ ?_; rotate_left; · (intro w2; go_simp; try with_reducible rfl)) | (refine Ord.e_u (by rfl) ?_)); (try simp only [Act.put, List.setIfInBounds_toArray, List.set_cons_zero, List.set_cons_succ])
    refine Ord.e_x rfl (by rfl) ?_
    go_wp2_with fail
    go_fit (qPut14_any Af nf cf w4.heap.size dopF (some ⟨w2.heap.size, 0, none⟩) 8 8 (w2.heap.size + 1) [x0, x1, x2, x3, x4, x5, x6, x7] w4 hrf (Nat.le_refl _) (hrn.up (hb34.mono (by rw [Hsz.out]; exact Nat.le_refl _))) (by rw [← Hsz.out]; exact hb34.size) (by omega))
    rw [← HoE.out, ← HoP.out]
    rintro e w5 ⟨Ap, np, cp, rfl, hown, hb5⟩
    have h5 := h4.trans (hb5.mono h4.size)
    have hfin : Below w.heap.size w w5 := hb1.trans (h5.mono hb1.size)
    have hown' := own_mono hown (base' := w.heap.size) (by have := h4.size; omega)
    go_wp2_with fail
    refine Ord.Seg.go h5 (fun h => by cases h) ?_
    (try simp only [Act.put, List.setIfInBounds_toArray, List.set_cons_zero, List.set_cons_succ])
    repeat (first | (refine Ord.e_p (v := ?_) rfl (by rfl) ?_ ?_; rotate_left; · (intro w2; go_simp; try with_reducible rfl)) | (refine Ord.e_u (by rfl) ?_)); (try simp only [Act.put, List.setIfInBounds_toArray, List.set_cons_zero, List.set_cons_succ])
    refine Ord.e_nil ?_
    clear h4 hb5 hown
    go_wp2
    go_ret2
    exact ⟨Ap, np, cp, rfl, hown', hfin⟩
end Go.Proofs.YtmkidihcdljkiaaGreat
