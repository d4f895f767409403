/-
  dop's Put and Take, and the document's (printed by gen_dop.py).
-/
import Derived.Test.YtmkidihcdljkiaaGreatKBGDA
import Derived.Test.YtmkidihcdljkiaaGreatKBGC
import Derived.Test.YtmkidihcdljkiaaGreatKBGE
import Derived.Test.YtmkidihcdljkiaaGreatKBGA
import Derived.Deep.QuietTactic
import Derived.BigQuiet
set_option linter.unusedSimpArgs false
set_option linter.unusedVariables false
namespace Go.Proofs.YtmkidihcdljkiaaGreat
open Go.RowKit NumLaw

set_option maxRecDepth 10000 in
set_option maxHeartbeats 4000000 in
theorem dopPut_any (x0 x1 x2 x3 x4 x5 x6 x7 : Int) (w : World) (hb : ∀ z ∈ [x0, x1, x2, x3, x4, x5, x6, x7], -9223372036854775808 ≤ z ∧ z ≤ 9223372036854775807) :
    Calls Tryz.prog 155 #[.agg #[.int .i64 x0, .int .i64 x1, .int .i64 x2, .int .i64 x3, .int .i64 x4, .int .i64 x5, .int .i64 x6, .int .i64 x7]] w (RetPS w (shP dopF [x0, x1, x2, x3, x4, x5, x6, x7]) (shE dopF [x0, x1, x2, x3, x4, x5, x6, x7])) := by
  have hvb : ∀ z ∈ [x0, x1, x2, x3, x4, x5, x6, x7], -9223372036854775808 ≤ z ∧ z ≤ 9223372036854775807 := by intro z hz; simp only [List.mem_cons, List.not_mem_nil, or_false] at hz hb; rcases hz with rfl | rfl | rfl | rfl | rfl | rfl | rfl | rfl <;> first | (exact hb _ (by simp)) | omega
  obtain ⟨oP, hoP⟩ : ∃ oP, oP = shP dopF [x0, x1, x2, x3, x4, x5, x6, x7] := ⟨_, rfl⟩
  obtain ⟨oE, hoE⟩ : ∃ oE, oE = shE dopF [x0, x1, x2, x3, x4, x5, x6, x7] := ⟨_, rfl⟩
  rw [← hoP, ← hoE]
  have HoP := Lib.hid hoP
  have HoE := Lib.hid hoE
  have Hvb := Lib.hid hvb
  clear hoP hoE hvb hb
  have hb1 : Below w.heap.size w (w.alloc (.cells #[.int .i64 x0, .int .i64 x1, .int .i64 x2, .int .i64 x3, .int .i64 x4, .int .i64 x5, .int .i64 x6, .int .i64 x7] 28)) := (Below.refl _ _).alloc (Nat.le_refl _) _
  have hbox := heap_alloc_new w (.cells #[.int .i64 x0, .int .i64 x1, .int .i64 x2, .int .i64 x3, .int .i64 x4, .int .i64 x5, .int .i64 x6, .int .i64 x7] 28)
  have hlt := blk_lt hbox
  have c0 := blk_cell (i := 0) (v := .int .i64 x0) hbox rfl
  have c1 := blk_cell (i := 1) (v := .int .i64 x1) hbox rfl
  have c2 := blk_cell (i := 2) (v := .int .i64 x2) hbox rfl
  have c3 := blk_cell (i := 3) (v := .int .i64 x3) hbox rfl
  have c4 := blk_cell (i := 4) (v := .int .i64 x4) hbox rfl
  have c5 := blk_cell (i := 5) (v := .int .i64 x5) hbox rfl
  have c6 := blk_cell (i := 6) (v := .int .i64 x6) hbox rfl
  have c7 := blk_cell (i := 7) (v := .int .i64 x7) hbox rfl
  go_enter Tryz.func155, Tryz.ntmps155
  go_wp2_with fail
  generalize (w.alloc (.cells #[.int .i64 x0, .int .i64 x1, .int .i64 x2, .int .i64 x3, .int .i64 x4, .int .i64 x5, .int .i64 x6, .int .i64 x7] 28)) = w1 at *
  refine Ord.region_m [0, 17] [[0, 1, 2, 3, 4, 5, 6, 7, 8, 9, 10, 11, 12, 13, 14, 15, 16, 17, 18, 19, 20, 21, 22], [1, 2, 3, 4, 5, 6, 7, 8, 9, 10, 11, 12, 13, 14, 15, 16, 17, 0, 18, 19, 20, 21, 22]] (fun w' => Below w1.heap.size w1 w') false [] (by kernel_rfl) (by kernel_rfl) ((Below.refl _ _).drew) ?_
  have h2 : Below w1.heap.size w1 w1.drew := (Below.refl _ _).drew
  generalize w1.drew = w2 at *
  clear hbox
  intro L hL
  simp only [List.mem_cons, List.not_mem_nil, or_false] at hL
  rcases hL with rfl | rfl
  · simp only [Ord.lst, List.filterMap_cons, List.filterMap_nil, List.getElem?_toArray, List.getElem?_cons_succ, List.getElem?_cons_zero]
    refine Ord.e_x rfl (by rfl) ?_
    go_wp2_with fail
    go_fit (dopfields_any w2)
    rintro e w3 ⟨Af, nf, cf, rfl, hnf, hrf, hb23⟩
    have h3 := h2.trans (hb23.mono h2.size)
    go_wp2_with fail
    refine Ord.Seg.go h3 (fun h => by cases h) ?_
    (try simp only [Act.put, List.setIfInBounds_toArray, List.set_cons_zero, List.set_cons_succ])
    clear h2 hb23
    repeat (first | (refine Ord.e_p (v := ?_) rfl (by rfl) ?_ ?_; rotate_left; · (intro w2; go_simp; try with_reducible rfl)) | (refine Ord.e_u (by rfl) ?_)); (try simp only [Act.put, List.setIfInBounds_toArray, List.set_cons_zero, List.set_cons_succ])
    refine Ord.e_loadS Tryz.underlying2 rfl (fun w' hS => ((show Below _ w1 w' from hS).cell (p := ⟨w.heap.size, 0, none⟩) hlt).trans c0) h3 rfl (by rfl) ?_
    (try simp only [Act.put, List.setIfInBounds_toArray, List.set_cons_zero, List.set_cons_succ])
    repeat (first | (refine Ord.e_p (v := ?_) rfl (by rfl) ?_ ?_; rotate_left; · (intro w2; go_simp; try with_reducible rfl)) | (refine Ord.e_u (by rfl) ?_)); (try simp only [Act.put, List.setIfInBounds_toArray, List.set_cons_zero, List.set_cons_succ])
    refine Ord.e_loadS Tryz.underlying2 rfl (fun w' hS => ((show Below _ w1 w' from hS).cell (p := ⟨w.heap.size, 1, none⟩) hlt).trans c1) h3 rfl (by rfl) ?_
    (try simp only [Act.put, List.setIfInBounds_toArray, List.set_cons_zero, List.set_cons_succ])
    repeat (first | (refine Ord.e_p (v := ?_) rfl (by rfl) ?_ ?_; rotate_left; · (intro w2; go_simp; try with_reducible rfl)) | (refine Ord.e_u (by rfl) ?_)); (try simp only [Act.put, List.setIfInBounds_toArray, List.set_cons_zero, List.set_cons_succ])
    refine Ord.e_loadS Tryz.underlying2 rfl (fun w' hS => ((show Below _ w1 w' from hS).cell (p := ⟨w.heap.size, 2, none⟩) hlt).trans c2) h3 rfl (by rfl) ?_
    (try simp only [Act.put, List.setIfInBounds_toArray, List.set_cons_zero, List.set_cons_succ])
    repeat (first | (refine Ord.e_p (v := ?_) rfl (by rfl) ?_ ?_; rotate_left; · (intro w2; go_simp; try with_reducible rfl)) | (refine Ord.e_u (by rfl) ?_)); (try simp only [Act.put, List.setIfInBounds_toArray, List.set_cons_zero, List.set_cons_succ])
    refine Ord.e_loadS Tryz.underlying2 rfl (fun w' hS => ((show Below _ w1 w' from hS).cell (p := ⟨w.heap.size, 3, none⟩) hlt).trans c3) h3 rfl (by rfl) ?_
    (try simp only [Act.put, List.setIfInBounds_toArray, List.set_cons_zero, List.set_cons_succ])
    repeat (first | (refine Ord.e_p (v := ?_) rfl (by rfl) ?_ ?_; rotate_left; · (intro w2; go_simp; try with_reducible rfl)) | (refine Ord.e_u (by rfl) ?_)); (try simp only [Act.put, List.setIfInBounds_toArray, List.set_cons_zero, List.set_cons_succ])
    refine Ord.e_loadS Tryz.underlying2 rfl (fun w' hS => ((show Below _ w1 w' from hS).cell (p := ⟨w.heap.size, 4, none⟩) hlt).trans c4) h3 rfl (by rfl) ?_
    (try simp only [Act.put, List.setIfInBounds_toArray, List.set_cons_zero, List.set_cons_succ])
    repeat (first | (refine Ord.e_p (v := ?_) rfl (by rfl) ?_ ?_; rotate_left; · (intro w2; go_simp; try with_reducible rfl)) | (refine Ord.e_u (by rfl) ?_)); (try simp only [Act.put, List.setIfInBounds_toArray, List.set_cons_zero, List.set_cons_succ])
    refine Ord.e_loadS Tryz.underlying2 rfl (fun w' hS => ((show Below _ w1 w' from hS).cell (p := ⟨w.heap.size, 5, none⟩) hlt).trans c5) h3 rfl (by rfl) ?_
    (try simp only [Act.put, List.setIfInBounds_toArray, List.set_cons_zero, List.set_cons_succ])
    repeat (first | (refine Ord.e_p (v := ?_) rfl (by rfl) ?_ ?_; rotate_left; · (intro w2; go_simp; try with_reducible rfl)) | (refine Ord.e_u (by rfl) ?_)); (try simp only [Act.put, List.setIfInBounds_toArray, List.set_cons_zero, List.set_cons_succ])
    refine Ord.e_loadS Tryz.underlying2 rfl (fun w' hS => ((show Below _ w1 w' from hS).cell (p := ⟨w.heap.size, 6, none⟩) hlt).trans c6) h3 rfl (by rfl) ?_
    (try simp only [Act.put, List.setIfInBounds_toArray, List.set_cons_zero, List.set_cons_succ])
    repeat (first | (refine Ord.e_p (v := ?_) rfl (by rfl) ?_ ?_; rotate_left; · (intro w2; go_simp; try with_reducible rfl)) | (refine Ord.e_u (by rfl) ?_)); (try simp only [Act.put, List.setIfInBounds_toArray, List.set_cons_zero, List.set_cons_succ])
    refine Ord.e_loadS Tryz.underlying2 rfl (fun w' hS => ((show Below _ w1 w' from hS).cell (p := ⟨w.heap.size, 7, none⟩) hlt).trans c7) h3 rfl (by rfl) ?_
    (try simp only [Act.put, List.setIfInBounds_toArray, List.set_cons_zero, List.set_cons_succ])
    repeat (first | (refine Ord.e_p (v := ?_) rfl (by rfl) ?_ ?_; rotate_left; · (intro w2; go_simp; try with_reducible rfl)) | (refine Ord.e_u (by rfl) ?_)); (try simp only [Act.put, List.setIfInBounds_toArray, List.set_cons_zero, List.set_cons_succ])
    refine Ord.e_x rfl (by rfl) ?_
    go_wp2
    have hrn : Rd (w3.alloc (.cells #[.int .i64 x0, .int .i64 x1, .int .i64 x2, .int .i64 x3, .int .i64 x4, .int .i64 x5, .int .i64 x6, .int .i64 x7] 2)) (w3.heap.size + 1) 1 (some ⟨w3.heap.size, 0, none⟩) 8 8 ([x0, x1, x2, x3, x4, x5, x6, x7].map (Value.int .i64)) := rd_lit' w3 2 [.int .i64 x0, .int .i64 x1, .int .i64 x2, .int .i64 x3, .int .i64 x4, .int .i64 x5, .int .i64 x6, .int .i64 x7] (by simp [maxLen])
    have hb34 : Below w3.heap.size w3 (w3.alloc (.cells #[.int .i64 x0, .int .i64 x1, .int .i64 x2, .int .i64 x3, .int .i64 x4, .int .i64 x5, .int .i64 x6, .int .i64 x7] 2)) := (Below.refl _ _).alloc (Nat.le_refl _) _
    have h4 := h3.trans (hb34.mono h3.size)
    replace hrf := hrf.up hb34
    have hsz : (w3.alloc (.cells #[.int .i64 x0, .int .i64 x1, .int .i64 x2, .int .i64 x3, .int .i64 x4, .int .i64 x5, .int .i64 x6, .int .i64 x7] 2)).heap.size = w3.heap.size + 1 := World.size_alloc _ _
    refine Ord.Seg.go h4 (fun h => by cases h) ?_
    (try simp only [Act.put, List.setIfInBounds_toArray, List.set_cons_zero, List.set_cons_succ])
    generalize (w3.alloc (.cells #[.int .i64 x0, .int .i64 x1, .int .i64 x2, .int .i64 x3, .int .i64 x4, .int .i64 x5, .int .i64 x6, .int .i64 x7] 2)) = w4 at *
    have Hsz := Lib.hid hsz
    clear hsz h3 hb34
    repeat (first | (refine Ord.e_p (v := ?_) rfl (by rfl) ?_ ?_; rotate_left; · (intro w2; go_simp; try with_reducible rfl)) | (refine Ord.e_u (by rfl) ?_)); (try simp only [Act.put, List.setIfInBounds_toArray, List.set_cons_zero, List.set_cons_succ])
    refine Ord.e_x rfl (by rfl) ?_
    go_wp2_with fail
    go_fit (shPut_any Af nf cf w3.heap.size dopF (some ⟨w3.heap.size, 0, none⟩) 8 8 (w3.heap.size + 1) [x0, x1, x2, x3, x4, x5, x6, x7] w4 hrf (by rw [Hsz.out]; omega) hrn (by rw [Hsz.out]; omega) (by omega) Hvb.out)
    rw [← HoE.out, ← HoP.out]
    rintro e w5 ⟨Ap, np, cp, rfl, hown, hb5⟩
    have h5 := h4.trans (hb5.mono h4.size)
    have hfin : Below w.heap.size w w5 := hb1.trans (h5.mono hb1.size)
    have hown' := own_mono hown (base' := w.heap.size) (by have := h4.size; omega)
    go_wp2_with fail
    refine Ord.Seg.go h5 (fun h => by cases h) ?_
    (try simp only [Act.put, List.setIfInBounds_toArray, List.set_cons_zero, List.set_cons_succ])
    repeat (first | (refine Ord.e_p (v := ?_) rfl (by rfl) ?_ ?_; rotate_left; · (intro w2; go_simp; try with_reducible rfl)) | (refine Ord.e_u (by rfl) ?_)); (try simp only [Act.put, List.setIfInBounds_toArray, List.set_cons_zero, List.set_cons_succ])
    refine Ord.e_nil ?_
    clear h4 hb5 hown
    go_wp2
    go_ret2
    exact ⟨Ap, np, cp, rfl, hown', hfin⟩
  · simp only [Ord.lst, List.filterMap_cons, List.filterMap_nil, List.getElem?_toArray, List.getElem?_cons_succ, List.getElem?_cons_zero]
    repeat (first | (refine Ord.e_p (v := ?_) rfl (by rfl) ?_ ?_; rotate_left; · (intro w2; go_simp; try with_reducible rfl)) | (refine Ord.e_u (by rfl) ?_)); (try simp only [Act.put, List.setIfInBounds_toArray, List.set_cons_zero, List.set_cons_succ])
    refine Ord.e_loadS Tryz.underlying2 rfl (fun w' hS => ((show Below _ w1 w' from hS).cell (p := ⟨w.heap.size, 0, none⟩) hlt).trans c0) h2 rfl (by rfl) ?_
    (try simp only [Act.put, List.setIfInBounds_toArray, List.set_cons_zero, List.set_cons_succ])
    repeat (first | (refine Ord.e_p (v := ?_) rfl (by rfl) ?_ ?_; rotate_left; · (intro w2; go_simp; try with_reducible rfl)) | (refine Ord.e_u (by rfl) ?_)); (try simp only [Act.put, List.setIfInBounds_toArray, List.set_cons_zero, List.set_cons_succ])
    refine Ord.e_loadS Tryz.underlying2 rfl (fun w' hS => ((show Below _ w1 w' from hS).cell (p := ⟨w.heap.size, 1, none⟩) hlt).trans c1) h2 rfl (by rfl) ?_
    (try simp only [Act.put, List.setIfInBounds_toArray, List.set_cons_zero, List.set_cons_succ])
    repeat (first | (refine Ord.e_p (v := ?_) rfl (by rfl) ?_ ?_; rotate_left; · (intro w2; go_simp; try with_reducible rfl)) | (refine Ord.e_u (by rfl) ?_)); (try simp only [Act.put, List.setIfInBounds_toArray, List.set_cons_zero, List.set_cons_succ])
    refine Ord.e_loadS Tryz.underlying2 rfl (fun w' hS => ((show Below _ w1 w' from hS).cell (p := ⟨w.heap.size, 2, none⟩) hlt).trans c2) h2 rfl (by rfl) ?_
    (try simp only [Act.put, List.setIfInBounds_toArray, List.set_cons_zero, List.set_cons_succ])
    repeat (first | (refine Ord.e_p (v := ?_) rfl (by rfl) ?_ ?_; rotate_left; · (intro w2; go_simp; try with_reducible rfl)) | (refine Ord.e_u (by rfl) ?_)); (try simp only [Act.put, List.setIfInBounds_toArray, List.set_cons_zero, List.set_cons_succ])
    refine Ord.e_loadS Tryz.underlying2 rfl (fun w' hS => ((show Below _ w1 w' from hS).cell (p := ⟨w.heap.size, 3, none⟩) hlt).trans c3) h2 rfl (by rfl) ?_
    (try simp only [Act.put, List.setIfInBounds_toArray, List.set_cons_zero, List.set_cons_succ])
    repeat (first | (refine Ord.e_p (v := ?_) rfl (by rfl) ?_ ?_; rotate_left; · (intro w2; go_simp; try with_reducible rfl)) | (refine Ord.e_u (by rfl) ?_)); (try simp only [Act.put, List.setIfInBounds_toArray, List.set_cons_zero, List.set_cons_succ])
    refine Ord.e_loadS Tryz.underlying2 rfl (fun w' hS => ((show Below _ w1 w' from hS).cell (p := ⟨w.heap.size, 4, none⟩) hlt).trans c4) h2 rfl (by rfl) ?_
    (try simp only [Act.put, List.setIfInBounds_toArray, List.set_cons_zero, List.set_cons_succ])
    repeat (first | (refine Ord.e_p (v := ?_) rfl (by rfl) ?_ ?_; rotate_left; · (intro w2; go_simp; try with_reducible rfl)) | (refine Ord.e_u (by rfl) ?_)); (try simp only [Act.put, List.setIfInBounds_toArray, List.set_cons_zero, List.set_cons_succ])
    refine Ord.e_loadS Tryz.underlying2 rfl (fun w' hS => ((show Below _ w1 w' from hS).cell (p := ⟨w.heap.size, 5, none⟩) hlt).trans c5) h2 rfl (by rfl) ?_
    (try simp only [Act.put, List.setIfInBounds_toArray, List.set_cons_zero, List.set_cons_succ])
    repeat (first | (refine Ord.e_p (v := ?_) rfl (by rfl) ?_ ?_; rotate_left; · (intro w2; go_simp; try with_reducible rfl)) | (refine Ord.e_u (by rfl) ?_)); (try simp only [Act.put, List.setIfInBounds_toArray, List.set_cons_zero, List.set_cons_succ])
    refine Ord.e_loadS Tryz.underlying2 rfl (fun w' hS => ((show Below _ w1 w' from hS).cell (p := ⟨w.heap.size, 6, none⟩) hlt).trans c6) h2 rfl (by rfl) ?_
    (try simp only [Act.put, List.setIfInBounds_toArray, List.set_cons_zero, List.set_cons_succ])
    repeat (first | (refine Ord.e_p (v := ?_) rfl (by rfl) ?_ ?_; rotate_left; · (intro w2; go_simp; try with_reducible rfl)) | (refine Ord.e_u (by rfl) ?_)); (try simp only [Act.put, List.setIfInBounds_toArray, List.set_cons_zero, List.set_cons_succ])
    refine Ord.e_loadS Tryz.underlying2 rfl (fun w' hS => ((show Below _ w1 w' from hS).cell (p := ⟨w.heap.size, 7, none⟩) hlt).trans c7) h2 rfl (by rfl) ?_
    (try simp only [Act.put, List.setIfInBounds_toArray, List.set_cons_zero, List.set_cons_succ])
    repeat (first | (refine Ord.e_p (v := ?_) rfl (by rfl) ?_ ?_; rotate_left; · (intro w2; go_simp; try with_reducible rfl)) | (refine Ord.e_u (by rfl) ?_)); (try simp only [Act.put, List.setIfInBounds_toArray, List.set_cons_zero, List.set_cons_succ])
    refine Ord.e_x rfl (by rfl) ?_
    go_wp2
    have hrn : Rd (w2.alloc (.cells #[.int .i64 x0, .int .i64 x1, .int .i64 x2, .int .i64 x3, .int .i64 x4, .int .i64 x5, .int .i64 x6, .int .i64 x7] 2)) (w2.heap.size + 1) 1 (some ⟨w2.heap.size, 0, none⟩) 8 8 ([x0, x1, x2, x3, x4, x5, x6, x7].map (Value.int .i64)) := rd_lit' w2 2 [.int .i64 x0, .int .i64 x1, .int .i64 x2, .int .i64 x3, .int .i64 x4, .int .i64 x5, .int .i64 x6, .int .i64 x7] (by simp [maxLen])
    have hb23 : Below w2.heap.size w2 (w2.alloc (.cells #[.int .i64 x0, .int .i64 x1, .int .i64 x2, .int .i64 x3, .int .i64 x4, .int .i64 x5, .int .i64 x6, .int .i64 x7] 2)) := (Below.refl _ _).alloc (Nat.le_refl _) _
    have h3 := h2.trans (hb23.mono h2.size)
    have hsz : (w2.alloc (.cells #[.int .i64 x0, .int .i64 x1, .int .i64 x2, .int .i64 x3, .int .i64 x4, .int .i64 x5, .int .i64 x6, .int .i64 x7] 2)).heap.size = w2.heap.size + 1 := World.size_alloc _ _
    refine Ord.Seg.go h3 (fun h => by cases h) ?_
    (try simp only [Act.put, List.setIfInBounds_toArray, List.set_cons_zero, List.set_cons_succ])
    generalize (w2.alloc (.cells #[.int .i64 x0, .int .i64 x1, .int .i64 x2, .int .i64 x3, .int .i64 x4, .int .i64 x5, .int .i64 x6, .int .i64 x7] 2)) = w3 at *
    have Hsz := Lib.hid hsz
    clear hsz hb23 h2
    repeat (first | (refine Ord.e_p (v := ?_) rfl (by rfl) ?_ ?_; rotate_left; · (intro w2; go_simp; try with_reducible rfl)) | (refine Ord.e_u (by rfl) ?_)); (try simp only [Act.put, List.setIfInBounds_toArray, List.set_cons_zero, List.set_cons_succ])
    refine Ord.e_x rfl (by rfl) ?_
    go_wp2_with fail
    go_fit (dopfields_any w3)
    rintro e w4 ⟨Af, nf, cf, rfl, hnf, hrf, hb34⟩
    have h4 := h3.trans (hb34.mono h3.size)
    go_wp2_with fail
    refine Ord.Seg.go h4 (fun h => by cases h) ?_
    (try simp only [Act.put, List.setIfInBounds_toArray, List.set_cons_zero, List.set_cons_succ])
    repeat (first | (refine Ord.e_p (v := ?_) rfl (by rfl) ?_ ?_; rotate_left; · (intro w2; go_simp; try with_reducible rfl)) | (refine Ord.e_u (by rfl) ?_)); (try simp only [Act.put, List.setIfInBounds_toArray, List.set_cons_zero, List.set_cons_succ])
    refine Ord.e_x rfl (by rfl) ?_
    go_wp2_with fail
    go_fit (shPut_any Af nf cf w4.heap.size dopF (some ⟨w2.heap.size, 0, none⟩) 8 8 (w2.heap.size + 1) [x0, x1, x2, x3, x4, x5, x6, x7] w4 hrf (Nat.le_refl _) (hrn.up (hb34.mono (by rw [Hsz.out]; exact Nat.le_refl _))) (by rw [← Hsz.out]; exact hb34.size) (by omega) Hvb.out)
    rw [← HoE.out, ← HoP.out]
    rintro e w5 ⟨Ap, np, cp, rfl, hown, hb5⟩
    have h5 := h4.trans (hb5.mono h4.size)
    have hfin : Below w.heap.size w w5 := hb1.trans (h5.mono hb1.size)
    have hown' := own_mono hown (base' := w.heap.size) (by have := h4.size; omega)
    go_wp2_with fail
    refine Ord.Seg.go h5 (fun h => by cases h) ?_
    (try simp only [Act.put, List.setIfInBounds_toArray, List.set_cons_zero, List.set_cons_succ])
    repeat (first | (refine Ord.e_p (v := ?_) rfl (by rfl) ?_ ?_; rotate_left; · (intro w2; go_simp; try with_reducible rfl)) | (refine Ord.e_u (by rfl) ?_)); (try simp only [Act.put, List.setIfInBounds_toArray, List.set_cons_zero, List.set_cons_succ])
    refine Ord.e_nil ?_
    clear h4 hb5 hown
    go_wp2
    go_ret2
    exact ⟨Ap, np, cp, rfl, hown', hfin⟩
set_option maxRecDepth 10000 in
set_option maxHeartbeats 4000000 in
theorem dopTake_any (A : Option Addr) (n c B : Nat) (b : List UInt8) (w : World) (h' : Rd w B 1 A n c (bv b)) (hB : B ≤ w.heap.size) (hn : n ≤ 1000000000) :
    Calls Tryz.prog 156 #[.slice A n c] w fun e w' => ∃ x0 x1 x2 x3 x4 x5 x6 x7 : Int, [x0, x1, x2, x3, x4, x5, x6, x7] = takeD dopF b ∧ e = .returned (.tuple #[.agg #[.int .i64 x0, .int .i64 x1, .int .i64 x2, .int .i64 x3, .int .i64 x4, .int .i64 x5, .int .i64 x6, .int .i64 x7], .int .i64 (shTE dopF b : Int)]) ∧ Below w.heap.size w w' := by
  obtain ⟨oE, hoE⟩ : ∃ oE, oE = shTE dopF b := ⟨_, rfl⟩
  obtain ⟨oT, hoT⟩ : ∃ oT, oT = takeD dopF b := ⟨_, rfl⟩
  have hT0 : oE ≠ 0 → oT = List.replicate 8 0 := fun h => by rw [hoT]; unfold takeD; rw [if_neg (by rw [← hoE]; exact h)]; rfl
  have hT1 : oE = 0 → oT = shT dopF b ∧ oT.length = 8 := fun h => by
    have h' : shTE dopF b = 0 := by rw [← hoE]; exact h
    have e : oT = shT dopF b := by rw [hoT]; unfold takeD; rw [if_pos h']
    exact ⟨e, by rw [e, (shape_back h').2.2]; rfl⟩
  rw [← hoE, ← hoT]
  have HT0 := Lib.hid hT0
  have HT1 := Lib.hid hT1
  have HoE := Lib.hid hoE
  clear hoE hoT hT0 hT1
  have hb1 : Below w.heap.size w (w.alloc (.cells #[.int .i64 0, .int .i64 0, .int .i64 0, .int .i64 0, .int .i64 0, .int .i64 0, .int .i64 0, .int .i64 0] 28)) := (Below.refl _ _).alloc (Nat.le_refl _) _
  have hres := heap_alloc_new w (.cells #[.int .i64 0, .int .i64 0, .int .i64 0, .int .i64 0, .int .i64 0, .int .i64 0, .int .i64 0, .int .i64 0] 28)
  go_enter Tryz.func156, Tryz.ntmps156
  go_wp2_with fail
  generalize (w.alloc (.cells #[.int .i64 0, .int .i64 0, .int .i64 0, .int .i64 0, .int .i64 0, .int .i64 0, .int .i64 0, .int .i64 0] 28)) = w1 at *
  have hlt := blk_lt hres
  go_fit (dopfields_any w1)
  rintro e w2 ⟨Af, nf, cf, rfl, hnf, hrf, hb12⟩
  have hb2 := bnx hb1 hb12
  replace hres := blk_old hres hb12 hlt
  go_wp2_with fail
  go_fit (shTake_any Af nf cf w2.heap.size dopF A n c B b w2 hrf (Nat.le_refl _) (h'.up (hb2.mono hB)) (Nat.le_trans hB hb2.size) (by omega) (by omega))
  rw [← HoE.out]
  rintro e w3 ⟨At, nt, ct, rfl, hown, hb23⟩
  have hb3 := bnx hb2 hb23
  replace hres := blk_old hres hb23 (by have := hb12.size; omega)
  have hlt2 : w.heap.size < w2.heap.size := by have := hb12.size; omega
  clear hb1 hb12 hb2 hb23 hrf hlt
  by_cases he : oE = 0
  · obtain ⟨q1, q2⟩ := HT1.out he
    rw [← q1] at hown
    obtain ⟨x0, x1, x2, x3, x4, x5, x6, x7, rfl⟩ : ∃ x0 x1 x2 x3 x4 x5 x6 x7 : Int, oT = [x0, x1, x2, x3, x4, x5, x6, x7] := by
      match oT, q2 with
      | [x0, x1, x2, x3, x4, x5, x6, x7], _ => exact ⟨_, _, _, _, _, _, _, _, rfl⟩
    obtain rfl : nt = 8 := by have := hown.1; simp at this; omega
    subst he
    clear q1 q2 HT0 HT1 HoE
    go_wp2_with fail
    obtain ⟨g, rfl, hg1, hg2, hcell⟩ := own_at hown (by omega)
    have hgne : w.heap.size ≠ g := by omega
    have k0 : w3.cell? ⟨g, 0, none⟩ = some (.int .i64 x0) := hcell 0 _ rfl
    have k1 : w3.cell? ⟨g, 1, none⟩ = some (.int .i64 x1) := hcell 1 _ rfl
    have k2 : w3.cell? ⟨g, 2, none⟩ = some (.int .i64 x2) := hcell 2 _ rfl
    have k3 : w3.cell? ⟨g, 3, none⟩ = some (.int .i64 x3) := hcell 3 _ rfl
    have k4 : w3.cell? ⟨g, 4, none⟩ = some (.int .i64 x4) := hcell 4 _ rfl
    have k5 : w3.cell? ⟨g, 5, none⟩ = some (.int .i64 x5) := hcell 5 _ rfl
    have k6 : w3.cell? ⟨g, 6, none⟩ = some (.int .i64 x6) := hcell 6 _ rfl
    have k7 : w3.cell? ⟨g, 7, none⟩ = some (.int .i64 x7) := hcell 7 _ rfl
    clear hown hcell
    refine Ord.region_ (fun w' => w'.cell? ⟨g, 0, none⟩ = some (.int .i64 x0) ∧ w'.cell? ⟨g, 1, none⟩ = some (.int .i64 x1) ∧ w'.cell? ⟨g, 2, none⟩ = some (.int .i64 x2) ∧ w'.cell? ⟨g, 3, none⟩ = some (.int .i64 x3) ∧ w'.cell? ⟨g, 4, none⟩ = some (.int .i64 x4) ∧ w'.cell? ⟨g, 5, none⟩ = some (.int .i64 x5) ∧ w'.cell? ⟨g, 6, none⟩ = some (.int .i64 x6) ∧ w'.cell? ⟨g, 7, none⟩ = some (.int .i64 x7)) false [] (by kernel_rfl) (by kernel_rfl) ⟨k0, k1, k2, k3, k4, k5, k6, k7⟩ ?_
    replace hres : w3.drew.heap[w.heap.size]? = _ := hres
    replace hb3 := hb3.drew
    replace k0 : w3.drew.cell? ⟨g, 0, none⟩ = some (.int .i64 x0) := k0
    replace k1 : w3.drew.cell? ⟨g, 1, none⟩ = some (.int .i64 x1) := k1
    replace k2 : w3.drew.cell? ⟨g, 2, none⟩ = some (.int .i64 x2) := k2
    replace k3 : w3.drew.cell? ⟨g, 3, none⟩ = some (.int .i64 x3) := k3
    replace k4 : w3.drew.cell? ⟨g, 4, none⟩ = some (.int .i64 x4) := k4
    replace k5 : w3.drew.cell? ⟨g, 5, none⟩ = some (.int .i64 x5) := k5
    replace k6 : w3.drew.cell? ⟨g, 6, none⟩ = some (.int .i64 x6) := k6
    replace k7 : w3.drew.cell? ⟨g, 7, none⟩ = some (.int .i64 x7) := k7
    generalize w3.drew = w4 at *
    repeat (first | (refine Ord.e_p (v := ?_) rfl (by rfl) ?_ ?_; rotate_left; · (intro w2; go_simp; try with_reducible rfl)) | (refine Ord.e_u (by rfl) ?_)); (try simp only [Act.put, List.setIfInBounds_toArray, List.set_cons_zero, List.set_cons_succ])
    refine Ord.e_loadS Tryz.underlying2 rfl (fun w' (hS : w'.cell? ⟨g, 0, none⟩ = some (.int .i64 x0) ∧ w'.cell? ⟨g, 1, none⟩ = some (.int .i64 x1) ∧ w'.cell? ⟨g, 2, none⟩ = some (.int .i64 x2) ∧ w'.cell? ⟨g, 3, none⟩ = some (.int .i64 x3) ∧ w'.cell? ⟨g, 4, none⟩ = some (.int .i64 x4) ∧ w'.cell? ⟨g, 5, none⟩ = some (.int .i64 x5) ∧ w'.cell? ⟨g, 6, none⟩ = some (.int .i64 x6) ∧ w'.cell? ⟨g, 7, none⟩ = some (.int .i64 x7)) => hS.1) ⟨k0, k1, k2, k3, k4, k5, k6, k7⟩ rfl (by rfl) ?_
    (try simp only [Act.put, List.setIfInBounds_toArray, List.set_cons_zero, List.set_cons_succ])
    repeat (first | (refine Ord.e_p (v := ?_) rfl (by rfl) ?_ ?_; rotate_left; · (intro w2; go_simp; try with_reducible rfl)) | (refine Ord.e_u (by rfl) ?_)); (try simp only [Act.put, List.setIfInBounds_toArray, List.set_cons_zero, List.set_cons_succ])
    refine Ord.e_loadS Tryz.underlying2 rfl (fun w' (hS : w'.cell? ⟨g, 0, none⟩ = some (.int .i64 x0) ∧ w'.cell? ⟨g, 1, none⟩ = some (.int .i64 x1) ∧ w'.cell? ⟨g, 2, none⟩ = some (.int .i64 x2) ∧ w'.cell? ⟨g, 3, none⟩ = some (.int .i64 x3) ∧ w'.cell? ⟨g, 4, none⟩ = some (.int .i64 x4) ∧ w'.cell? ⟨g, 5, none⟩ = some (.int .i64 x5) ∧ w'.cell? ⟨g, 6, none⟩ = some (.int .i64 x6) ∧ w'.cell? ⟨g, 7, none⟩ = some (.int .i64 x7)) => hS.2.1) ⟨k0, k1, k2, k3, k4, k5, k6, k7⟩ rfl (by rfl) ?_
    (try simp only [Act.put, List.setIfInBounds_toArray, List.set_cons_zero, List.set_cons_succ])
    repeat (first | (refine Ord.e_p (v := ?_) rfl (by rfl) ?_ ?_; rotate_left; · (intro w2; go_simp; try with_reducible rfl)) | (refine Ord.e_u (by rfl) ?_)); (try simp only [Act.put, List.setIfInBounds_toArray, List.set_cons_zero, List.set_cons_succ])
    refine Ord.e_loadS Tryz.underlying2 rfl (fun w' (hS : w'.cell? ⟨g, 0, none⟩ = some (.int .i64 x0) ∧ w'.cell? ⟨g, 1, none⟩ = some (.int .i64 x1) ∧ w'.cell? ⟨g, 2, none⟩ = some (.int .i64 x2) ∧ w'.cell? ⟨g, 3, none⟩ = some (.int .i64 x3) ∧ w'.cell? ⟨g, 4, none⟩ = some (.int .i64 x4) ∧ w'.cell? ⟨g, 5, none⟩ = some (.int .i64 x5) ∧ w'.cell? ⟨g, 6, none⟩ = some (.int .i64 x6) ∧ w'.cell? ⟨g, 7, none⟩ = some (.int .i64 x7)) => hS.2.2.1) ⟨k0, k1, k2, k3, k4, k5, k6, k7⟩ rfl (by rfl) ?_
    (try simp only [Act.put, List.setIfInBounds_toArray, List.set_cons_zero, List.set_cons_succ])
    repeat (first | (refine Ord.e_p (v := ?_) rfl (by rfl) ?_ ?_; rotate_left; · (intro w2; go_simp; try with_reducible rfl)) | (refine Ord.e_u (by rfl) ?_)); (try simp only [Act.put, List.setIfInBounds_toArray, List.set_cons_zero, List.set_cons_succ])
    refine Ord.e_loadS Tryz.underlying2 rfl (fun w' (hS : w'.cell? ⟨g, 0, none⟩ = some (.int .i64 x0) ∧ w'.cell? ⟨g, 1, none⟩ = some (.int .i64 x1) ∧ w'.cell? ⟨g, 2, none⟩ = some (.int .i64 x2) ∧ w'.cell? ⟨g, 3, none⟩ = some (.int .i64 x3) ∧ w'.cell? ⟨g, 4, none⟩ = some (.int .i64 x4) ∧ w'.cell? ⟨g, 5, none⟩ = some (.int .i64 x5) ∧ w'.cell? ⟨g, 6, none⟩ = some (.int .i64 x6) ∧ w'.cell? ⟨g, 7, none⟩ = some (.int .i64 x7)) => hS.2.2.2.1) ⟨k0, k1, k2, k3, k4, k5, k6, k7⟩ rfl (by rfl) ?_
    (try simp only [Act.put, List.setIfInBounds_toArray, List.set_cons_zero, List.set_cons_succ])
    repeat (first | (refine Ord.e_p (v := ?_) rfl (by rfl) ?_ ?_; rotate_left; · (intro w2; go_simp; try with_reducible rfl)) | (refine Ord.e_u (by rfl) ?_)); (try simp only [Act.put, List.setIfInBounds_toArray, List.set_cons_zero, List.set_cons_succ])
    refine Ord.e_loadS Tryz.underlying2 rfl (fun w' (hS : w'.cell? ⟨g, 0, none⟩ = some (.int .i64 x0) ∧ w'.cell? ⟨g, 1, none⟩ = some (.int .i64 x1) ∧ w'.cell? ⟨g, 2, none⟩ = some (.int .i64 x2) ∧ w'.cell? ⟨g, 3, none⟩ = some (.int .i64 x3) ∧ w'.cell? ⟨g, 4, none⟩ = some (.int .i64 x4) ∧ w'.cell? ⟨g, 5, none⟩ = some (.int .i64 x5) ∧ w'.cell? ⟨g, 6, none⟩ = some (.int .i64 x6) ∧ w'.cell? ⟨g, 7, none⟩ = some (.int .i64 x7)) => hS.2.2.2.2.1) ⟨k0, k1, k2, k3, k4, k5, k6, k7⟩ rfl (by rfl) ?_
    (try simp only [Act.put, List.setIfInBounds_toArray, List.set_cons_zero, List.set_cons_succ])
    repeat (first | (refine Ord.e_p (v := ?_) rfl (by rfl) ?_ ?_; rotate_left; · (intro w2; go_simp; try with_reducible rfl)) | (refine Ord.e_u (by rfl) ?_)); (try simp only [Act.put, List.setIfInBounds_toArray, List.set_cons_zero, List.set_cons_succ])
    refine Ord.e_loadS Tryz.underlying2 rfl (fun w' (hS : w'.cell? ⟨g, 0, none⟩ = some (.int .i64 x0) ∧ w'.cell? ⟨g, 1, none⟩ = some (.int .i64 x1) ∧ w'.cell? ⟨g, 2, none⟩ = some (.int .i64 x2) ∧ w'.cell? ⟨g, 3, none⟩ = some (.int .i64 x3) ∧ w'.cell? ⟨g, 4, none⟩ = some (.int .i64 x4) ∧ w'.cell? ⟨g, 5, none⟩ = some (.int .i64 x5) ∧ w'.cell? ⟨g, 6, none⟩ = some (.int .i64 x6) ∧ w'.cell? ⟨g, 7, none⟩ = some (.int .i64 x7)) => hS.2.2.2.2.2.1) ⟨k0, k1, k2, k3, k4, k5, k6, k7⟩ rfl (by rfl) ?_
    (try simp only [Act.put, List.setIfInBounds_toArray, List.set_cons_zero, List.set_cons_succ])
    repeat (first | (refine Ord.e_p (v := ?_) rfl (by rfl) ?_ ?_; rotate_left; · (intro w2; go_simp; try with_reducible rfl)) | (refine Ord.e_u (by rfl) ?_)); (try simp only [Act.put, List.setIfInBounds_toArray, List.set_cons_zero, List.set_cons_succ])
    refine Ord.e_loadS Tryz.underlying2 rfl (fun w' (hS : w'.cell? ⟨g, 0, none⟩ = some (.int .i64 x0) ∧ w'.cell? ⟨g, 1, none⟩ = some (.int .i64 x1) ∧ w'.cell? ⟨g, 2, none⟩ = some (.int .i64 x2) ∧ w'.cell? ⟨g, 3, none⟩ = some (.int .i64 x3) ∧ w'.cell? ⟨g, 4, none⟩ = some (.int .i64 x4) ∧ w'.cell? ⟨g, 5, none⟩ = some (.int .i64 x5) ∧ w'.cell? ⟨g, 6, none⟩ = some (.int .i64 x6) ∧ w'.cell? ⟨g, 7, none⟩ = some (.int .i64 x7)) => hS.2.2.2.2.2.2.1) ⟨k0, k1, k2, k3, k4, k5, k6, k7⟩ rfl (by rfl) ?_
    (try simp only [Act.put, List.setIfInBounds_toArray, List.set_cons_zero, List.set_cons_succ])
    repeat (first | (refine Ord.e_p (v := ?_) rfl (by rfl) ?_ ?_; rotate_left; · (intro w2; go_simp; try with_reducible rfl)) | (refine Ord.e_u (by rfl) ?_)); (try simp only [Act.put, List.setIfInBounds_toArray, List.set_cons_zero, List.set_cons_succ])
    refine Ord.e_loadS Tryz.underlying2 rfl (fun w' (hS : w'.cell? ⟨g, 0, none⟩ = some (.int .i64 x0) ∧ w'.cell? ⟨g, 1, none⟩ = some (.int .i64 x1) ∧ w'.cell? ⟨g, 2, none⟩ = some (.int .i64 x2) ∧ w'.cell? ⟨g, 3, none⟩ = some (.int .i64 x3) ∧ w'.cell? ⟨g, 4, none⟩ = some (.int .i64 x4) ∧ w'.cell? ⟨g, 5, none⟩ = some (.int .i64 x5) ∧ w'.cell? ⟨g, 6, none⟩ = some (.int .i64 x6) ∧ w'.cell? ⟨g, 7, none⟩ = some (.int .i64 x7)) => hS.2.2.2.2.2.2.2) ⟨k0, k1, k2, k3, k4, k5, k6, k7⟩ rfl (by rfl) ?_
    (try simp only [Act.put, List.setIfInBounds_toArray, List.set_cons_zero, List.set_cons_succ])
    repeat (first | (refine Ord.e_p (v := ?_) rfl (by rfl) ?_ ?_; rotate_left; · (intro w2; go_simp; try with_reducible rfl)) | (refine Ord.e_u (by rfl) ?_)); (try simp only [Act.put, List.setIfInBounds_toArray, List.set_cons_zero, List.set_cons_succ])
    refine Ord.e_x rfl (by rfl) ?_
    refine wpList_store_row rfl _ _ _ rfl w.heap.size #[.int .i64 x0, .int .i64 x1, .int .i64 x2, .int .i64 x3, .int .i64 x4, .int .i64 x5, .int .i64 x6, .int .i64 x7] rfl rfl _ _ hres (by kernel_rfl) rfl (by kernel_rfl) ?_
    have hb5 := below_setRow hb3 (Nat.le_refl _) (#[.int .i64 x0, .int .i64 x1, .int .i64 x2, .int .i64 x3, .int .i64 x4, .int .i64 x5, .int .i64 x6, .int .i64 x7] : Array Value)
    have hres5 := setRow_heap _ _ _ (#[.int .i64 x0, .int .i64 x1, .int .i64 x2, .int .i64 x3, .int .i64 x4, .int .i64 x5, .int .i64 x6, .int .i64 x7] : Array Value) _ _ hres
    replace k0 := (cell_setRow_other w4 w.heap.size (#[.int .i64 x0, .int .i64 x1, .int .i64 x2, .int .i64 x3, .int .i64 x4, .int .i64 x5, .int .i64 x6, .int .i64 x7] : Array Value) ⟨g, 0, none⟩ (Ne.symm hgne)).trans k0
    replace k1 := (cell_setRow_other w4 w.heap.size (#[.int .i64 x0, .int .i64 x1, .int .i64 x2, .int .i64 x3, .int .i64 x4, .int .i64 x5, .int .i64 x6, .int .i64 x7] : Array Value) ⟨g, 1, none⟩ (Ne.symm hgne)).trans k1
    replace k2 := (cell_setRow_other w4 w.heap.size (#[.int .i64 x0, .int .i64 x1, .int .i64 x2, .int .i64 x3, .int .i64 x4, .int .i64 x5, .int .i64 x6, .int .i64 x7] : Array Value) ⟨g, 2, none⟩ (Ne.symm hgne)).trans k2
    replace k3 := (cell_setRow_other w4 w.heap.size (#[.int .i64 x0, .int .i64 x1, .int .i64 x2, .int .i64 x3, .int .i64 x4, .int .i64 x5, .int .i64 x6, .int .i64 x7] : Array Value) ⟨g, 3, none⟩ (Ne.symm hgne)).trans k3
    replace k4 := (cell_setRow_other w4 w.heap.size (#[.int .i64 x0, .int .i64 x1, .int .i64 x2, .int .i64 x3, .int .i64 x4, .int .i64 x5, .int .i64 x6, .int .i64 x7] : Array Value) ⟨g, 4, none⟩ (Ne.symm hgne)).trans k4
    replace k5 := (cell_setRow_other w4 w.heap.size (#[.int .i64 x0, .int .i64 x1, .int .i64 x2, .int .i64 x3, .int .i64 x4, .int .i64 x5, .int .i64 x6, .int .i64 x7] : Array Value) ⟨g, 5, none⟩ (Ne.symm hgne)).trans k5
    replace k6 := (cell_setRow_other w4 w.heap.size (#[.int .i64 x0, .int .i64 x1, .int .i64 x2, .int .i64 x3, .int .i64 x4, .int .i64 x5, .int .i64 x6, .int .i64 x7] : Array Value) ⟨g, 6, none⟩ (Ne.symm hgne)).trans k6
    replace k7 := (cell_setRow_other w4 w.heap.size (#[.int .i64 x0, .int .i64 x1, .int .i64 x2, .int .i64 x3, .int .i64 x4, .int .i64 x5, .int .i64 x6, .int .i64 x7] : Array Value) ⟨g, 7, none⟩ (Ne.symm hgne)).trans k7
    generalize (w4.setRow w.heap.size #[.int .i64 x0, .int .i64 x1, .int .i64 x2, .int .i64 x3, .int .i64 x4, .int .i64 x5, .int .i64 x6, .int .i64 x7]) = w5 at *
    go_wp2_with fail
    refine Ord.Seg.go ⟨k0, k1, k2, k3, k4, k5, k6, k7⟩ (fun h => by cases h) ?_
    (try simp only [Act.put, List.setIfInBounds_toArray, List.set_cons_zero, List.set_cons_succ])
    repeat (first | (refine Ord.e_p (v := ?_) rfl (by rfl) ?_ ?_; rotate_left; · (intro w2; go_simp; try with_reducible rfl)) | (refine Ord.e_u (by rfl) ?_)); (try simp only [Act.put, List.setIfInBounds_toArray, List.set_cons_zero, List.set_cons_succ])
    refine Ord.e_nil ?_
    clear k0 k1 k2 k3 k4 k5 k6 k7 hres hb3
    have c0 := blk_cell (i := 0) (v := .int .i64 x0) hres5 rfl
    have c1 := blk_cell (i := 1) (v := .int .i64 x1) hres5 rfl
    have c2 := blk_cell (i := 2) (v := .int .i64 x2) hres5 rfl
    have c3 := blk_cell (i := 3) (v := .int .i64 x3) hres5 rfl
    have c4 := blk_cell (i := 4) (v := .int .i64 x4) hres5 rfl
    have c5 := blk_cell (i := 5) (v := .int .i64 x5) hres5 rfl
    have c6 := blk_cell (i := 6) (v := .int .i64 x6) hres5 rfl
    have c7 := blk_cell (i := 7) (v := .int .i64 x7) hres5 rfl
    go_wp2
    refine bodyPost_ret (v := .tuple #[.agg #[.int .i64 x0, .int .i64 x1, .int .i64 x2, .int .i64 x3, .int .i64 x4, .int .i64 x5, .int .i64 x6, .int .i64 x7], .int .i64 0]) (by simp [results, go_sem, c0, c1, c2, c3, c4, c5, c6, c7]) rfl ?_
    exact ⟨x0, x1, x2, x3, x4, x5, x6, x7, rfl, rfl, hb5⟩
  · have he' : ¬ (oE : Int) = 0 := by omega
    clear hown
    go_wp2_with (with_reducible refine stop_store ?_)
    refine go_ (wpList_store_row rfl _ _ _ rfl w.heap.size #[.int .i64 0, .int .i64 0, .int .i64 0, .int .i64 0, .int .i64 0, .int .i64 0, .int .i64 0, .int .i64 0] rfl rfl _ _ hres (by kernel_rfl) rfl (by kernel_rfl) ?_)
    have hb5 := below_setRow hb3 (Nat.le_refl _) (#[.int .i64 0, .int .i64 0, .int .i64 0, .int .i64 0, .int .i64 0, .int .i64 0, .int .i64 0, .int .i64 0] : Array Value)
    have hres5 := setRow_heap _ _ _ (#[.int .i64 0, .int .i64 0, .int .i64 0, .int .i64 0, .int .i64 0, .int .i64 0, .int .i64 0, .int .i64 0] : Array Value) _ _ hres
    generalize (w3.setRow w.heap.size #[.int .i64 0, .int .i64 0, .int .i64 0, .int .i64 0, .int .i64 0, .int .i64 0, .int .i64 0, .int .i64 0]) = w5 at *
    have c0 := blk_cell (i := 0) (v := .int .i64 0) hres5 rfl
    have c1 := blk_cell (i := 1) (v := .int .i64 0) hres5 rfl
    have c2 := blk_cell (i := 2) (v := .int .i64 0) hres5 rfl
    have c3 := blk_cell (i := 3) (v := .int .i64 0) hres5 rfl
    have c4 := blk_cell (i := 4) (v := .int .i64 0) hres5 rfl
    have c5 := blk_cell (i := 5) (v := .int .i64 0) hres5 rfl
    have c6 := blk_cell (i := 6) (v := .int .i64 0) hres5 rfl
    have c7 := blk_cell (i := 7) (v := .int .i64 0) hres5 rfl
    go_wp2
    refine bodyPost_ret (v := .tuple #[.agg #[.int .i64 0, .int .i64 0, .int .i64 0, .int .i64 0, .int .i64 0, .int .i64 0, .int .i64 0, .int .i64 0], .int .i64 oE]) (by simp [results, go_sem, c0, c1, c2, c3, c4, c5, c6, c7]) rfl ?_
    exact ⟨0, 0, 0, 0, 0, 0, 0, 0, (HT0.out he).symm, rfl, hb5⟩
end Go.Proofs.YtmkidihcdljkiaaGreat
