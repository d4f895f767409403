/-
  The statements' knows of layer 4.
-/
import Derived.Test.YtglfhdkknhdphaaOctWr2
import Derived.Test.YtglfhdkknhdphaaOrders
set_option linter.unusedSimpArgs false
set_option linter.unusedVariables false
namespace Go.Proofs.Ytglfhdkknhdphaa
open Go.RowKit NumLaw

set_option maxRecDepth 10000 in
set_option maxHeartbeats 1000000 in
theorem knows04 (w : World) : Calls Try.prog 19 #[] w fun e w' => e = .returned (.bool true) ∧ Below w.heap.size w w' := by
  go_enter Try.func19, Try.ntmps19
  go_wp2_with fail
  go_fit (wMake_any _)
  rintro e w1 ⟨rfl, hw1, hb1⟩
  go_wp2_with fail
  have hn1 : Rd (w1.alloc (.cells #[.int .u8 255] 5)) (w1.heap.size + 1) 1 (some ⟨w1.heap.size, 0, none⟩) 1 1 (bv [255]) := rd_const w1 5 [255] (0, 0) (by simp [maxLen])
  have hnew := rNew_any (some ⟨w1.heap.size, 0, none⟩) 1 1 _ [255] _ hn1 (by simp) (by omega)
  go_fit hnew
  rintro e w2 ⟨g, rfl, hr2, hg2, hb2⟩
  have hw2 : Wtr w2 w.heap.size (.slice none 0 0) [] false := hw1.keep (((Aw.refl (fun _ => False) w1).alloc _).trans (Aw.of_below' hb2)) (fun _ _ h => h)
  have hb2' : Below w.heap.size w w2 := (hb1.alloc hb1.size _).trans (hb2.mono (by have := hb1.size; simp; omega))
  have hgg : w.heap.size < w1.heap.size ∧ w1.heap.size < g := by have := hw1.lt; simp at hg2; omega
  clear hw1 hnew hn1 hb1 hb2 hg2
  go_wp2_with fail
  go_fit (wU_any w.heap.size (.slice none 0 0) [] false 2 513 w2 hw2 (by omega) (by simp))
  rintro e w3 ⟨rfl, v3, hw3, ha3, hv3⟩
  have hl3 : wtB false (fU 2 513) [] (bytesN (2 : Int).toNat 513) = [1, 2] := by decide
  have hf3 : (false || !fU 2 513) = false := by decide
  rw [hl3, hf3] at hw3
  have hr3 : Rdr (w1.heap.size + 1) w3 g [255] false := by
    obtain ⟨⟨A, n, c, h1, h2, h4⟩, h3⟩ := hr2
    have hfn : ∀ k, Foot w.heap.size (.slice none 0 0) k → k = w.heap.size := fun k hk => hk.elim id (fun h => by cases h)
    refine ⟨⟨A, n, c, h1.aw ha3 (fun hk => by have := hfn _ hk; omega), ?_, by simpa using h4⟩, h3⟩
    refine ⟨h2.len, h2.le, h2.max, fun hn => ?_⟩
    obtain ⟨ad, e, hb, hc⟩ := h2.at_ hn
    refine ⟨ad, e, hb, fun j u hu => ?_⟩
    have := hc j u hu
    have hlo := h4 ad e
    simp at hlo
    unfold World.cell? at this ⊢
    rw [ha3.block _ (by rw [blk_add]; have := h1.lt; omega) (fun hk => by have := hfn _ hk; rw [blk_add] at this; omega)]
    exact this
  have hb3 : Below w.heap.size w w3 := hb2'.trans ⟨ha3.os, ha3.tape, ha3.output, ha3.size, fun k hk => ha3.block k (by have := hb2'.size; omega) (fun hf => by
    rcases hf with rfl | h
    · omega
    · cases h)⟩
  clear hr2 hw2 ha3 hv3 hl3 hf3 hb2'
  go_wp2_with fail
  replace hr3 : Rdr (w1.heap.size + 1) w3.drew g [255] false := hr3.keep (row := none) ⟨rfl, rfl, rfl, Nat.le_refl _, fun _ _ _ => rfl⟩ (fun _ h => by cases h)
  replace hw3 : Wtr w3.drew w.heap.size v3 [1, 2] false := hw3.keep ((Aw.refl (fun _ => False) _).drew) (fun _ _ h => h)
  replace hb3 := hb3.drew
  refine Ord.region_m [1, 2, 3, 4] [[0, 1, 2, 3, 4, 5, 6, 7, 8, 9, 10, 11, 12, 13, 14, 15, 16, 17, 18, 19, 20, 21], [0, 3, 4, 1, 2, 5, 6, 7, 8, 9, 10, 11, 12, 13, 14, 15, 16, 17, 18, 19, 20, 21]] (fun _ => True) true [16, 18, 22] (by kernel_rfl) (by kernel_rfl) trivial ?_
  generalize w3.drew = w4 at *
  intro L hL
  simp only [List.mem_cons, List.not_mem_nil, or_false] at hL
  rcases hL with rfl | rfl
  · simp only [Ord.lst, List.filterMap_cons, List.filterMap_nil, List.getElem?_toArray, List.getElem?_cons_succ, List.getElem?_cons_zero]
    repeat (first | (refine Ord.e_p (v := ?_) rfl (by rfl) ?_ ?_; rotate_left; · (intro w2; go_simp; try with_reducible rfl)) | (refine Ord.e_u (by rfl) ?_)); (try simp only [Act.put, List.setIfInBounds_toArray, List.set_cons_zero, List.set_cons_succ])
    refine Ord.e_x rfl (by rfl) ?_
    go_wp2_with fail
    go_fit (wBytes_any w.heap.size v3 [1, 2] false w4 hw3 (by simp))
    rintro e w5 ⟨A5, c5, n5, rfl, hown5, hb5⟩
    go_wp2_with fail
    refine Ord.Seg.go trivial (fun _ => hb5) ?_
    (try simp only [Act.put, List.setIfInBounds_toArray, List.set_cons_zero, List.set_cons_succ])
    refine Ord.e_str Try.underlying22 Try.underlying5 Try.underlying9 (Rd.own hown5) rfl (by rfl) (by rfl) ?_
    (try simp only [Act.put, List.setIfInBounds_toArray, List.set_cons_zero, List.set_cons_succ])
    refine Ord.e_x rfl (by rfl) ?_
    go_wp2
    have hn6 : Rd (w5.alloc (.cells #[.int .u8 1, .int .u8 2] 5)) (w5.alloc (.cells #[.int .u8 1, .int .u8 2] 5)).heap.size 1 (some ⟨w5.heap.size, 0, none⟩) 2 2 (bv [1, 2]) := by rw [World.size_alloc]; exact rd_const w5 5 [1, 2] (0, 0) (by simp [maxLen])
    have hb6 : Below w4.heap.size w4 (w5.alloc (.cells #[.int .u8 1, .int .u8 2] 5)) := hb5.alloc hb5.size _
    refine Ord.Seg.go trivial (fun _ => (Below.refl _ _).alloc (Nat.le_refl _) _) ?_
    (try simp only [Act.put, List.setIfInBounds_toArray, List.set_cons_zero, List.set_cons_succ])
    refine Ord.e_str Try.underlying22 Try.underlying5 Try.underlying9 hn6 rfl (by rfl) (by rfl) ?_
    (try simp only [Act.put, List.setIfInBounds_toArray, List.set_cons_zero, List.set_cons_succ])
    repeat (first | (refine Ord.e_p (v := ?_) rfl (by rfl) ?_ ?_; rotate_left; · (intro w2; go_simp; try with_reducible rfl)) | (refine Ord.e_u (by rfl) ?_)); (try simp only [Act.put, List.setIfInBounds_toArray, List.set_cons_zero, List.set_cons_succ])
    refine Ord.e_x rfl (by rfl) ?_
    go_wp2_with fail
    have hr6 := hr3.keep (grownBy_of hb6 none) (fun _ h => by cases h)
    go_fit (rI_any _ g [255] false 1 _ hr6)
    rintro e w7 ⟨rfl, hr7, hg7⟩
    have e1 : iV 1 [255] false = -1 := by decide
    have e2 : rdL (nU 1) [255] false = [] := by decide
    have e3 : rdF (nU 1) [255] false = false := by decide
    rw [e2, e3] at hr7
    rw [e1]
    have hb7 : Below w.heap.size w w7 := (hb3.trans (hb6.mono hb3.size)).grown hg7 (Nat.le_trans hb3.size hb6.size) (fun k hk => by injection hk with hk; omega)
    clear hr6 e1 e2 e3 hg7
    go_wp2_with fail
    refine Ord.Seg.go trivial (fun h => by cases h) ?_
    (try simp only [Act.put, List.setIfInBounds_toArray, List.set_cons_zero, List.set_cons_succ])
    repeat (first | (refine Ord.e_p (v := ?_) rfl (by rfl) ?_ ?_; rotate_left; · (intro w2; go_simp; try with_reducible rfl)) | (refine Ord.e_u (by rfl) ?_)); (try simp only [Act.put, List.setIfInBounds_toArray, List.set_cons_zero, List.set_cons_succ])
    refine Ord.e_x rfl (by rfl) ?_
    go_wp2_with fail
    go_fit (rLeft_any _ g [] false _ hr7)
    rintro e w8 ⟨rfl, rfl⟩
    go_wp2_with fail
    refine Ord.Seg.go trivial (fun _ => Below.refl _ _) ?_
    (try simp only [Act.put, List.setIfInBounds_toArray, List.set_cons_zero, List.set_cons_succ])
    repeat (first | (refine Ord.e_p (v := ?_) rfl (by rfl) ?_ ?_; rotate_left; · (intro w2; go_simp; try with_reducible rfl)) | (refine Ord.e_u (by rfl) ?_)); (try simp only [Act.put, List.setIfInBounds_toArray, List.set_cons_zero, List.set_cons_succ])
    refine Ord.e_x rfl (by rfl) ?_
    go_wp2_with fail
    go_fit (rFail_any _ g [] false _ hr7)
    rintro e w8 ⟨rfl, rfl⟩
    go_wp2_with fail
    refine Ord.Seg.go trivial (fun _ => Below.refl _ _) ?_
    (try simp only [Act.put, List.setIfInBounds_toArray, List.set_cons_zero, List.set_cons_succ])
    repeat (first | (refine Ord.e_p (v := ?_) rfl (by rfl) ?_ ?_; rotate_left; · (intro w2; go_simp; try with_reducible rfl)) | (refine Ord.e_u (by rfl) ?_)); (try simp only [Act.put, List.setIfInBounds_toArray, List.set_cons_zero, List.set_cons_succ])
    refine Ord.e_nil ?_
    go_wp2
    go_ret
    exact ⟨rfl, hb7⟩
  · simp only [Ord.lst, List.filterMap_cons, List.filterMap_nil, List.getElem?_toArray, List.getElem?_cons_succ, List.getElem?_cons_zero]
    repeat (first | (refine Ord.e_p (v := ?_) rfl (by rfl) ?_ ?_; rotate_left; · (intro w2; go_simp; try with_reducible rfl)) | (refine Ord.e_u (by rfl) ?_)); (try simp only [Act.put, List.setIfInBounds_toArray, List.set_cons_zero, List.set_cons_succ])
    refine Ord.e_x rfl (by rfl) ?_
    go_wp2
    have hn6 : Rd (w4.alloc (.cells #[.int .u8 1, .int .u8 2] 5)) (w4.alloc (.cells #[.int .u8 1, .int .u8 2] 5)).heap.size 1 (some ⟨w4.heap.size, 0, none⟩) 2 2 (bv [1, 2]) := by rw [World.size_alloc]; exact rd_const w4 5 [1, 2] (0, 0) (by simp [maxLen])
    have hb5 : Below w4.heap.size w4 (w4.alloc (.cells #[.int .u8 1, .int .u8 2] 5)) := (Below.refl _ _).alloc (Nat.le_refl _) _
    refine Ord.Seg.go trivial (fun _ => hb5) ?_
    (try simp only [Act.put, List.setIfInBounds_toArray, List.set_cons_zero, List.set_cons_succ])
    refine Ord.e_str Try.underlying22 Try.underlying5 Try.underlying9 hn6 rfl (by rfl) (by rfl) ?_
    (try simp only [Act.put, List.setIfInBounds_toArray, List.set_cons_zero, List.set_cons_succ])
    have hw5 := hw3.keep (Aw.of_below' (U := fun _ => False) hb5) (fun _ _ h => h)
    generalize (w4.alloc (.cells #[.int .u8 1, .int .u8 2] 5)) = w5 at *
    repeat (first | (refine Ord.e_p (v := ?_) rfl (by rfl) ?_ ?_; rotate_left; · (intro w2; go_simp; try with_reducible rfl)) | (refine Ord.e_u (by rfl) ?_)); (try simp only [Act.put, List.setIfInBounds_toArray, List.set_cons_zero, List.set_cons_succ])
    refine Ord.e_x rfl (by rfl) ?_
    go_wp2_with fail
    go_fit (wBytes_any w.heap.size v3 [1, 2] false w5 hw5 (by simp))
    rintro e w6 ⟨A5, c5, n5, rfl, hown5, hb56⟩
    have hb6 : Below w4.heap.size w4 w6 := bnx hb5 hb56
    go_wp2_with fail
    refine Ord.Seg.go trivial (fun _ => hb56) ?_
    (try simp only [Act.put, List.setIfInBounds_toArray, List.set_cons_zero, List.set_cons_succ])
    refine Ord.e_str Try.underlying22 Try.underlying5 Try.underlying9 (Rd.own hown5) rfl (by rfl) (by rfl) ?_
    (try simp only [Act.put, List.setIfInBounds_toArray, List.set_cons_zero, List.set_cons_succ])
    repeat (first | (refine Ord.e_p (v := ?_) rfl (by rfl) ?_ ?_; rotate_left; · (intro w2; go_simp; try with_reducible rfl)) | (refine Ord.e_u (by rfl) ?_)); (try simp only [Act.put, List.setIfInBounds_toArray, List.set_cons_zero, List.set_cons_succ])
    refine Ord.e_x rfl (by rfl) ?_
    go_wp2_with fail
    have hr6 := hr3.keep (grownBy_of hb6 none) (fun _ h => by cases h)
    go_fit (rI_any _ g [255] false 1 _ hr6)
    rintro e w7 ⟨rfl, hr7, hg7⟩
    have e1 : iV 1 [255] false = -1 := by decide
    have e2 : rdL (nU 1) [255] false = [] := by decide
    have e3 : rdF (nU 1) [255] false = false := by decide
    rw [e2, e3] at hr7
    rw [e1]
    have hb7 : Below w.heap.size w w7 := (hb3.trans (hb6.mono hb3.size)).grown hg7 (Nat.le_trans hb3.size hb6.size) (fun k hk => by injection hk with hk; omega)
    clear hr6 e1 e2 e3 hg7
    go_wp2_with fail
    refine Ord.Seg.go trivial (fun h => by cases h) ?_
    (try simp only [Act.put, List.setIfInBounds_toArray, List.set_cons_zero, List.set_cons_succ])
    repeat (first | (refine Ord.e_p (v := ?_) rfl (by rfl) ?_ ?_; rotate_left; · (intro w2; go_simp; try with_reducible rfl)) | (refine Ord.e_u (by rfl) ?_)); (try simp only [Act.put, List.setIfInBounds_toArray, List.set_cons_zero, List.set_cons_succ])
    refine Ord.e_x rfl (by rfl) ?_
    go_wp2_with fail
    go_fit (rLeft_any _ g [] false _ hr7)
    rintro e w8 ⟨rfl, rfl⟩
    go_wp2_with fail
    refine Ord.Seg.go trivial (fun _ => Below.refl _ _) ?_
    (try simp only [Act.put, List.setIfInBounds_toArray, List.set_cons_zero, List.set_cons_succ])
    repeat (first | (refine Ord.e_p (v := ?_) rfl (by rfl) ?_ ?_; rotate_left; · (intro w2; go_simp; try with_reducible rfl)) | (refine Ord.e_u (by rfl) ?_)); (try simp only [Act.put, List.setIfInBounds_toArray, List.set_cons_zero, List.set_cons_succ])
    refine Ord.e_x rfl (by rfl) ?_
    go_wp2_with fail
    go_fit (rFail_any _ g [] false _ hr7)
    rintro e w8 ⟨rfl, rfl⟩
    go_wp2_with fail
    refine Ord.Seg.go trivial (fun _ => Below.refl _ _) ?_
    (try simp only [Act.put, List.setIfInBounds_toArray, List.set_cons_zero, List.set_cons_succ])
    repeat (first | (refine Ord.e_p (v := ?_) rfl (by rfl) ?_ ?_; rotate_left; · (intro w2; go_simp; try with_reducible rfl)) | (refine Ord.e_u (by rfl) ?_)); (try simp only [Act.put, List.setIfInBounds_toArray, List.set_cons_zero, List.set_cons_succ])
    refine Ord.e_nil ?_
    go_wp2
    go_ret
    exact ⟨rfl, hb7⟩

end Go.Proofs.Ytglfhdkknhdphaa
