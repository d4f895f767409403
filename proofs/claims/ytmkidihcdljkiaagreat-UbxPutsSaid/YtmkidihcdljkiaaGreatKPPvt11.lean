/-
  Put and Take of layer 16 walked, the program's and the document's (printed by gen_pvt11.py).
-/
import Derived.Test.YtmkidihcdljkiaaGreatKPPvt5
import Derived.Test.YtmkidihcdljkiaaGreatKPPvt10
import Derived.Test.YtmkidihcdljkiaaGreatKPGM
import Derived.Test.YtmkidihcdljkiaaGreatKPGE
set_option linter.unusedSimpArgs false
set_option linter.unusedVariables false
namespace Go.Proofs.YtmkidihcdljkiaaGreat
open Go.RowKit NumLaw

theorem valsOf_bounds {xs : List Int} (h : ∀ z ∈ xs, -9223372036854775808 ≤ z ∧ z ≤ 9223372036854775807) : ∀ z ∈ valsOf xs, -9223372036854775808 ≤ z ∧ z ≤ 9223372036854775807 := by
  intro z hz
  unfold valsOf at hz
  rw [List.append_assoc] at hz
  rcases List.mem_append.1 hz with h1 | h1
  · exact h z (List.mem_of_mem_take h1)
  · rcases List.mem_cons.1 h1 with rfl | h2
    · omega
    · exact h z (List.mem_of_mem_drop h2)
set_option maxRecDepth 100000 in
set_option maxHeartbeats 2000000 in
theorem pvtPut_any (xs : List Int) (w : World) (hl : xs.length = 32) (hb : ∀ z ∈ xs, -9223372036854775808 ≤ z ∧ z ≤ 9223372036854775807) :
    Calls Tryz.prog 113 #[.agg (pvC xs)] w (RetPS w (shP pvtF (valsOf xs)) (shE pvtF (valsOf xs))) := by
  have hvb := valsOf_bounds hb
  have hvl := valsOf_len hl
  obtain ⟨vs, hvs⟩ : ∃ vs, vs = valsOf xs := ⟨_, rfl⟩
  rw [← hvs] at hvb hvl ⊢
  have HV := Lib.hid hvs
  have Hvb := Lib.hid hvb
  have Hvl := Lib.hid hvl
  obtain ⟨oP, hoP⟩ : ∃ oP, oP = shP pvtF vs := ⟨_, rfl⟩
  obtain ⟨oE, hoE⟩ : ∃ oE, oE = shE pvtF vs := ⟨_, rfl⟩
  rw [← hoP, ← hoE]
  have HoP := Lib.hid hoP
  have HoE := Lib.hid hoE
  have Hl := Lib.hid hl
  clear hvs hvb hvl hoP hoE hb hl
  have hb1 : Below w.heap.size w (w.alloc (.cells (pvC xs) 23)) := (Below.refl _ _).alloc (Nat.le_refl _) _
  have hbox := heap_alloc_new w (.cells (pvC xs) 23)
  go_enter Tryz.func113, Tryz.ntmps113
  go_wp2_with fail
  generalize (w.alloc (.cells (pvC xs) 23)) = w1 at *
  have hlt := blk_lt hbox
  have hrow : w1.rangeAt w.heap.size 0 (xs.map (Value.int .i64)) := own_range hbox 0 (fun j v hv => by simpa [pvC] using hv)
  clear hbox
  refine Ord.region_ (fun w' => Below w1.heap.size w1 w') false [] (by kernel_rfl) (by kernel_rfl) ((Below.refl _ _).drew) ?_
  have h2 : Below w1.heap.size w1 w1.drew := (Below.refl _ _).drew
  generalize w1.drew = w2 at *
  refine Ord.e_x rfl (by kernel_rfl) ?_
  go_wp2_with fail
  go_fit (pvtShape_any w2)
  rintro e w3 ⟨Af, nf, cf, rfl, hnf, hrf, hb23⟩
  have h3 := h2.trans (hb23.mono h2.size)
  go_wp2_with fail
  refine Ord.Seg.go h3 (fun h => by cases h) ?_
  (try simp only [Act.put, List.setIfInBounds_toArray, List.set_cons_zero, List.set_cons_succ])
  refine Ord.e_rowS (cs := xs.map (Value.int .i64)) Tryz.underlying23 rfl (by rw [pvt_size, List.length_map, Hl.out]) rfl (by intro h; have := Hl.out; rw [List.map_eq_nil_iff.1 h] at this; cases this) (fun w' hS j v hv => ((show Below _ w1 w' from hS).cell (p := ⟨w.heap.size, 0 + j, none⟩) hlt).trans (hrow j v hv)) h3 (by kernel_rfl) ?_
  (try simp only [Act.put, List.setIfInBounds_toArray, List.set_cons_zero, List.set_cons_succ])
  refine Ord.e_x rfl (by kernel_rfl) ?_
  go_wp2_with fail
  go_fit (values_any xs w3 Hl.out)
  rw [← HV.out]
  rintro e w4 ⟨Av, nv, cv, rfl, hown, hb34⟩
  have h4 := h3.trans (hb34.mono h3.size)
  have hrf4 := hrf.up hb34
  have hrd := Rd.own hown
  have hle34 := hb34.size
  obtain rfl : nv = 33 := by have h := hown.1; simp at h; have := Hvl.out; omega
  clear h2 h3 hb23 hb34 hown hrf
  go_wp2_with fail
  refine Ord.Seg.go h4 (fun h => by cases h) ?_
  (try simp only [Act.put, List.setIfInBounds_toArray, List.set_cons_zero, List.set_cons_succ])
  refine Ord.e_x rfl (by kernel_rfl) ?_
  go_wp2_with fail
  go_fit (shPut_any Af nf cf w3.heap.size pvtF Av 33 cv w4.heap.size vs w4 hrf4 hle34 hrd (Nat.le_refl _) (by omega) Hvb.out)
  rw [← HoE.out, ← HoP.out]
  rintro e w5 ⟨Ap, np, cp, rfl, hown5, hb45⟩
  have h5 := h4.trans (hb45.mono h4.size)
  have hbf := hb1.trans (h5.mono hb1.size)
  have hown6 := own_mono hown5 (base' := w.heap.size) (by have := h4.size; have := hb1.size; omega)
  clear hrd hrf4 hown5 h4 hb45 hrow hle34
  go_wp2_with fail
  refine Ord.Seg.go h5 (fun h => by cases h) ?_
  (try simp only [Act.put, List.setIfInBounds_toArray, List.set_cons_zero, List.set_cons_succ])
  ((with_reducible refine Ord.e_p (v := ?_) ?_ ?_ ?_ ?_); rotate_left; (· exact rfl); (· kernel_rfl); (· intro w2; go_simp; try with_reducible rfl))
  (try simp only [Act.put, List.setIfInBounds_toArray, List.set_cons_zero, List.set_cons_succ])
  ((with_reducible refine Ord.e_p (v := ?_) ?_ ?_ ?_ ?_); rotate_left; (· exact rfl); (· kernel_rfl); (· intro w2; go_simp; try with_reducible rfl))
  (try simp only [Act.put, List.setIfInBounds_toArray, List.set_cons_zero, List.set_cons_succ])
  ((with_reducible refine Ord.e_p (v := ?_) ?_ ?_ ?_ ?_); rotate_left; (· exact rfl); (· kernel_rfl); (· intro w2; go_simp; try with_reducible rfl))
  (try simp only [Act.put, List.setIfInBounds_toArray, List.set_cons_zero, List.set_cons_succ])
  ((with_reducible refine Ord.e_p (v := ?_) ?_ ?_ ?_ ?_); rotate_left; (· exact rfl); (· kernel_rfl); (· intro w2; go_simp; try with_reducible rfl))
  (try simp only [Act.put, List.setIfInBounds_toArray, List.set_cons_zero, List.set_cons_succ])
  refine Ord.e_nil ?_
  clear h5
  go_wp2
  go_ret2
  exact ⟨Ap, np, cp, rfl, hown6, hbf⟩

set_option maxRecDepth 100000 in
set_option maxHeartbeats 2000000 in
theorem qpvtPut_any (xs : List Int) (w : World) (hl : xs.length = 32) (hb : ∀ z ∈ xs, -9223372036854775808 ≤ z ∧ z ≤ 9223372036854775807) :
    Calls Tryz.prog 23 #[.agg (pvC xs)] w (RetPS w (shP pvtF (valsOf xs)) (shE pvtF (valsOf xs))) := by
  have hvb := valsOf_bounds hb
  have hvl := valsOf_len hl
  obtain ⟨vs, hvs⟩ : ∃ vs, vs = valsOf xs := ⟨_, rfl⟩
  rw [← hvs] at hvb hvl ⊢
  have HV := Lib.hid hvs
  have Hvb := Lib.hid hvb
  have Hvl := Lib.hid hvl
  obtain ⟨oP, hoP⟩ : ∃ oP, oP = shP pvtF vs := ⟨_, rfl⟩
  obtain ⟨oE, hoE⟩ : ∃ oE, oE = shE pvtF vs := ⟨_, rfl⟩
  rw [← hoP, ← hoE]
  have HoP := Lib.hid hoP
  have HoE := Lib.hid hoE
  have Hl := Lib.hid hl
  clear hvs hvb hvl hoP hoE hb hl
  have hb1 : Below w.heap.size w (w.alloc (.cells (pvC xs) 23)) := (Below.refl _ _).alloc (Nat.le_refl _) _
  have hbox := heap_alloc_new w (.cells (pvC xs) 23)
  go_enter Tryz.func23, Tryz.ntmps23
  go_wp2_with fail
  generalize (w.alloc (.cells (pvC xs) 23)) = w1 at *
  have hlt := blk_lt hbox
  have hrow : w1.rangeAt w.heap.size 0 (xs.map (Value.int .i64)) := own_range hbox 0 (fun j v hv => by simpa [pvC] using hv)
  clear hbox
  refine Ord.region_ (fun w' => Below w1.heap.size w1 w') false [] (by kernel_rfl) (by kernel_rfl) ((Below.refl _ _).drew) ?_
  have h2 : Below w1.heap.size w1 w1.drew := (Below.refl _ _).drew
  generalize w1.drew = w2 at *
  refine Ord.e_x rfl (by kernel_rfl) ?_
  go_wp2_with fail
  go_fit (qpvtShape_any w2)
  rintro e w3 ⟨Af, nf, cf, rfl, hnf, hrf, hb23⟩
  have h3 := h2.trans (hb23.mono h2.size)
  go_wp2_with fail
  refine Ord.Seg.go h3 (fun h => by cases h) ?_
  (try simp only [Act.put, List.setIfInBounds_toArray, List.set_cons_zero, List.set_cons_succ])
  refine Ord.e_rowS (cs := xs.map (Value.int .i64)) Tryz.underlying23 rfl (by rw [pvt_size, List.length_map, Hl.out]) rfl (by intro h; have := Hl.out; rw [List.map_eq_nil_iff.1 h] at this; cases this) (fun w' hS j v hv => ((show Below _ w1 w' from hS).cell (p := ⟨w.heap.size, 0 + j, none⟩) hlt).trans (hrow j v hv)) h3 (by kernel_rfl) ?_
  (try simp only [Act.put, List.setIfInBounds_toArray, List.set_cons_zero, List.set_cons_succ])
  refine Ord.e_x rfl (by kernel_rfl) ?_
  go_wp2_with fail
  go_fit (qvalues_any xs w3 Hl.out)
  rw [← HV.out]
  rintro e w4 ⟨Av, nv, cv, rfl, hown, hb34⟩
  have h4 := h3.trans (hb34.mono h3.size)
  have hrf4 := hrf.up hb34
  have hrd := Rd.own hown
  have hle34 := hb34.size
  obtain rfl : nv = 33 := by have h := hown.1; simp at h; have := Hvl.out; omega
  clear h2 h3 hb23 hb34 hown hrf
  go_wp2_with fail
  refine Ord.Seg.go h4 (fun h => by cases h) ?_
  (try simp only [Act.put, List.setIfInBounds_toArray, List.set_cons_zero, List.set_cons_succ])
  refine Ord.e_x rfl (by kernel_rfl) ?_
  go_wp2_with fail
  go_fit (qPut14_any Af nf cf w3.heap.size pvtF Av 33 cv w4.heap.size vs w4 hrf4 hle34 hrd (Nat.le_refl _) (by omega))
  rw [← HoE.out, ← HoP.out]
  rintro e w5 ⟨Ap, np, cp, rfl, hown5, hb45⟩
  have h5 := h4.trans (hb45.mono h4.size)
  have hbf := hb1.trans (h5.mono hb1.size)
  have hown6 := own_mono hown5 (base' := w.heap.size) (by have := h4.size; have := hb1.size; omega)
  clear hrd hrf4 hown5 h4 hb45 hrow hle34
  go_wp2_with fail
  refine Ord.Seg.go h5 (fun h => by cases h) ?_
  (try simp only [Act.put, List.setIfInBounds_toArray, List.set_cons_zero, List.set_cons_succ])
  ((with_reducible refine Ord.e_p (v := ?_) ?_ ?_ ?_ ?_); rotate_left; (· exact rfl); (· kernel_rfl); (· intro w2; go_simp; try with_reducible rfl))
  (try simp only [Act.put, List.setIfInBounds_toArray, List.set_cons_zero, List.set_cons_succ])
  ((with_reducible refine Ord.e_p (v := ?_) ?_ ?_ ?_ ?_); rotate_left; (· exact rfl); (· kernel_rfl); (· intro w2; go_simp; try with_reducible rfl))
  (try simp only [Act.put, List.setIfInBounds_toArray, List.set_cons_zero, List.set_cons_succ])
  ((with_reducible refine Ord.e_p (v := ?_) ?_ ?_ ?_ ?_); rotate_left; (· exact rfl); (· kernel_rfl); (· intro w2; go_simp; try with_reducible rfl))
  (try simp only [Act.put, List.setIfInBounds_toArray, List.set_cons_zero, List.set_cons_succ])
  ((with_reducible refine Ord.e_p (v := ?_) ?_ ?_ ?_ ?_); rotate_left; (· exact rfl); (· kernel_rfl); (· intro w2; go_simp; try with_reducible rfl))
  (try simp only [Act.put, List.setIfInBounds_toArray, List.set_cons_zero, List.set_cons_succ])
  ((with_reducible refine Ord.e_p (v := ?_) ?_ ?_ ?_ ?_); rotate_left; (· exact rfl); (· kernel_rfl); (· intro w2; go_simp; try with_reducible rfl))
  (try simp only [Act.put, List.setIfInBounds_toArray, List.set_cons_zero, List.set_cons_succ])
  refine Ord.e_nil ?_
  clear h5
  go_wp2
  go_ret2
  exact ⟨Ap, np, cp, rfl, hown6, hbf⟩

end Go.Proofs.YtmkidihcdljkiaaGreat
