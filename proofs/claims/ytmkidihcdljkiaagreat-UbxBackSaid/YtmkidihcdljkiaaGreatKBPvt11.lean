/-
  Put and Take of layer 16 walked, the program's and the document's (printed by gen_pvt11.py).
-/
import Derived.Test.YtmkidihcdljkiaaGreatKBPvt5
import Derived.Test.YtmkidihcdljkiaaGreatKBPvt9
import Derived.Test.YtmkidihcdljkiaaGreatKBGC
import Derived.Test.YtmkidihcdljkiaaGreatKBGE
import Derived.Test.YtmkidihcdljkiaaGreatKBGA
import Derived.Deep.QuietTactic
import Derived.BigQuiet
set_option linter.unusedSimpArgs false
set_option linter.unusedVariables false
namespace Go.Proofs.YtmkidihcdljkiaaGreat
open Go.RowKit NumLaw

theorem valsOf_bounds {xs : List Int} (h : ∀ z ∈ xs, -9223372036854775808 ≤ z ∧ z ≤ 9223372036854775807) : ∀ z ∈ valsOf xs, -9223372036854775808 ≤ z ∧ z ≤ 9223372036854775807 := by
  intro z hz
  unfold valsOf at hz
  rw [List.append_assoc] at hz
  rcases List.mem_append.1 hz with h1 | h1
  · exact h z (List.mem_of_mem_take h1)
  · rcases List.mem_cons.1 h1 with rfl | h2
    · omega
    · exact h z (List.mem_of_mem_drop h2)
/-- What is taken of bytes. -/
def ptake (b : List UInt8) : List Int := if shTE pvtF b = 0 then msgOf (shT pvtF b) else pz
theorem pvtF_len : pvtF.length = 33 := by decide +kernel
theorem shT_ok {b : List UInt8} (h : shTE pvtF b = 0) : pofOk (shT pvtF b) = true := by
  obtain ⟨h1, h2, h3⟩ := shape_back h
  have hl : (shT pvtF b).length = 33 := by rw [h3, pvtF_len]
  have hin : inAll pvtF (shT pvtF b) = true := by
    unfold shE at h1
    split at h1
    · split at h1
      · assumption
      · cases h1
    · cases h1
  have hlt : 29 < (shT pvtF b).length := by omega
  have hf : pvtF[29]? = some ⟨4, false, 0, 0⟩ := by rfl
  have hx : (shT pvtF b)[29]? = some (shT pvtF b)[29] := List.getElem?_eq_getElem hlt
  have hm : ((⟨4, false, 0, 0⟩ : FieldV), (shT pvtF b)[29]) ∈ pvtF.zip (shT pvtF b) := List.mem_of_getElem? (i := 29) (by rw [List.getElem?_zip_eq_some]; exact ⟨hf, hx⟩)
  have := List.all_eq_true.1 hin _ hm
  have := of_decide_eq_true this
  simp only at this
  unfold pofOk
  refine decide_eq_true ⟨hl, ?_⟩
  rw [hx]
  congr 1
  omega
theorem ptake_len (b : List UInt8) : (ptake b).length = 32 := by
  unfold ptake
  split
  · rename_i h
    have := shT_ok h
    unfold pofOk at this
    exact msgOf_len (of_decide_eq_true this).1
  · rfl
theorem ptake_pof {b : List UInt8} (h : shTE pvtF b = 0) : pofV (shT pvtF b) = ptake b := by unfold pofV ptake; rw [if_pos (shT_ok h), if_pos h]
theorem ptake_there {xs : List Int} (hl : xs.length = 32) (h : shE pvtF (valsOf xs) = 0) : ptake (shP pvtF (valsOf xs)) = xs ∧ shTE pvtF (shP pvtF (valsOf xs)) = 0 ∧ (shP pvtF (valsOf xs)).length = 92 := by
  obtain ⟨h1, h2, h3⟩ := shape_there h
  refine ⟨by unfold ptake; rw [if_pos h1, h2, msgOf_valsOf hl], h1, ?_⟩
  rw [h3]
  unfold widthL
  rw [if_pos pvtF_right, pvtF_sum]
theorem ptake_back {b : List UInt8} (h : shTE pvtF b = 0) : shE pvtF (valsOf (ptake b)) = 0 ∧ shP pvtF (valsOf (ptake b)) = b := by
  have hok := shT_ok h
  unfold pofOk at hok
  obtain ⟨h1, h2⟩ := of_decide_eq_true hok
  obtain ⟨e1, e2, _⟩ := shape_back h
  have : valsOf (ptake b) = shT pvtF b := by unfold ptake; rw [if_pos h, valsOf_msgOf h1 h2]
  rw [this]
  exact ⟨e1, e2⟩
theorem ptake_none {b : List UInt8} (h : shTE pvtF b ≠ 0) : ptake b = pz := by unfold ptake; rw [if_neg h]
theorem ptake_bounds (b : List UInt8) : ∀ z ∈ ptake b, -9223372036854775808 ≤ z ∧ z ≤ 9223372036854775807 := by
  by_cases h : shTE pvtF b = 0
  · have hb := takeD_bounds (l := pvtF) (b := b) (fun f hf => (pvtF_b f hf).2)
    unfold takeD at hb
    rw [if_pos h] at hb
    intro z hz
    unfold ptake at hz
    rw [if_pos h] at hz
    unfold msgOf at hz
    rcases List.mem_append.1 hz with h1 | h1
    · exact hb z (List.mem_of_mem_take h1)
    · exact hb z (List.mem_of_mem_drop h1)
  · rw [ptake_none h]
    intro z hz
    obtain ⟨_, rfl⟩ := List.mem_replicate.1 hz
    omega
/-- The message of bytes, handed back. -/
def RetPT (b : List UInt8) (w : World) (e : Ending) (w' : World) : Prop := e = .returned (.tuple #[.agg (pvC (ptake b)), .int .i64 (shTE pvtF b : Int)]) ∧ Below w.heap.size w w'

set_option maxRecDepth 100000 in
set_option maxHeartbeats 2000000 in
theorem pvtPut_any (xs : List Int) (w : World) (hl : xs.length = 32) (hb : ∀ z ∈ xs, -9223372036854775808 ≤ z ∧ z ≤ 9223372036854775807) :
    Calls Tryz.prog 113 #[.agg (pvC xs)] w (RetPS w (shP pvtF (valsOf xs)) (shE pvtF (valsOf xs))) := by
  have hvb := valsOf_bounds hb
  have hvl := valsOf_len hl
  obtain ⟨vs, hvs⟩ : ∃ vs, vs = valsOf xs := ⟨_, rfl⟩
  rw [← hvs] at hvb hvl ⊢
  have HV := Lib.hid hvs
  have Hvb := Lib.hid hvb
  have Hvl := Lib.hid hvl
  obtain ⟨oP, hoP⟩ : ∃ oP, oP = shP pvtF vs := ⟨_, rfl⟩
  obtain ⟨oE, hoE⟩ : ∃ oE, oE = shE pvtF vs := ⟨_, rfl⟩
  rw [← hoP, ← hoE]
  have HoP := Lib.hid hoP
  have HoE := Lib.hid hoE
  have Hl := Lib.hid hl
  clear hvs hvb hvl hoP hoE hb hl
  have hb1 : Below w.heap.size w (w.alloc (.cells (pvC xs) 23)) := (Below.refl _ _).alloc (Nat.le_refl _) _
  have hbox := heap_alloc_new w (.cells (pvC xs) 23)
  go_enter Tryz.func113, Tryz.ntmps113
  go_wp2_with fail
  generalize (w.alloc (.cells (pvC xs) 23)) = w1 at *
  have hlt := blk_lt hbox
  have hrow : w1.rangeAt w.heap.size 0 (xs.map (Value.int .i64)) := own_range hbox 0 (fun j v hv => by simpa [pvC] using hv)
  clear hbox
  refine Ord.region_ (fun w' => Below w1.heap.size w1 w') false [] (by kernel_rfl) (by kernel_rfl) ((Below.refl _ _).drew) ?_
  have h2 : Below w1.heap.size w1 w1.drew := (Below.refl _ _).drew
  generalize w1.drew = w2 at *
  refine Ord.e_x rfl (by kernel_rfl) ?_
  go_wp2_with fail
  go_fit (pvtShape_any w2)
  rintro e w3 ⟨Af, nf, cf, rfl, hnf, hrf, hb23⟩
  have h3 := h2.trans (hb23.mono h2.size)
  go_wp2_with fail
  refine Ord.Seg.go h3 (fun h => by cases h) ?_
  (try simp only [Act.put, List.setIfInBounds_toArray, List.set_cons_zero, List.set_cons_succ])
  refine Ord.e_rowS (cs := xs.map (Value.int .i64)) Tryz.underlying23 rfl (by rw [pvt_size, List.length_map, Hl.out]) rfl (by intro h; have := Hl.out; rw [List.map_eq_nil_iff.1 h] at this; cases this) (fun w' hS j v hv => ((show Below _ w1 w' from hS).cell (p := ⟨w.heap.size, 0 + j, none⟩) hlt).trans (hrow j v hv)) h3 (by kernel_rfl) ?_
  (try simp only [Act.put, List.setIfInBounds_toArray, List.set_cons_zero, List.set_cons_succ])
  refine Ord.e_x rfl (by kernel_rfl) ?_
  go_wp2_with fail
  go_fit (values_any xs w3 Hl.out)
  rw [← HV.out]
  rintro e w4 ⟨Av, nv, cv, rfl, hown, hb34⟩
  have h4 := h3.trans (hb34.mono h3.size)
  have hrf4 := hrf.up hb34
  have hrd := Rd.own hown
  have hle34 := hb34.size
  obtain rfl : nv = 33 := by have h := hown.1; simp at h; have := Hvl.out; omega
  clear h2 h3 hb23 hb34 hown hrf
  go_wp2_with fail
  refine Ord.Seg.go h4 (fun h => by cases h) ?_
  (try simp only [Act.put, List.setIfInBounds_toArray, List.set_cons_zero, List.set_cons_succ])
  refine Ord.e_x rfl (by kernel_rfl) ?_
  go_wp2_with fail
  go_fit (shPut_any Af nf cf w3.heap.size pvtF Av 33 cv w4.heap.size vs w4 hrf4 hle34 hrd (Nat.le_refl _) (by omega) Hvb.out)
  rw [← HoE.out, ← HoP.out]
  rintro e w5 ⟨Ap, np, cp, rfl, hown5, hb45⟩
  have h5 := h4.trans (hb45.mono h4.size)
  have hbf := hb1.trans (h5.mono hb1.size)
  have hown6 := own_mono hown5 (base' := w.heap.size) (by have := h4.size; have := hb1.size; omega)
  clear hrd hrf4 hown5 h4 hb45 hrow hle34
  go_wp2_with fail
  refine Ord.Seg.go h5 (fun h => by cases h) ?_
  (try simp only [Act.put, List.setIfInBounds_toArray, List.set_cons_zero, List.set_cons_succ])
  ((with_reducible refine Ord.e_p (v := ?_) ?_ ?_ ?_ ?_); rotate_left; (· exact rfl); (· kernel_rfl); (· intro w2; go_simp; try with_reducible rfl))
  (try simp only [Act.put, List.setIfInBounds_toArray, List.set_cons_zero, List.set_cons_succ])
  ((with_reducible refine Ord.e_p (v := ?_) ?_ ?_ ?_ ?_); rotate_left; (· exact rfl); (· kernel_rfl); (· intro w2; go_simp; try with_reducible rfl))
  (try simp only [Act.put, List.setIfInBounds_toArray, List.set_cons_zero, List.set_cons_succ])
  ((with_reducible refine Ord.e_p (v := ?_) ?_ ?_ ?_ ?_); rotate_left; (· exact rfl); (· kernel_rfl); (· intro w2; go_simp; try with_reducible rfl))
  (try simp only [Act.put, List.setIfInBounds_toArray, List.set_cons_zero, List.set_cons_succ])
  ((with_reducible refine Ord.e_p (v := ?_) ?_ ?_ ?_ ?_); rotate_left; (· exact rfl); (· kernel_rfl); (· intro w2; go_simp; try with_reducible rfl))
  (try simp only [Act.put, List.setIfInBounds_toArray, List.set_cons_zero, List.set_cons_succ])
  refine Ord.e_nil ?_
  clear h5
  go_wp2
  go_ret2
  exact ⟨Ap, np, cp, rfl, hown6, hbf⟩

set_option maxRecDepth 100000 in
set_option maxHeartbeats 4000000 in
theorem pvtTake_any (A : Option Addr) (n c B : Nat) (b : List UInt8) (w : World) (h' : Rd w B 1 A n c (bv b)) (hB : B ≤ w.heap.size) (hn : n ≤ 1000000000) :
    Calls Tryz.prog 114 #[.slice A n c] w (RetPT b w) := by
  obtain ⟨oE, hoE⟩ : ∃ oE, oE = shTE pvtF b := ⟨_, rfl⟩
  obtain ⟨oT, hoT⟩ : ∃ oT, oT = ptake b := ⟨_, rfl⟩
  unfold RetPT
  rw [← hoE, ← hoT]
  have HoE := Lib.hid hoE
  have HoT := Lib.hid hoT
  clear hoE hoT
  have hb1 : Below w.heap.size w (w.alloc (.cells #[.int .i64 0, .int .i64 0, .int .i64 0, .int .i64 0, .int .i64 0, .int .i64 0, .int .i64 0, .int .i64 0, .int .i64 0, .int .i64 0, .int .i64 0, .int .i64 0, .int .i64 0, .int .i64 0, .int .i64 0, .int .i64 0, .int .i64 0, .int .i64 0, .int .i64 0, .int .i64 0, .int .i64 0, .int .i64 0, .int .i64 0, .int .i64 0, .int .i64 0, .int .i64 0, .int .i64 0, .int .i64 0, .int .i64 0, .int .i64 0, .int .i64 0, .int .i64 0] 23)) := (Below.refl _ _).alloc (Nat.le_refl _) _
  have hres := heap_alloc_new w (.cells #[.int .i64 0, .int .i64 0, .int .i64 0, .int .i64 0, .int .i64 0, .int .i64 0, .int .i64 0, .int .i64 0, .int .i64 0, .int .i64 0, .int .i64 0, .int .i64 0, .int .i64 0, .int .i64 0, .int .i64 0, .int .i64 0, .int .i64 0, .int .i64 0, .int .i64 0, .int .i64 0, .int .i64 0, .int .i64 0, .int .i64 0, .int .i64 0, .int .i64 0, .int .i64 0, .int .i64 0, .int .i64 0, .int .i64 0, .int .i64 0, .int .i64 0, .int .i64 0] 23)
  have fin : ∀ (w9 : World) (x : List Int), w9.heap[w.heap.size]? = some (.cells (pvC x) 23) → x.length = 32 → Below w.heap.size w w9 → ∀ (tmps : Array Value), tmps.getD 2 undef = .pointer (some ⟨w.heap.size, 0, none⟩) → ∀ b : Int, tmps.getD 3 undef = .int .i64 b → oT = x → (oE : Int) = b →
      bodyPost Tryz.prog Tryz.f114 (fun e w' => e = .returned (.tuple #[.agg (pvC oT), .int .i64 oE]) ∧ Below w.heap.size w w') Exit.ret { tmps := tmps, defers := [] } w9 := by
    intro w9 x h1 hx h2 tmps ht b hb3 e1 e2
    subst e1; subst e2
    have hr := results_cell2 (P := Tryz.prog) Tryz.results114 tmps w9 w.heap.size 23 _ (0, 0) _ ht h1 Tryz.underlying23 rfl (by rw [pvC_size, hx, pvt_size])
    rw [hb3] at hr
    exact bodyPost_ret hr rfl ⟨rfl, h2⟩
  have Fin := Lib.hid fin
  clear fin
  go_enter Tryz.func114, Tryz.ntmps114
  go_wp2_with fail
  generalize (w.alloc (.cells #[.int .i64 0, .int .i64 0, .int .i64 0, .int .i64 0, .int .i64 0, .int .i64 0, .int .i64 0, .int .i64 0, .int .i64 0, .int .i64 0, .int .i64 0, .int .i64 0, .int .i64 0, .int .i64 0, .int .i64 0, .int .i64 0, .int .i64 0, .int .i64 0, .int .i64 0, .int .i64 0, .int .i64 0, .int .i64 0, .int .i64 0, .int .i64 0, .int .i64 0, .int .i64 0, .int .i64 0, .int .i64 0, .int .i64 0, .int .i64 0, .int .i64 0, .int .i64 0] 23)) = w1 at *
  have hlt := blk_lt hres
  go_fit (pvtShape_any w1)
  rintro e w2 ⟨Af, nf, cf, rfl, hnf, hrf, hb12⟩
  have hb2 := bnx hb1 hb12
  replace hres := blk_old hres hb12 hlt
  go_wp2_with fail
  go_fit (shTake_any Af nf cf w2.heap.size pvtF A n c B b w2 hrf (Nat.le_refl _) (h'.up (hb2.mono hB)) (Nat.le_trans hB hb2.size) (by omega) (by omega))
  rw [← HoE.out]
  rintro e w3 ⟨At, nt, ct, rfl, hown, hb23⟩
  have hb3 := bnx hb2 hb23
  replace hres := blk_old hres hb23 (by have := hb12.size; omega)
  clear hb1 hb12 hb2 hb23 hrf hlt
  by_cases he : oE = 0
  · have hte : shTE pvtF b = 0 := by rw [← HoE.out]; exact he
    have hof := of_any At nt ct w3.heap.size (shT pvtF b) w3 (Rd.own hown) (Nat.le_refl _)
    unfold RetM at hof
    rw [ptake_pof hte, ← HoT.out, shT_ok hte] at hof
    have Hof := Lib.hid hof
    have HtL : Hid (oT.length = 32) := Lib.hid (by rw [HoT.out, ptake_len])
    subst he
    clear hof hte hown
    go_wp2_with (first | (with_reducible refine stop_loadT 23 ?_) | (with_reducible refine stop_storeT 23 ?_))
    go_fit Hof.out
    rintro e w4 ⟨rfl, hb34⟩
    have hb4 := bnx hb3 hb34
    replace hres := blk_old hres hb34 (blk_lt hres)
    have q1 := heap_alloc_new w4 (.cells #[.int .i64 0, .int .i64 0, .int .i64 0, .int .i64 0, .int .i64 0, .int .i64 0, .int .i64 0, .int .i64 0, .int .i64 0, .int .i64 0, .int .i64 0, .int .i64 0, .int .i64 0, .int .i64 0, .int .i64 0, .int .i64 0, .int .i64 0, .int .i64 0, .int .i64 0, .int .i64 0, .int .i64 0, .int .i64 0, .int .i64 0, .int .i64 0, .int .i64 0, .int .i64 0, .int .i64 0, .int .i64 0, .int .i64 0, .int .i64 0, .int .i64 0, .int .i64 0] 23)
    have hb5 := hb4.alloc hb4.size (.cells #[.int .i64 0, .int .i64 0, .int .i64 0, .int .i64 0, .int .i64 0, .int .i64 0, .int .i64 0, .int .i64 0, .int .i64 0, .int .i64 0, .int .i64 0, .int .i64 0, .int .i64 0, .int .i64 0, .int .i64 0, .int .i64 0, .int .i64 0, .int .i64 0, .int .i64 0, .int .i64 0, .int .i64 0, .int .i64 0, .int .i64 0, .int .i64 0, .int .i64 0, .int .i64 0, .int .i64 0, .int .i64 0, .int .i64 0, .int .i64 0, .int .i64 0, .int .i64 0] 23)
    have hne : w4.heap.size ≠ w.heap.size := by have := blk_lt hres; omega
    replace hres := (heap_alloc_old w4 (.cells #[.int .i64 0, .int .i64 0, .int .i64 0, .int .i64 0, .int .i64 0, .int .i64 0, .int .i64 0, .int .i64 0, .int .i64 0, .int .i64 0, .int .i64 0, .int .i64 0, .int .i64 0, .int .i64 0, .int .i64 0, .int .i64 0, .int .i64 0, .int .i64 0, .int .i64 0, .int .i64 0, .int .i64 0, .int .i64 0, .int .i64 0, .int .i64 0, .int .i64 0, .int .i64 0, .int .i64 0, .int .i64 0, .int .i64 0, .int .i64 0, .int .i64 0, .int .i64 0] 23) (blk_lt hres)).trans hres
    have hge := hb4.size
    clear hb3 hb34 hb4
    go_wp2_with (first | (with_reducible refine stop_loadT 23 ?_) | (with_reducible refine stop_storeT 23 ?_))
    generalize (w4.alloc (.cells #[.int .i64 0, .int .i64 0, .int .i64 0, .int .i64 0, .int .i64 0, .int .i64 0, .int .i64 0, .int .i64 0, .int .i64 0, .int .i64 0, .int .i64 0, .int .i64 0, .int .i64 0, .int .i64 0, .int .i64 0, .int .i64 0, .int .i64 0, .int .i64 0, .int .i64 0, .int .i64 0, .int .i64 0, .int .i64 0, .int .i64 0, .int .i64 0, .int .i64 0, .int .i64 0, .int .i64 0, .int .i64 0, .int .i64 0, .int .i64 0, .int .i64 0, .int .i64 0] 23)) = w5 at *
    refine go_ (wpList_store_row rfl _ _ _ rfl w4.heap.size (pvC oT) rfl rfl _ _ q1 (by rw [pvC_size, HtL.out, pvt_size]) (by rw [pvC_size, HtL.out]; rfl) (pvC_one _) ?_)
    have hb6 := below_setRow hb5 hge (pvC oT)
    have q2 := setRow_heap _ _ _ (pvC oT) _ _ q1
    have hres6 : (w5.setRow w4.heap.size (pvC oT)).heap[w.heap.size]? = _ := ((below_setRow (Below.refl (w.heap.size + 1) w5) (show w.heap.size + 1 ≤ w4.heap.size by omega) (pvC oT)).block w.heap.size (by omega)).trans hres
    generalize (w5.setRow w4.heap.size (pvC oT)) = w6 at *
    clear q1 hb5 hres
    go_wp2_with (first | (with_reducible refine stop_loadT 23 ?_) | (with_reducible refine stop_storeT 23 ?_))
    refine go_ (wpList_load_row rfl _ _ rfl w4.heap.size rfl _ _ _ _ q2 Tryz.underlying23 rfl (by rw [pvC_size, HtL.out, pvt_size]) ?_)
    go_wp2_with (first | (with_reducible refine stop_loadT 23 ?_) | (with_reducible refine stop_storeT 23 ?_))
    refine go_ (wpList_store_row rfl _ _ _ rfl w.heap.size (pvC oT) rfl rfl _ _ hres6 (by rw [pvC_size, HtL.out, pvt_size]) (by rw [pvC_size, HtL.out]; rfl) (pvC_one _) ?_)
    have hb7 := below_setRow hb6 (Nat.le_refl _) (pvC oT)
    have hres7 := setRow_heap _ _ _ (pvC oT) _ _ hres6
    generalize (w6.setRow w.heap.size (pvC oT)) = w7 at *
    go_wp2
    exact Fin.out _ _ hres7 HtL.out hb7 _ rfl _ rfl rfl rfl
  · have he' : ¬ (oE : Int) = 0 := by omega
    have hT : Hid (oT = pz) := Lib.hid (by rw [HoT.out]; exact ptake_none (by rw [← HoE.out]; exact he))
    clear hown
    go_wp2_with (first | (with_reducible refine stop_loadT 23 ?_) | (with_reducible refine stop_storeT 23 ?_))
    refine go_ (wpList_store_row rfl _ _ _ rfl w.heap.size (pvC pz) rfl rfl _ _ hres (by kernel_rfl) rfl (by kernel_rfl) ?_)
    have hb5 := below_setRow hb3 (Nat.le_refl _) (pvC pz)
    have hres5 := setRow_heap _ _ _ (pvC pz) _ _ hres
    generalize (w3.setRow w.heap.size (pvC pz)) = w5 at *
    go_wp2
    exact Fin.out _ _ hres5 rfl hb5 _ rfl _ rfl hT.out rfl

end Go.Proofs.YtmkidihcdljkiaaGreat
