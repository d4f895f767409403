/-
  The document's Put of layer 17 walked (printed by gen_sats4.py).
-/
import Derived.Test.YtmkidihcdljkiaaGreatKPSats3
import Derived.Test.YtmkidihcdljkiaaGreatKPGA
set_option linter.unusedSimpArgs false
set_option linter.unusedVariables false
namespace Go.Proofs.YtmkidihcdljkiaaGreat
open Go.RowKit NumLaw
attribute [local go_sem] Addr.add_mid

theorem satsEL_at {l : List (List Int)} {k : Nat} {s : List Int} (hk : l[k]? = some s) (h : ∀ x ∈ l.take k, shE satF x = 0) (hs : shE satF s ≠ 0) : satsEL l = shE satF s := by
  have hlt : k < l.length := (List.getElem?_eq_some_iff.1 hk).1
  refine satsEL_first l (l.take k) s (l.drop (k + 1)) ?_ h hs
  have h1 : l.drop k = s :: l.drop (k + 1) := by
    rw [List.drop_eq_getElem_cons hlt]
    congr 1
    rw [List.getElem?_eq_getElem hlt] at hk
    injection hk
  rw [← h1, List.take_append_drop]
set_option maxRecDepth 10000 in
set_option maxHeartbeats 8000000 in
theorem qsatsPut_any (t : Int) (A : Option Addr) (n c : Nat) (l : List (List Int)) (w : World) (hr : RdR w w.heap.size 7 A n c (l.map saC)) (hlen : ∀ s ∈ l, s.length = 7) :
    Calls Tryz.prog 24 #[.agg #[.int .i64 t, .slice A n c]] w (RetPS w (satsP t l) (satsE t l)) := by
  have hll : l.length = n := by have := hr.1; simpa using this
  have hle := hr.2.2.1
  have hmx := hr.2.2.2.1
  unfold maxLen at hmx
  obtain ⟨i0, hi⟩ := info_parts u8_info
  have Hi := Lib.hid hi
  have Hll := Lib.hid hll
  have Hlen := Lib.hid hlen
  clear hi hlen
  have hb1 : Below w.heap.size w (w.alloc (.cells #[.int .i64 t, .slice A n c] 26)) := (Below.refl _ _).alloc (Nat.le_refl _) _
  have hbox := heap_alloc_new w (.cells #[.int .i64 t, .slice A n c] 26)
  have c0 : (w.alloc (.cells #[.int .i64 t, .slice A n c] 26)).cell? ⟨w.heap.size, 0, none⟩ = some (.int .i64 t) := blk_cell hbox rfl
  have c1 : (w.alloc (.cells #[.int .i64 t, .slice A n c] 26)).cell? ⟨w.heap.size, 1, none⟩ = some (.slice A n c) := blk_cell hbox rfl
  by_cases h64 : 64 < n
  · have hE : satsE t l = 7 := by unfold satsE; rw [if_pos (by omega)]
    rw [show satsP t l = [] by unfold satsP; rw [hE]; rfl, hE]
    clear hE hll
    go_enter Tryz.func24, Tryz.ntmps24
    go_wp2
    go_ret2
    exact ⟨none, 0, 0, rfl, World.ownsRow_nil _ _ _ _, hb1⟩
  obtain ⟨oP, hoP⟩ : ∃ p, p = satsP t l := ⟨_, rfl⟩
  obtain ⟨oE, hoE⟩ : ∃ p, p = satsE t l := ⟨_, rfl⟩
  rw [← hoP, ← hoE]
  have hEE : oE = if shE headF (hdV t l) = 0 then satsEL l else shE headF (hdV t l) := by rw [hoE]; unfold satsE; rw [if_neg (by omega)]
  have hlv : hdV t l = [t, 1, (n : Int), 0] := by unfold hdV; rw [hll]
  have HoP := Lib.hid hoP
  have HoE := Lib.hid hoE
  have HEE := Lib.hid hEE
  have Hlv := Lib.hid hlv
  obtain ⟨qP, hqP⟩ : ∃ p, p = shP headF (hdV t l) := ⟨_, rfl⟩
  obtain ⟨qE, hqE⟩ : ∃ p, p = shE headF (hdV t l) := ⟨_, rfl⟩
  have HqP := Lib.hid hqP
  have HqE := Lib.hid hqE
  clear hoP hoE hEE hlv hll hqP hqE
  go_enter Tryz.func24, Tryz.ntmps24
  go_wp2_with fail
  generalize (w.alloc (.cells #[.int .i64 t, .slice A n c] 26)) = w1 at *
  have hlt := blk_lt hbox
  clear hbox
  refine Ord.region_m [0, 6] [[0, 1, 2, 3, 4, 5, 6, 7, 8, 9, 10, 11, 12], [1, 2, 3, 4, 5, 6, 0, 7, 8, 9, 10, 11, 12]] (fun w' => Below w1.heap.size w1 w') false [] (by kernel_rfl) (by kernel_rfl) ((Below.refl _ _).drew) ?_
  have h2 : Below w1.heap.size w1 w1.drew := (Below.refl _ _).drew
  generalize w1.drew = w2 at *
  intro L hL
  simp only [List.mem_cons, List.not_mem_nil, or_false] at hL
  rcases hL with rfl | rfl
  · simp only [Ord.lst, List.filterMap_cons, List.filterMap_nil, List.getElem?_toArray, List.getElem?_cons_succ, List.getElem?_cons_zero]
    refine Ord.e_x rfl (by kernel_rfl) ?_
    go_wp2_with fail
    go_fit (qsatsHead_any w2)
    rintro e w3 ⟨Af, nf, cf, rfl, hnf, hrf, hbf⟩
    have h3 := h2.trans (hbf.mono h2.size)
    go_wp2_with fail
    refine Ord.Seg.go h3 (fun h => by cases h) ?_
    (try simp only [Act.put, List.setIfInBounds_toArray, List.set_cons_zero, List.set_cons_succ])
    ((with_reducible refine Ord.e_p (v := ?_) ?_ ?_ ?_ ?_); rotate_left; (· exact rfl); (· kernel_rfl); (· intro w2; go_simp; try with_reducible rfl))
    (try simp only [Act.put, List.setIfInBounds_toArray, List.set_cons_zero, List.set_cons_succ])
    refine Ord.e_loadS Tryz.underlying2 rfl (fun w' hS => ((show Below _ w1 w' from hS).cell (p := ⟨w.heap.size, 0, none⟩) hlt).trans c0) h3 rfl (by kernel_rfl) ?_
    (try simp only [Act.put, List.setIfInBounds_toArray, List.set_cons_zero, List.set_cons_succ])
    ((with_reducible refine Ord.e_p (v := ?_) ?_ ?_ ?_ ?_); rotate_left; (· exact rfl); (· kernel_rfl); (· intro w2; go_simp; try with_reducible rfl))
    (try simp only [Act.put, List.setIfInBounds_toArray, List.set_cons_zero, List.set_cons_succ])
    refine Ord.e_loadS Tryz.underlying24 rfl (fun w' hS => ((show Below _ w1 w' from hS).cell (p := ⟨w.heap.size, 1, none⟩) hlt).trans c1) h3 rfl (by kernel_rfl) ?_
    (try simp only [Act.put, List.setIfInBounds_toArray, List.set_cons_zero, List.set_cons_succ])
    ((with_reducible refine Ord.e_p (v := ?_) ?_ ?_ ?_ ?_); rotate_left; (· exact rfl); (· kernel_rfl); (· intro w2; go_simp; try with_reducible rfl))
    (try simp only [Act.put, List.setIfInBounds_toArray, List.set_cons_zero, List.set_cons_succ])
    refine Ord.e_x rfl (by kernel_rfl) ?_
    go_wp2
    have hrn : Rd (w3.alloc (.cells #[.int .i64 t, .int .i64 1, .int .i64 n, .int .i64 0] 2)) (w3.heap.size + 1) 1 (some ⟨w3.heap.size, 0, none⟩) 4 4 ([t, 1, (n : Int), 0].map (Value.int .i64)) := rd_lit' w3 2 [.int .i64 t, .int .i64 1, .int .i64 n, .int .i64 0] (by simp [maxLen])
    have hbn : Below w3.heap.size w3 (w3.alloc (.cells #[.int .i64 t, .int .i64 1, .int .i64 n, .int .i64 0] 2)) := (Below.refl _ _).alloc (Nat.le_refl _) _
    have hsn : (w3.alloc (.cells #[.int .i64 t, .int .i64 1, .int .i64 n, .int .i64 0] 2)).heap.size = w3.heap.size + 1 := World.size_alloc _ _
    have h4 := h3.trans (hbn.mono h3.size)
    refine Ord.Seg.go h4 (fun h => by cases h) ?_
    (try simp only [Act.put, List.setIfInBounds_toArray, List.set_cons_zero, List.set_cons_succ])
    generalize (w3.alloc (.cells #[.int .i64 t, .int .i64 1, .int .i64 n, .int .i64 0] 2)) = w4 at *
    have Hsn := Lib.hid hsn
    clear hsn
    have hrf' := hrf.up hbn
    have hrn' := hrn
    have hsz := hbn.size
    clear hbf hbn hrf hrn
    refine Ord.e_x rfl (by kernel_rfl) ?_
    go_wp2_with fail
    go_fit (qPut14_any Af nf cf w3.heap.size headF (some ⟨w3.heap.size, 0, none⟩) 4 4 (w3.heap.size + 1) [t, 1, (n : Int), 0] w4 hrf' hsz hrn' (by rw [Hsn.out]; omega) (by omega))
    clear hsz
    rw [← Hlv.out, ← HqP.out, ← HqE.out]
    rintro e w5 ⟨Ap, np, cp, rfl, hown, hb45⟩
    have h5 := h4.trans (hb45.mono h4.size)
    have hbf5 := hb1.trans (h5.mono hb1.size)
    have hown' := own_mono hown (base' := w1.heap.size) h4.size
    go_wp2_with fail
    refine Ord.Seg.go h5 (fun h => by cases h) ?_
    (try simp only [Act.put, List.setIfInBounds_toArray, List.set_cons_zero, List.set_cons_succ])
    ((with_reducible refine Ord.e_p (v := ?_) ?_ ?_ ?_ ?_); rotate_left; (· exact rfl); (· kernel_rfl); (· intro w2; go_simp; try with_reducible rfl))
    (try simp only [Act.put, List.setIfInBounds_toArray, List.set_cons_zero, List.set_cons_succ])
    ((with_reducible refine Ord.e_p (v := ?_) ?_ ?_ ?_ ?_); rotate_left; (· exact rfl); (· kernel_rfl); (· intro w2; go_simp; try with_reducible rfl))
    (try simp only [Act.put, List.setIfInBounds_toArray, List.set_cons_zero, List.set_cons_succ])
    ((with_reducible refine Ord.e_p (v := ?_) ?_ ?_ ?_ ?_); rotate_left; (· exact rfl); (· kernel_rfl); (· intro w2; go_simp; try with_reducible rfl))
    (try simp only [Act.put, List.setIfInBounds_toArray, List.set_cons_zero, List.set_cons_succ])
    ((with_reducible refine Ord.e_p (v := ?_) ?_ ?_ ?_ ?_); rotate_left; (· exact rfl); (· kernel_rfl); (· intro w2; go_simp; try with_reducible rfl))
    (try simp only [Act.put, List.setIfInBounds_toArray, List.set_cons_zero, List.set_cons_succ])
    ((with_reducible refine Ord.e_p (v := ?_) ?_ ?_ ?_ ?_); rotate_left; (· exact rfl); (· kernel_rfl); (· intro w2; go_simp; try with_reducible rfl))
    (try simp only [Act.put, List.setIfInBounds_toArray, List.set_cons_zero, List.set_cons_succ])
    refine Ord.e_nil ?_
    clear h2 h3 h4 hb45 hown hrn' hrf'
    by_cases hq : qE = 0
    · have HQ : Hid (qE = 0) := Lib.hid hq
      have hlp : np = 8 := by rw [← own_len hown', HqP.out, shP_len headF_right (by rw [← HqE.out]; exact hq), headF_sum]
      subst hlp
      subst hq
      rw [show ((0 : Nat) : Int) = 0 from rfl]
      go_wp2_with fail
      go_loopw [4, 6] (fun s i wr => ∃ (k m : Nat) (A2 : Option Addr) (c2 : Nat), k ≤ n ∧ i = .int .i64 k ∧ s = .slice A2 m c2 ∧ m ≤ 8 + 12 * k ∧ wr.ownsRow w1.heap.size 5 1 (.slice A2 m c2) m (bv (qP ++ (l.take k).flatMap (shP satF))) ∧ Below w1.heap.size w1 wr ∧ Hid (∀ s ∈ l.take k, shE satF s = 0)) (fun _ i _ => n - (intOf i).toNat)
      case atStart => exact ⟨0, 8, Ap, cp, by omega, rfl, rfl, by omega, by simpa using hown', h5, Lib.hid (by simp)⟩
      case round =>
        clear hown' h5 hbf5 w5
        obtain ⟨k, m, A2, c2, hk, rfl, rfl, hm, hown, hb, hall⟩ := hrel
        have hbw := hb1.trans (hb.mono hb1.size)
        have d1 := (hb.cell (p := ⟨w.heap.size, 1, none⟩) hlt).trans c1
        by_cases hlt2 : k < n
        · obtain ⟨g1, off, rr, hA, hg1, hx, hrl, hrow⟩ := hr.at_ hlt2
          obtain ⟨s, hs, rfl⟩ : ∃ s, l[k]? = some s ∧ saC s = rr := by simpa using hx
          have hs7 := Hlen.out s (List.mem_of_getElem? hs)
          have hts : l.take (k + 1) = l.take k ++ [s] := take_succ hs
          have hfirst : shE satF s ≠ 0 → satsEL l = shE satF s := fun h => satsEL_at hs hall.out h
          obtain ⟨sP, hsP⟩ : ∃ p, p = shP satF s := ⟨_, rfl⟩
          obtain ⟨sE, hsE⟩ : ∃ p, p = shE satF s := ⟨_, rfl⟩
          have hl12 : sP.length ≤ 12 := by
            rw [hsP]
            by_cases h0 : shE satF s = 0
            · rw [shP_len satF_right h0, satF_sum]; exact Nat.le_refl _
            · rw [shP_none h0]; simp
          rw [← hsE] at hfirst
          have Hts : Hid ((l.take (k + 1)).flatMap (shP satF) = (l.take k).flatMap (shP satF) ++ sP ∧ (sE = 0 → ∀ x ∈ l.take (k + 1), shE satF x = 0)) := Lib.hid ⟨by rw [hts, List.flatMap_append, hsP]; simp, fun h0 x hx => by
            rw [hts] at hx
            rcases List.mem_append.1 hx with hx | hx
            · exact hall.out x hx
            · simp at hx; rw [hx, ← hsE]; exact h0⟩
          obtain ⟨x0, x1, x2, x3, x4, x5, x6, rfl⟩ := len7 s hs7
          have q0 : wr.cell? ⟨g1, off + k * 7, none⟩ = some (.int .i64 x0) := (hbw.cell (p := ⟨g1, off + k * 7 + 0, none⟩) hg1).trans (hrow 0 _ rfl)
          have q1 : wr.cell? ⟨g1, off + k * 7 + 1, none⟩ = some (.int .i64 x1) := (hbw.cell (p := ⟨g1, off + k * 7 + 1, none⟩) hg1).trans (hrow 1 _ rfl)
          have q2 : wr.cell? ⟨g1, off + k * 7 + 2, none⟩ = some (.int .i64 x2) := (hbw.cell (p := ⟨g1, off + k * 7 + 2, none⟩) hg1).trans (hrow 2 _ rfl)
          have q3 : wr.cell? ⟨g1, off + k * 7 + 3, none⟩ = some (.int .i64 x3) := (hbw.cell (p := ⟨g1, off + k * 7 + 3, none⟩) hg1).trans (hrow 3 _ rfl)
          have q4 : wr.cell? ⟨g1, off + k * 7 + 4, none⟩ = some (.int .i64 x4) := (hbw.cell (p := ⟨g1, off + k * 7 + 4, none⟩) hg1).trans (hrow 4 _ rfl)
          have q5 : wr.cell? ⟨g1, off + k * 7 + 5, none⟩ = some (.int .i64 x5) := (hbw.cell (p := ⟨g1, off + k * 7 + 5, none⟩) hg1).trans (hrow 5 _ rfl)
          have q6 : wr.cell? ⟨g1, off + k * 7 + 6, none⟩ = some (.int .i64 x6) := (hbw.cell (p := ⟨g1, off + k * 7 + 6, none⟩) hg1).trans (hrow 6 _ rfl)
          have Hfirst := Lib.hid hfirst
          have HsP := Lib.hid hsP
          have HsE := Lib.hid hsE
          have hbx : Below wr.heap.size wr (wr.alloc (.cells #[.int .i64 x0, .int .i64 x1, .int .i64 x2, .int .i64 x3, .int .i64 x4, .int .i64 x5, .int .i64 x6] 99)) := (Below.refl _ _).alloc (Nat.le_refl _) _
          have hbx1 := hb.alloc hb.size (.cells #[.int .i64 x0, .int .i64 x1, .int .i64 x2, .int .i64 x3, .int .i64 x4, .int .i64 x5, .int .i64 x6] 99)
          have hsbox := heap_alloc_new wr (.cells #[.int .i64 x0, .int .i64 x1, .int .i64 x2, .int .i64 x3, .int .i64 x4, .int .i64 x5, .int .i64 x6] 99)
          clear hs hx hrow hrl hs7 hts hfirst hsP hsE
          subst hA
          go_wp2_with fail
          clear q0 q1 q2 q3 q4 q5 q6 d1
          have hown1 := own_up hown hbx (Nat.le_refl _)
          generalize (wr.alloc (.cells #[.int .i64 x0, .int .i64 x1, .int .i64 x2, .int .i64 x3, .int .i64 x4, .int .i64 x5, .int .i64 x6] 99)) = v1 at *
          have z0 := blk_cell (i := 0) (v := .int .i64 x0) hsbox rfl
          have z1 := blk_cell (i := 1) (v := .int .i64 x1) hsbox rfl
          have z2 := blk_cell (i := 2) (v := .int .i64 x2) hsbox rfl
          have z3 := blk_cell (i := 3) (v := .int .i64 x3) hsbox rfl
          have z4 := blk_cell (i := 4) (v := .int .i64 x4) hsbox rfl
          have z5 := blk_cell (i := 5) (v := .int .i64 x5) hsbox rfl
          have z6 := blk_cell (i := 6) (v := .int .i64 x6) hsbox rfl
          have hltv := blk_lt hsbox
          generalize wr.heap.size = gv at *
          refine Ord.region_m [0, 15] [[0, 1, 2, 3, 4, 5, 6, 7, 8, 9, 10, 11, 12, 13, 14, 15, 16, 17, 18, 19, 20, 21], [1, 2, 3, 4, 5, 6, 7, 8, 9, 10, 11, 12, 13, 14, 15, 0, 16, 17, 18, 19, 20, 21]] (fun w' => Below v1.heap.size v1 w') false [] (by kernel_rfl) (by kernel_rfl) ((Below.refl _ _).drew) ?_
          have f2 : Below v1.heap.size v1 v1.drew := (Below.refl _ _).drew
          generalize v1.drew = v2 at *
          clear hsbox hbx hb hown hbw
          intro L hL
          simp only [List.mem_cons, List.not_mem_nil, or_false] at hL
          rcases hL with rfl | rfl
          · simp only [Ord.lst, List.filterMap_cons, List.filterMap_nil, List.getElem?_toArray, List.getElem?_cons_succ, List.getElem?_cons_zero]
            refine Ord.e_x rfl (by kernel_rfl) ?_
            go_wp2_with fail
            go_fit (qsatsShape_any v2)
            rintro e v3 ⟨Af2, nf2, cf2, rfl, hnf2, hrf2, hbf2⟩
            have f3 := f2.trans (hbf2.mono f2.size)
            go_wp2_with fail
            refine Ord.Seg.go f3 (fun h => by cases h) ?_
            (try simp only [Act.put, List.setIfInBounds_toArray, List.set_cons_zero, List.set_cons_succ])
            ((with_reducible refine Ord.e_p (v := ?_) ?_ ?_ ?_ ?_); rotate_left; (· exact rfl); (· kernel_rfl); (· intro w2; go_simp; try with_reducible rfl))
            (try simp only [Act.put, List.setIfInBounds_toArray, List.set_cons_zero, List.set_cons_succ])
            refine Ord.e_loadS Tryz.underlying2 rfl (fun w' hS => ((show Below _ v1 w' from hS).cell (p := ⟨gv, 0, none⟩) hltv).trans z0) f3 rfl (by kernel_rfl) ?_
            (try simp only [Act.put, List.setIfInBounds_toArray, List.set_cons_zero, List.set_cons_succ])
            ((with_reducible refine Ord.e_p (v := ?_) ?_ ?_ ?_ ?_); rotate_left; (· exact rfl); (· kernel_rfl); (· intro w2; go_simp; try with_reducible rfl))
            (try simp only [Act.put, List.setIfInBounds_toArray, List.set_cons_zero, List.set_cons_succ])
            refine Ord.e_loadS Tryz.underlying2 rfl (fun w' hS => ((show Below _ v1 w' from hS).cell (p := ⟨gv, 1, none⟩) hltv).trans z1) f3 rfl (by kernel_rfl) ?_
            (try simp only [Act.put, List.setIfInBounds_toArray, List.set_cons_zero, List.set_cons_succ])
            ((with_reducible refine Ord.e_p (v := ?_) ?_ ?_ ?_ ?_); rotate_left; (· exact rfl); (· kernel_rfl); (· intro w2; go_simp; try with_reducible rfl))
            (try simp only [Act.put, List.setIfInBounds_toArray, List.set_cons_zero, List.set_cons_succ])
            refine Ord.e_loadS Tryz.underlying2 rfl (fun w' hS => ((show Below _ v1 w' from hS).cell (p := ⟨gv, 2, none⟩) hltv).trans z2) f3 rfl (by kernel_rfl) ?_
            (try simp only [Act.put, List.setIfInBounds_toArray, List.set_cons_zero, List.set_cons_succ])
            ((with_reducible refine Ord.e_p (v := ?_) ?_ ?_ ?_ ?_); rotate_left; (· exact rfl); (· kernel_rfl); (· intro w2; go_simp; try with_reducible rfl))
            (try simp only [Act.put, List.setIfInBounds_toArray, List.set_cons_zero, List.set_cons_succ])
            refine Ord.e_loadS Tryz.underlying2 rfl (fun w' hS => ((show Below _ v1 w' from hS).cell (p := ⟨gv, 3, none⟩) hltv).trans z3) f3 rfl (by kernel_rfl) ?_
            (try simp only [Act.put, List.setIfInBounds_toArray, List.set_cons_zero, List.set_cons_succ])
            ((with_reducible refine Ord.e_p (v := ?_) ?_ ?_ ?_ ?_); rotate_left; (· exact rfl); (· kernel_rfl); (· intro w2; go_simp; try with_reducible rfl))
            (try simp only [Act.put, List.setIfInBounds_toArray, List.set_cons_zero, List.set_cons_succ])
            refine Ord.e_loadS Tryz.underlying2 rfl (fun w' hS => ((show Below _ v1 w' from hS).cell (p := ⟨gv, 4, none⟩) hltv).trans z4) f3 rfl (by kernel_rfl) ?_
            (try simp only [Act.put, List.setIfInBounds_toArray, List.set_cons_zero, List.set_cons_succ])
            ((with_reducible refine Ord.e_p (v := ?_) ?_ ?_ ?_ ?_); rotate_left; (· exact rfl); (· kernel_rfl); (· intro w2; go_simp; try with_reducible rfl))
            (try simp only [Act.put, List.setIfInBounds_toArray, List.set_cons_zero, List.set_cons_succ])
            refine Ord.e_loadS Tryz.underlying2 rfl (fun w' hS => ((show Below _ v1 w' from hS).cell (p := ⟨gv, 5, none⟩) hltv).trans z5) f3 rfl (by kernel_rfl) ?_
            (try simp only [Act.put, List.setIfInBounds_toArray, List.set_cons_zero, List.set_cons_succ])
            ((with_reducible refine Ord.e_p (v := ?_) ?_ ?_ ?_ ?_); rotate_left; (· exact rfl); (· kernel_rfl); (· intro w2; go_simp; try with_reducible rfl))
            (try simp only [Act.put, List.setIfInBounds_toArray, List.set_cons_zero, List.set_cons_succ])
            refine Ord.e_loadS Tryz.underlying2 rfl (fun w' hS => ((show Below _ v1 w' from hS).cell (p := ⟨gv, 6, none⟩) hltv).trans z6) f3 rfl (by kernel_rfl) ?_
            (try simp only [Act.put, List.setIfInBounds_toArray, List.set_cons_zero, List.set_cons_succ])
            refine Ord.e_x rfl (by kernel_rfl) ?_
            go_wp2
            have hrn2 : Rd (v3.alloc (.cells #[.int .i64 x0, .int .i64 x1, .int .i64 x2, .int .i64 x3, .int .i64 x4, .int .i64 x5, .int .i64 x6] 2)) (v3.heap.size + 1) 1 (some ⟨v3.heap.size, 0, none⟩) 7 7 ([x0, x1, x2, x3, x4, x5, x6].map (Value.int .i64)) := rd_lit' v3 2 [.int .i64 x0, .int .i64 x1, .int .i64 x2, .int .i64 x3, .int .i64 x4, .int .i64 x5, .int .i64 x6] (by simp [maxLen])
            have hbn2 : Below v3.heap.size v3 (v3.alloc (.cells #[.int .i64 x0, .int .i64 x1, .int .i64 x2, .int .i64 x3, .int .i64 x4, .int .i64 x5, .int .i64 x6] 2)) := (Below.refl _ _).alloc (Nat.le_refl _) _
            have hsn2 : (v3.alloc (.cells #[.int .i64 x0, .int .i64 x1, .int .i64 x2, .int .i64 x3, .int .i64 x4, .int .i64 x5, .int .i64 x6] 2)).heap.size = v3.heap.size + 1 := World.size_alloc _ _
            have f4 := f3.trans (hbn2.mono f3.size)
            refine Ord.Seg.go f4 (fun h => by cases h) ?_
            (try simp only [Act.put, List.setIfInBounds_toArray, List.set_cons_zero, List.set_cons_succ])
            generalize (v3.alloc (.cells #[.int .i64 x0, .int .i64 x1, .int .i64 x2, .int .i64 x3, .int .i64 x4, .int .i64 x5, .int .i64 x6] 2)) = v4 at *
            have Hsn2 := Lib.hid hsn2
            clear hsn2
            have hrf2' := hrf2.up hbn2
            have hrn2' := hrn2
            have hsz2 := hbn2.size
            clear hbf2 hbn2 hrf2 hrn2
            refine Ord.e_x rfl (by kernel_rfl) ?_
            go_wp2_with fail
            go_fit (qPut14_any Af2 nf2 cf2 v3.heap.size satF (some ⟨v3.heap.size, 0, none⟩) 7 7 (v3.heap.size + 1) [x0, x1, x2, x3, x4, x5, x6] v4 hrf2' hsz2 hrn2' (by rw [Hsn2.out]; omega) (by omega))
            clear hsz2
            rw [← HsP.out, ← HsE.out]
            rintro e v5 ⟨Aq, nq, cq, rfl, hownq, hb5⟩
            have f5 := f4.trans (hb5.mono f4.size)
            have hb6 := hbx1.trans (f5.mono hbx1.size)
            have hown6 := own_up hown1 f5 (Nat.le_refl _)
            have hbf6 := hb1.trans (hb6.mono hb1.size)
            have hrq := Rd.own hownq
            have hlq := own_len hownq
            have hnq : nq ≤ 12 := by omega
            have hcqm := hrq.max
            unfold maxLen at hcqm
            go_wp2_with fail
            refine Ord.Seg.go f5 (fun h => by cases h) ?_
            (try simp only [Act.put, List.setIfInBounds_toArray, List.set_cons_zero, List.set_cons_succ])
            ((with_reducible refine Ord.e_p (v := ?_) ?_ ?_ ?_ ?_); rotate_left; (· exact rfl); (· kernel_rfl); (· intro w2; go_simp; try with_reducible rfl))
            (try simp only [Act.put, List.setIfInBounds_toArray, List.set_cons_zero, List.set_cons_succ])
            ((with_reducible refine Ord.e_p (v := ?_) ?_ ?_ ?_ ?_); rotate_left; (· exact rfl); (· kernel_rfl); (· intro w2; go_simp; try with_reducible rfl))
            (try simp only [Act.put, List.setIfInBounds_toArray, List.set_cons_zero, List.set_cons_succ])
            ((with_reducible refine Ord.e_p (v := ?_) ?_ ?_ ?_ ?_); rotate_left; (· exact rfl); (· kernel_rfl); (· intro w2; go_simp; try with_reducible rfl))
            (try simp only [Act.put, List.setIfInBounds_toArray, List.set_cons_zero, List.set_cons_succ])
            ((with_reducible refine Ord.e_p (v := ?_) ?_ ?_ ?_ ?_); rotate_left; (· exact rfl); (· kernel_rfl); (· intro w2; go_simp; try with_reducible rfl))
            (try simp only [Act.put, List.setIfInBounds_toArray, List.set_cons_zero, List.set_cons_succ])
            ((with_reducible refine Ord.e_p (v := ?_) ?_ ?_ ?_ ?_); rotate_left; (· exact rfl); (· kernel_rfl); (· intro w2; go_simp; try with_reducible rfl))
            (try simp only [Act.put, List.setIfInBounds_toArray, List.set_cons_zero, List.set_cons_succ])
            refine Ord.e_nil ?_
            clear f2 f3 f4 f5 hb5 hrn2' hrf2' hownq hown1 hlq z0 z1 z2 z3 z4 z5 z6
            by_cases hs0 : sE = 0
            · have hs0' : (sE : Int) = 0 := by omega
              have Hall := Lib.hid (Hts.out.2 hs0)
              go_wp2_with (at_builtin; refine stop_ ?_)
              refine go_ (wpList_app (base := w1.heap.size) (n := m) Tryz.underlying38 Hi.out rfl (by omega) hown6 rfl hrq rfl (bv_one _) (k := m + nq) (ys := bv (qP ++ (l.take (k + 1)).flatMap (shP satF))) rfl (by rw [Hts.out.1, ← List.append_assoc]; exact (bv_app _ _).symm) (by unfold maxLen; omega) (by omega) hb6.size ?_)
              intro A7 c7 w7 hown7 hup
              have hb7 : Below w1.heap.size w1 w7 := hup hb6 hb6.size (Nat.le_refl _)
              clear hup hown6 hrq hb6 hbf6
              go_wp2
              go_roundw
              case rel => exact ⟨k + 1, m + nq, A7, c7, by omega, by first | rfl | go_num, rfl, by omega, hown7, hb7, Hall⟩
              case measure => simp [intOf]; omega
            · have hs0' : ¬ (sE : Int) = 0 := by omega
              have e1 : oE = sE := by rw [HEE.out, if_pos (by rw [← HqE.out]), Hfirst.out hs0]
              subst e1
              have e2 : oP = [] := by rw [HoP.out]; unfold satsP; rw [if_neg (by rw [← HoE.out]; exact hs0)]
              subst e2
              clear hs0
              go_wp2
              go_ret2
              exact ⟨none, 0, 0, rfl, World.ownsRow_nil _ _ _ _, hbf6⟩
          · simp only [Ord.lst, List.filterMap_cons, List.filterMap_nil, List.getElem?_toArray, List.getElem?_cons_succ, List.getElem?_cons_zero]
            ((with_reducible refine Ord.e_p (v := ?_) ?_ ?_ ?_ ?_); rotate_left; (· exact rfl); (· kernel_rfl); (· intro w2; go_simp; try with_reducible rfl))
            (try simp only [Act.put, List.setIfInBounds_toArray, List.set_cons_zero, List.set_cons_succ])
            refine Ord.e_loadS Tryz.underlying2 rfl (fun w' hS => ((show Below _ v1 w' from hS).cell (p := ⟨gv, 0, none⟩) hltv).trans z0) f2 rfl (by kernel_rfl) ?_
            (try simp only [Act.put, List.setIfInBounds_toArray, List.set_cons_zero, List.set_cons_succ])
            ((with_reducible refine Ord.e_p (v := ?_) ?_ ?_ ?_ ?_); rotate_left; (· exact rfl); (· kernel_rfl); (· intro w2; go_simp; try with_reducible rfl))
            (try simp only [Act.put, List.setIfInBounds_toArray, List.set_cons_zero, List.set_cons_succ])
            refine Ord.e_loadS Tryz.underlying2 rfl (fun w' hS => ((show Below _ v1 w' from hS).cell (p := ⟨gv, 1, none⟩) hltv).trans z1) f2 rfl (by kernel_rfl) ?_
            (try simp only [Act.put, List.setIfInBounds_toArray, List.set_cons_zero, List.set_cons_succ])
            ((with_reducible refine Ord.e_p (v := ?_) ?_ ?_ ?_ ?_); rotate_left; (· exact rfl); (· kernel_rfl); (· intro w2; go_simp; try with_reducible rfl))
            (try simp only [Act.put, List.setIfInBounds_toArray, List.set_cons_zero, List.set_cons_succ])
            refine Ord.e_loadS Tryz.underlying2 rfl (fun w' hS => ((show Below _ v1 w' from hS).cell (p := ⟨gv, 2, none⟩) hltv).trans z2) f2 rfl (by kernel_rfl) ?_
            (try simp only [Act.put, List.setIfInBounds_toArray, List.set_cons_zero, List.set_cons_succ])
            ((with_reducible refine Ord.e_p (v := ?_) ?_ ?_ ?_ ?_); rotate_left; (· exact rfl); (· kernel_rfl); (· intro w2; go_simp; try with_reducible rfl))
            (try simp only [Act.put, List.setIfInBounds_toArray, List.set_cons_zero, List.set_cons_succ])
            refine Ord.e_loadS Tryz.underlying2 rfl (fun w' hS => ((show Below _ v1 w' from hS).cell (p := ⟨gv, 3, none⟩) hltv).trans z3) f2 rfl (by kernel_rfl) ?_
            (try simp only [Act.put, List.setIfInBounds_toArray, List.set_cons_zero, List.set_cons_succ])
            ((with_reducible refine Ord.e_p (v := ?_) ?_ ?_ ?_ ?_); rotate_left; (· exact rfl); (· kernel_rfl); (· intro w2; go_simp; try with_reducible rfl))
            (try simp only [Act.put, List.setIfInBounds_toArray, List.set_cons_zero, List.set_cons_succ])
            refine Ord.e_loadS Tryz.underlying2 rfl (fun w' hS => ((show Below _ v1 w' from hS).cell (p := ⟨gv, 4, none⟩) hltv).trans z4) f2 rfl (by kernel_rfl) ?_
            (try simp only [Act.put, List.setIfInBounds_toArray, List.set_cons_zero, List.set_cons_succ])
            ((with_reducible refine Ord.e_p (v := ?_) ?_ ?_ ?_ ?_); rotate_left; (· exact rfl); (· kernel_rfl); (· intro w2; go_simp; try with_reducible rfl))
            (try simp only [Act.put, List.setIfInBounds_toArray, List.set_cons_zero, List.set_cons_succ])
            refine Ord.e_loadS Tryz.underlying2 rfl (fun w' hS => ((show Below _ v1 w' from hS).cell (p := ⟨gv, 5, none⟩) hltv).trans z5) f2 rfl (by kernel_rfl) ?_
            (try simp only [Act.put, List.setIfInBounds_toArray, List.set_cons_zero, List.set_cons_succ])
            ((with_reducible refine Ord.e_p (v := ?_) ?_ ?_ ?_ ?_); rotate_left; (· exact rfl); (· kernel_rfl); (· intro w2; go_simp; try with_reducible rfl))
            (try simp only [Act.put, List.setIfInBounds_toArray, List.set_cons_zero, List.set_cons_succ])
            refine Ord.e_loadS Tryz.underlying2 rfl (fun w' hS => ((show Below _ v1 w' from hS).cell (p := ⟨gv, 6, none⟩) hltv).trans z6) f2 rfl (by kernel_rfl) ?_
            (try simp only [Act.put, List.setIfInBounds_toArray, List.set_cons_zero, List.set_cons_succ])
            refine Ord.e_x rfl (by kernel_rfl) ?_
            go_wp2
            have hrn2 : Rd (v2.alloc (.cells #[.int .i64 x0, .int .i64 x1, .int .i64 x2, .int .i64 x3, .int .i64 x4, .int .i64 x5, .int .i64 x6] 2)) (v2.heap.size + 1) 1 (some ⟨v2.heap.size, 0, none⟩) 7 7 ([x0, x1, x2, x3, x4, x5, x6].map (Value.int .i64)) := rd_lit' v2 2 [.int .i64 x0, .int .i64 x1, .int .i64 x2, .int .i64 x3, .int .i64 x4, .int .i64 x5, .int .i64 x6] (by simp [maxLen])
            have hbn2 : Below v2.heap.size v2 (v2.alloc (.cells #[.int .i64 x0, .int .i64 x1, .int .i64 x2, .int .i64 x3, .int .i64 x4, .int .i64 x5, .int .i64 x6] 2)) := (Below.refl _ _).alloc (Nat.le_refl _) _
            have hsn2 : (v2.alloc (.cells #[.int .i64 x0, .int .i64 x1, .int .i64 x2, .int .i64 x3, .int .i64 x4, .int .i64 x5, .int .i64 x6] 2)).heap.size = v2.heap.size + 1 := World.size_alloc _ _
            have f3 := f2.trans (hbn2.mono f2.size)
            refine Ord.Seg.go f3 (fun h => by cases h) ?_
            (try simp only [Act.put, List.setIfInBounds_toArray, List.set_cons_zero, List.set_cons_succ])
            generalize (v2.alloc (.cells #[.int .i64 x0, .int .i64 x1, .int .i64 x2, .int .i64 x3, .int .i64 x4, .int .i64 x5, .int .i64 x6] 2)) = v3 at *
            have Hsn2 := Lib.hid hsn2
            clear hsn2
            refine Ord.e_x rfl (by kernel_rfl) ?_
            go_wp2_with fail
            go_fit (qsatsShape_any v3)
            rintro e v4 ⟨Af2, nf2, cf2, rfl, hnf2, hrf2, hbf2⟩
            have f4 := f3.trans (hbf2.mono f3.size)
            go_wp2_with fail
            refine Ord.Seg.go f4 (fun h => by cases h) ?_
            (try simp only [Act.put, List.setIfInBounds_toArray, List.set_cons_zero, List.set_cons_succ])
            have hrn2' := hrn2.up (hbf2.mono (by rw [Hsn2.out]; exact Nat.le_refl _))
            have hrf2' := hrf2
            have hsz2 : v2.heap.size + 1 ≤ v4.heap.size := by rw [← Hsn2.out]; exact hbf2.size
            clear hbf2 hbn2 hrf2 hrn2
            refine Ord.e_x rfl (by kernel_rfl) ?_
            go_wp2_with fail
            go_fit (qPut14_any Af2 nf2 cf2 v4.heap.size satF (some ⟨v2.heap.size, 0, none⟩) 7 7 (v2.heap.size + 1) [x0, x1, x2, x3, x4, x5, x6] v4 hrf2' (Nat.le_refl _) hrn2' hsz2 (by omega))
            clear hsz2
            rw [← HsP.out, ← HsE.out]
            rintro e v5 ⟨Aq, nq, cq, rfl, hownq, hb5⟩
            have f5 := f4.trans (hb5.mono f4.size)
            have hb6 := hbx1.trans (f5.mono hbx1.size)
            have hown6 := own_up hown1 f5 (Nat.le_refl _)
            have hbf6 := hb1.trans (hb6.mono hb1.size)
            have hrq := Rd.own hownq
            have hlq := own_len hownq
            have hnq : nq ≤ 12 := by omega
            have hcqm := hrq.max
            unfold maxLen at hcqm
            go_wp2_with fail
            refine Ord.Seg.go f5 (fun h => by cases h) ?_
            (try simp only [Act.put, List.setIfInBounds_toArray, List.set_cons_zero, List.set_cons_succ])
            ((with_reducible refine Ord.e_p (v := ?_) ?_ ?_ ?_ ?_); rotate_left; (· exact rfl); (· kernel_rfl); (· intro w2; go_simp; try with_reducible rfl))
            (try simp only [Act.put, List.setIfInBounds_toArray, List.set_cons_zero, List.set_cons_succ])
            ((with_reducible refine Ord.e_p (v := ?_) ?_ ?_ ?_ ?_); rotate_left; (· exact rfl); (· kernel_rfl); (· intro w2; go_simp; try with_reducible rfl))
            (try simp only [Act.put, List.setIfInBounds_toArray, List.set_cons_zero, List.set_cons_succ])
            ((with_reducible refine Ord.e_p (v := ?_) ?_ ?_ ?_ ?_); rotate_left; (· exact rfl); (· kernel_rfl); (· intro w2; go_simp; try with_reducible rfl))
            (try simp only [Act.put, List.setIfInBounds_toArray, List.set_cons_zero, List.set_cons_succ])
            ((with_reducible refine Ord.e_p (v := ?_) ?_ ?_ ?_ ?_); rotate_left; (· exact rfl); (· kernel_rfl); (· intro w2; go_simp; try with_reducible rfl))
            (try simp only [Act.put, List.setIfInBounds_toArray, List.set_cons_zero, List.set_cons_succ])
            ((with_reducible refine Ord.e_p (v := ?_) ?_ ?_ ?_ ?_); rotate_left; (· exact rfl); (· kernel_rfl); (· intro w2; go_simp; try with_reducible rfl))
            (try simp only [Act.put, List.setIfInBounds_toArray, List.set_cons_zero, List.set_cons_succ])
            refine Ord.e_nil ?_
            clear f2 f3 f4 f5 hb5 hrn2' hrf2' hownq hown1 hlq z0 z1 z2 z3 z4 z5 z6
            by_cases hs0 : sE = 0
            · have hs0' : (sE : Int) = 0 := by omega
              have Hall := Lib.hid (Hts.out.2 hs0)
              go_wp2_with (at_builtin; refine stop_ ?_)
              refine go_ (wpList_app (base := w1.heap.size) (n := m) Tryz.underlying38 Hi.out rfl (by omega) hown6 rfl hrq rfl (bv_one _) (k := m + nq) (ys := bv (qP ++ (l.take (k + 1)).flatMap (shP satF))) rfl (by rw [Hts.out.1, ← List.append_assoc]; exact (bv_app _ _).symm) (by unfold maxLen; omega) (by omega) hb6.size ?_)
              intro A7 c7 w7 hown7 hup
              have hb7 : Below w1.heap.size w1 w7 := hup hb6 hb6.size (Nat.le_refl _)
              clear hup hown6 hrq hb6 hbf6
              go_wp2
              go_roundw
              case rel => exact ⟨k + 1, m + nq, A7, c7, by omega, by first | rfl | go_num, rfl, by omega, hown7, hb7, Hall⟩
              case measure => simp [intOf]; omega
            · have hs0' : ¬ (sE : Int) = 0 := by omega
              have e1 : oE = sE := by rw [HEE.out, if_pos (by rw [← HqE.out]), Hfirst.out hs0]
              subst e1
              have e2 : oP = [] := by rw [HoP.out]; unfold satsP; rw [if_neg (by rw [← HoE.out]; exact hs0)]
              subst e2
              clear hs0
              go_wp2
              go_ret2
              exact ⟨none, 0, 0, rfl, World.ownsRow_nil _ _ _ _, hbf6⟩
        · obtain rfl : k = n := by omega
          have ht : l.take k = l := List.take_of_length_le (by rw [Hll.out]; exact Nat.le_refl _)
          rw [ht] at hown hall
          have e1 : oE = 0 := by rw [HEE.out, if_pos (by rw [← HqE.out])]; exact satsEL_zero.2 hall.out
          have e2 : oP = qP ++ l.flatMap (shP satF) := by rw [HoP.out]; unfold satsP; rw [if_pos (by rw [← HoE.out]; exact e1)]; unfold satsB; rw [← HqP.out]
          subst e1
          rw [← e2] at hown
          clear ht e2
          go_wp2
          go_ret2
          exact ⟨_, _, _, rfl, own_mono hown hb1.size, hbw⟩
    · have hq' : ¬ (qE : Int) = 0 := by omega
      have e1 : oE = qE := by rw [HEE.out, if_neg (by rw [← HqE.out]; exact hq), HqE.out]
      subst e1
      have e2 : oP = [] := by rw [HoP.out]; unfold satsP; rw [if_neg (by rw [← HoE.out]; exact hq)]
      subst e2
      clear hq c0 c1
      go_wp2
      go_ret2
      exact ⟨none, 0, 0, rfl, World.ownsRow_nil _ _ _ _, hbf5⟩
  · simp only [Ord.lst, List.filterMap_cons, List.filterMap_nil, List.getElem?_toArray, List.getElem?_cons_succ, List.getElem?_cons_zero]
    ((with_reducible refine Ord.e_p (v := ?_) ?_ ?_ ?_ ?_); rotate_left; (· exact rfl); (· kernel_rfl); (· intro w2; go_simp; try with_reducible rfl))
    (try simp only [Act.put, List.setIfInBounds_toArray, List.set_cons_zero, List.set_cons_succ])
    refine Ord.e_loadS Tryz.underlying2 rfl (fun w' hS => ((show Below _ w1 w' from hS).cell (p := ⟨w.heap.size, 0, none⟩) hlt).trans c0) h2 rfl (by kernel_rfl) ?_
    (try simp only [Act.put, List.setIfInBounds_toArray, List.set_cons_zero, List.set_cons_succ])
    ((with_reducible refine Ord.e_p (v := ?_) ?_ ?_ ?_ ?_); rotate_left; (· exact rfl); (· kernel_rfl); (· intro w2; go_simp; try with_reducible rfl))
    (try simp only [Act.put, List.setIfInBounds_toArray, List.set_cons_zero, List.set_cons_succ])
    refine Ord.e_loadS Tryz.underlying24 rfl (fun w' hS => ((show Below _ w1 w' from hS).cell (p := ⟨w.heap.size, 1, none⟩) hlt).trans c1) h2 rfl (by kernel_rfl) ?_
    (try simp only [Act.put, List.setIfInBounds_toArray, List.set_cons_zero, List.set_cons_succ])
    ((with_reducible refine Ord.e_p (v := ?_) ?_ ?_ ?_ ?_); rotate_left; (· exact rfl); (· kernel_rfl); (· intro w2; go_simp; try with_reducible rfl))
    (try simp only [Act.put, List.setIfInBounds_toArray, List.set_cons_zero, List.set_cons_succ])
    refine Ord.e_x rfl (by kernel_rfl) ?_
    go_wp2
    have hrn : Rd (w2.alloc (.cells #[.int .i64 t, .int .i64 1, .int .i64 n, .int .i64 0] 2)) (w2.heap.size + 1) 1 (some ⟨w2.heap.size, 0, none⟩) 4 4 ([t, 1, (n : Int), 0].map (Value.int .i64)) := rd_lit' w2 2 [.int .i64 t, .int .i64 1, .int .i64 n, .int .i64 0] (by simp [maxLen])
    have hbn : Below w2.heap.size w2 (w2.alloc (.cells #[.int .i64 t, .int .i64 1, .int .i64 n, .int .i64 0] 2)) := (Below.refl _ _).alloc (Nat.le_refl _) _
    have hsn : (w2.alloc (.cells #[.int .i64 t, .int .i64 1, .int .i64 n, .int .i64 0] 2)).heap.size = w2.heap.size + 1 := World.size_alloc _ _
    have h3 := h2.trans (hbn.mono h2.size)
    refine Ord.Seg.go h3 (fun h => by cases h) ?_
    (try simp only [Act.put, List.setIfInBounds_toArray, List.set_cons_zero, List.set_cons_succ])
    generalize (w2.alloc (.cells #[.int .i64 t, .int .i64 1, .int .i64 n, .int .i64 0] 2)) = w3 at *
    have Hsn := Lib.hid hsn
    clear hsn
    refine Ord.e_x rfl (by kernel_rfl) ?_
    go_wp2_with fail
    go_fit (qsatsHead_any w3)
    rintro e w4 ⟨Af, nf, cf, rfl, hnf, hrf, hbf⟩
    have h4 := h3.trans (hbf.mono h3.size)
    go_wp2_with fail
    refine Ord.Seg.go h4 (fun h => by cases h) ?_
    (try simp only [Act.put, List.setIfInBounds_toArray, List.set_cons_zero, List.set_cons_succ])
    have hrn' := hrn.up (hbf.mono (by rw [Hsn.out]; exact Nat.le_refl _))
    have hrf' := hrf
    have hsz : w2.heap.size + 1 ≤ w4.heap.size := by rw [← Hsn.out]; exact hbf.size
    clear hbf hbn hrf hrn
    refine Ord.e_x rfl (by kernel_rfl) ?_
    go_wp2_with fail
    go_fit (qPut14_any Af nf cf w4.heap.size headF (some ⟨w2.heap.size, 0, none⟩) 4 4 (w2.heap.size + 1) [t, 1, (n : Int), 0] w4 hrf' (Nat.le_refl _) hrn' hsz (by omega))
    clear hsz
    rw [← Hlv.out, ← HqP.out, ← HqE.out]
    rintro e w5 ⟨Ap, np, cp, rfl, hown, hb45⟩
    have h5 := h4.trans (hb45.mono h4.size)
    have hbf5 := hb1.trans (h5.mono hb1.size)
    have hown' := own_mono hown (base' := w1.heap.size) h4.size
    go_wp2_with fail
    refine Ord.Seg.go h5 (fun h => by cases h) ?_
    (try simp only [Act.put, List.setIfInBounds_toArray, List.set_cons_zero, List.set_cons_succ])
    ((with_reducible refine Ord.e_p (v := ?_) ?_ ?_ ?_ ?_); rotate_left; (· exact rfl); (· kernel_rfl); (· intro w2; go_simp; try with_reducible rfl))
    (try simp only [Act.put, List.setIfInBounds_toArray, List.set_cons_zero, List.set_cons_succ])
    ((with_reducible refine Ord.e_p (v := ?_) ?_ ?_ ?_ ?_); rotate_left; (· exact rfl); (· kernel_rfl); (· intro w2; go_simp; try with_reducible rfl))
    (try simp only [Act.put, List.setIfInBounds_toArray, List.set_cons_zero, List.set_cons_succ])
    ((with_reducible refine Ord.e_p (v := ?_) ?_ ?_ ?_ ?_); rotate_left; (· exact rfl); (· kernel_rfl); (· intro w2; go_simp; try with_reducible rfl))
    (try simp only [Act.put, List.setIfInBounds_toArray, List.set_cons_zero, List.set_cons_succ])
    ((with_reducible refine Ord.e_p (v := ?_) ?_ ?_ ?_ ?_); rotate_left; (· exact rfl); (· kernel_rfl); (· intro w2; go_simp; try with_reducible rfl))
    (try simp only [Act.put, List.setIfInBounds_toArray, List.set_cons_zero, List.set_cons_succ])
    ((with_reducible refine Ord.e_p (v := ?_) ?_ ?_ ?_ ?_); rotate_left; (· exact rfl); (· kernel_rfl); (· intro w2; go_simp; try with_reducible rfl))
    (try simp only [Act.put, List.setIfInBounds_toArray, List.set_cons_zero, List.set_cons_succ])
    refine Ord.e_nil ?_
    clear h2 h3 h4 hb45 hown hrn' hrf'
    by_cases hq : qE = 0
    · have HQ : Hid (qE = 0) := Lib.hid hq
      have hlp : np = 8 := by rw [← own_len hown', HqP.out, shP_len headF_right (by rw [← HqE.out]; exact hq), headF_sum]
      subst hlp
      subst hq
      rw [show ((0 : Nat) : Int) = 0 from rfl]
      go_wp2_with fail
      go_loopw [4, 6] (fun s i wr => ∃ (k m : Nat) (A2 : Option Addr) (c2 : Nat), k ≤ n ∧ i = .int .i64 k ∧ s = .slice A2 m c2 ∧ m ≤ 8 + 12 * k ∧ wr.ownsRow w1.heap.size 5 1 (.slice A2 m c2) m (bv (qP ++ (l.take k).flatMap (shP satF))) ∧ Below w1.heap.size w1 wr ∧ Hid (∀ s ∈ l.take k, shE satF s = 0)) (fun _ i _ => n - (intOf i).toNat)
      case atStart => exact ⟨0, 8, Ap, cp, by omega, rfl, rfl, by omega, by simpa using hown', h5, Lib.hid (by simp)⟩
      case round =>
        clear hown' h5 hbf5 w5
        obtain ⟨k, m, A2, c2, hk, rfl, rfl, hm, hown, hb, hall⟩ := hrel
        have hbw := hb1.trans (hb.mono hb1.size)
        have d1 := (hb.cell (p := ⟨w.heap.size, 1, none⟩) hlt).trans c1
        by_cases hlt2 : k < n
        · obtain ⟨g1, off, rr, hA, hg1, hx, hrl, hrow⟩ := hr.at_ hlt2
          obtain ⟨s, hs, rfl⟩ : ∃ s, l[k]? = some s ∧ saC s = rr := by simpa using hx
          have hs7 := Hlen.out s (List.mem_of_getElem? hs)
          have hts : l.take (k + 1) = l.take k ++ [s] := take_succ hs
          have hfirst : shE satF s ≠ 0 → satsEL l = shE satF s := fun h => satsEL_at hs hall.out h
          obtain ⟨sP, hsP⟩ : ∃ p, p = shP satF s := ⟨_, rfl⟩
          obtain ⟨sE, hsE⟩ : ∃ p, p = shE satF s := ⟨_, rfl⟩
          have hl12 : sP.length ≤ 12 := by
            rw [hsP]
            by_cases h0 : shE satF s = 0
            · rw [shP_len satF_right h0, satF_sum]; exact Nat.le_refl _
            · rw [shP_none h0]; simp
          rw [← hsE] at hfirst
          have Hts : Hid ((l.take (k + 1)).flatMap (shP satF) = (l.take k).flatMap (shP satF) ++ sP ∧ (sE = 0 → ∀ x ∈ l.take (k + 1), shE satF x = 0)) := Lib.hid ⟨by rw [hts, List.flatMap_append, hsP]; simp, fun h0 x hx => by
            rw [hts] at hx
            rcases List.mem_append.1 hx with hx | hx
            · exact hall.out x hx
            · simp at hx; rw [hx, ← hsE]; exact h0⟩
          obtain ⟨x0, x1, x2, x3, x4, x5, x6, rfl⟩ := len7 s hs7
          have q0 : wr.cell? ⟨g1, off + k * 7, none⟩ = some (.int .i64 x0) := (hbw.cell (p := ⟨g1, off + k * 7 + 0, none⟩) hg1).trans (hrow 0 _ rfl)
          have q1 : wr.cell? ⟨g1, off + k * 7 + 1, none⟩ = some (.int .i64 x1) := (hbw.cell (p := ⟨g1, off + k * 7 + 1, none⟩) hg1).trans (hrow 1 _ rfl)
          have q2 : wr.cell? ⟨g1, off + k * 7 + 2, none⟩ = some (.int .i64 x2) := (hbw.cell (p := ⟨g1, off + k * 7 + 2, none⟩) hg1).trans (hrow 2 _ rfl)
          have q3 : wr.cell? ⟨g1, off + k * 7 + 3, none⟩ = some (.int .i64 x3) := (hbw.cell (p := ⟨g1, off + k * 7 + 3, none⟩) hg1).trans (hrow 3 _ rfl)
          have q4 : wr.cell? ⟨g1, off + k * 7 + 4, none⟩ = some (.int .i64 x4) := (hbw.cell (p := ⟨g1, off + k * 7 + 4, none⟩) hg1).trans (hrow 4 _ rfl)
          have q5 : wr.cell? ⟨g1, off + k * 7 + 5, none⟩ = some (.int .i64 x5) := (hbw.cell (p := ⟨g1, off + k * 7 + 5, none⟩) hg1).trans (hrow 5 _ rfl)
          have q6 : wr.cell? ⟨g1, off + k * 7 + 6, none⟩ = some (.int .i64 x6) := (hbw.cell (p := ⟨g1, off + k * 7 + 6, none⟩) hg1).trans (hrow 6 _ rfl)
          have Hfirst := Lib.hid hfirst
          have HsP := Lib.hid hsP
          have HsE := Lib.hid hsE
          have hbx : Below wr.heap.size wr (wr.alloc (.cells #[.int .i64 x0, .int .i64 x1, .int .i64 x2, .int .i64 x3, .int .i64 x4, .int .i64 x5, .int .i64 x6] 99)) := (Below.refl _ _).alloc (Nat.le_refl _) _
          have hbx1 := hb.alloc hb.size (.cells #[.int .i64 x0, .int .i64 x1, .int .i64 x2, .int .i64 x3, .int .i64 x4, .int .i64 x5, .int .i64 x6] 99)
          have hsbox := heap_alloc_new wr (.cells #[.int .i64 x0, .int .i64 x1, .int .i64 x2, .int .i64 x3, .int .i64 x4, .int .i64 x5, .int .i64 x6] 99)
          clear hs hx hrow hrl hs7 hts hfirst hsP hsE
          subst hA
          go_wp2_with fail
          clear q0 q1 q2 q3 q4 q5 q6 d1
          have hown1 := own_up hown hbx (Nat.le_refl _)
          generalize (wr.alloc (.cells #[.int .i64 x0, .int .i64 x1, .int .i64 x2, .int .i64 x3, .int .i64 x4, .int .i64 x5, .int .i64 x6] 99)) = v1 at *
          have z0 := blk_cell (i := 0) (v := .int .i64 x0) hsbox rfl
          have z1 := blk_cell (i := 1) (v := .int .i64 x1) hsbox rfl
          have z2 := blk_cell (i := 2) (v := .int .i64 x2) hsbox rfl
          have z3 := blk_cell (i := 3) (v := .int .i64 x3) hsbox rfl
          have z4 := blk_cell (i := 4) (v := .int .i64 x4) hsbox rfl
          have z5 := blk_cell (i := 5) (v := .int .i64 x5) hsbox rfl
          have z6 := blk_cell (i := 6) (v := .int .i64 x6) hsbox rfl
          have hltv := blk_lt hsbox
          generalize wr.heap.size = gv at *
          refine Ord.region_m [0, 15] [[0, 1, 2, 3, 4, 5, 6, 7, 8, 9, 10, 11, 12, 13, 14, 15, 16, 17, 18, 19, 20, 21], [1, 2, 3, 4, 5, 6, 7, 8, 9, 10, 11, 12, 13, 14, 15, 0, 16, 17, 18, 19, 20, 21]] (fun w' => Below v1.heap.size v1 w') false [] (by kernel_rfl) (by kernel_rfl) ((Below.refl _ _).drew) ?_
          have f2 : Below v1.heap.size v1 v1.drew := (Below.refl _ _).drew
          generalize v1.drew = v2 at *
          clear hsbox hbx hb hown hbw
          intro L hL
          simp only [List.mem_cons, List.not_mem_nil, or_false] at hL
          rcases hL with rfl | rfl
          · simp only [Ord.lst, List.filterMap_cons, List.filterMap_nil, List.getElem?_toArray, List.getElem?_cons_succ, List.getElem?_cons_zero]
            refine Ord.e_x rfl (by kernel_rfl) ?_
            go_wp2_with fail
            go_fit (qsatsShape_any v2)
            rintro e v3 ⟨Af2, nf2, cf2, rfl, hnf2, hrf2, hbf2⟩
            have f3 := f2.trans (hbf2.mono f2.size)
            go_wp2_with fail
            refine Ord.Seg.go f3 (fun h => by cases h) ?_
            (try simp only [Act.put, List.setIfInBounds_toArray, List.set_cons_zero, List.set_cons_succ])
            ((with_reducible refine Ord.e_p (v := ?_) ?_ ?_ ?_ ?_); rotate_left; (· exact rfl); (· kernel_rfl); (· intro w2; go_simp; try with_reducible rfl))
            (try simp only [Act.put, List.setIfInBounds_toArray, List.set_cons_zero, List.set_cons_succ])
            refine Ord.e_loadS Tryz.underlying2 rfl (fun w' hS => ((show Below _ v1 w' from hS).cell (p := ⟨gv, 0, none⟩) hltv).trans z0) f3 rfl (by kernel_rfl) ?_
            (try simp only [Act.put, List.setIfInBounds_toArray, List.set_cons_zero, List.set_cons_succ])
            ((with_reducible refine Ord.e_p (v := ?_) ?_ ?_ ?_ ?_); rotate_left; (· exact rfl); (· kernel_rfl); (· intro w2; go_simp; try with_reducible rfl))
            (try simp only [Act.put, List.setIfInBounds_toArray, List.set_cons_zero, List.set_cons_succ])
            refine Ord.e_loadS Tryz.underlying2 rfl (fun w' hS => ((show Below _ v1 w' from hS).cell (p := ⟨gv, 1, none⟩) hltv).trans z1) f3 rfl (by kernel_rfl) ?_
            (try simp only [Act.put, List.setIfInBounds_toArray, List.set_cons_zero, List.set_cons_succ])
            ((with_reducible refine Ord.e_p (v := ?_) ?_ ?_ ?_ ?_); rotate_left; (· exact rfl); (· kernel_rfl); (· intro w2; go_simp; try with_reducible rfl))
            (try simp only [Act.put, List.setIfInBounds_toArray, List.set_cons_zero, List.set_cons_succ])
            refine Ord.e_loadS Tryz.underlying2 rfl (fun w' hS => ((show Below _ v1 w' from hS).cell (p := ⟨gv, 2, none⟩) hltv).trans z2) f3 rfl (by kernel_rfl) ?_
            (try simp only [Act.put, List.setIfInBounds_toArray, List.set_cons_zero, List.set_cons_succ])
            ((with_reducible refine Ord.e_p (v := ?_) ?_ ?_ ?_ ?_); rotate_left; (· exact rfl); (· kernel_rfl); (· intro w2; go_simp; try with_reducible rfl))
            (try simp only [Act.put, List.setIfInBounds_toArray, List.set_cons_zero, List.set_cons_succ])
            refine Ord.e_loadS Tryz.underlying2 rfl (fun w' hS => ((show Below _ v1 w' from hS).cell (p := ⟨gv, 3, none⟩) hltv).trans z3) f3 rfl (by kernel_rfl) ?_
            (try simp only [Act.put, List.setIfInBounds_toArray, List.set_cons_zero, List.set_cons_succ])
            ((with_reducible refine Ord.e_p (v := ?_) ?_ ?_ ?_ ?_); rotate_left; (· exact rfl); (· kernel_rfl); (· intro w2; go_simp; try with_reducible rfl))
            (try simp only [Act.put, List.setIfInBounds_toArray, List.set_cons_zero, List.set_cons_succ])
            refine Ord.e_loadS Tryz.underlying2 rfl (fun w' hS => ((show Below _ v1 w' from hS).cell (p := ⟨gv, 4, none⟩) hltv).trans z4) f3 rfl (by kernel_rfl) ?_
            (try simp only [Act.put, List.setIfInBounds_toArray, List.set_cons_zero, List.set_cons_succ])
            ((with_reducible refine Ord.e_p (v := ?_) ?_ ?_ ?_ ?_); rotate_left; (· exact rfl); (· kernel_rfl); (· intro w2; go_simp; try with_reducible rfl))
            (try simp only [Act.put, List.setIfInBounds_toArray, List.set_cons_zero, List.set_cons_succ])
            refine Ord.e_loadS Tryz.underlying2 rfl (fun w' hS => ((show Below _ v1 w' from hS).cell (p := ⟨gv, 5, none⟩) hltv).trans z5) f3 rfl (by kernel_rfl) ?_
            (try simp only [Act.put, List.setIfInBounds_toArray, List.set_cons_zero, List.set_cons_succ])
            ((with_reducible refine Ord.e_p (v := ?_) ?_ ?_ ?_ ?_); rotate_left; (· exact rfl); (· kernel_rfl); (· intro w2; go_simp; try with_reducible rfl))
            (try simp only [Act.put, List.setIfInBounds_toArray, List.set_cons_zero, List.set_cons_succ])
            refine Ord.e_loadS Tryz.underlying2 rfl (fun w' hS => ((show Below _ v1 w' from hS).cell (p := ⟨gv, 6, none⟩) hltv).trans z6) f3 rfl (by kernel_rfl) ?_
            (try simp only [Act.put, List.setIfInBounds_toArray, List.set_cons_zero, List.set_cons_succ])
            refine Ord.e_x rfl (by kernel_rfl) ?_
            go_wp2
            have hrn2 : Rd (v3.alloc (.cells #[.int .i64 x0, .int .i64 x1, .int .i64 x2, .int .i64 x3, .int .i64 x4, .int .i64 x5, .int .i64 x6] 2)) (v3.heap.size + 1) 1 (some ⟨v3.heap.size, 0, none⟩) 7 7 ([x0, x1, x2, x3, x4, x5, x6].map (Value.int .i64)) := rd_lit' v3 2 [.int .i64 x0, .int .i64 x1, .int .i64 x2, .int .i64 x3, .int .i64 x4, .int .i64 x5, .int .i64 x6] (by simp [maxLen])
            have hbn2 : Below v3.heap.size v3 (v3.alloc (.cells #[.int .i64 x0, .int .i64 x1, .int .i64 x2, .int .i64 x3, .int .i64 x4, .int .i64 x5, .int .i64 x6] 2)) := (Below.refl _ _).alloc (Nat.le_refl _) _
            have hsn2 : (v3.alloc (.cells #[.int .i64 x0, .int .i64 x1, .int .i64 x2, .int .i64 x3, .int .i64 x4, .int .i64 x5, .int .i64 x6] 2)).heap.size = v3.heap.size + 1 := World.size_alloc _ _
            have f4 := f3.trans (hbn2.mono f3.size)
            refine Ord.Seg.go f4 (fun h => by cases h) ?_
            (try simp only [Act.put, List.setIfInBounds_toArray, List.set_cons_zero, List.set_cons_succ])
            generalize (v3.alloc (.cells #[.int .i64 x0, .int .i64 x1, .int .i64 x2, .int .i64 x3, .int .i64 x4, .int .i64 x5, .int .i64 x6] 2)) = v4 at *
            have Hsn2 := Lib.hid hsn2
            clear hsn2
            have hrf2' := hrf2.up hbn2
            have hrn2' := hrn2
            have hsz2 := hbn2.size
            clear hbf2 hbn2 hrf2 hrn2
            refine Ord.e_x rfl (by kernel_rfl) ?_
            go_wp2_with fail
            go_fit (qPut14_any Af2 nf2 cf2 v3.heap.size satF (some ⟨v3.heap.size, 0, none⟩) 7 7 (v3.heap.size + 1) [x0, x1, x2, x3, x4, x5, x6] v4 hrf2' hsz2 hrn2' (by rw [Hsn2.out]; omega) (by omega))
            clear hsz2
            rw [← HsP.out, ← HsE.out]
            rintro e v5 ⟨Aq, nq, cq, rfl, hownq, hb5⟩
            have f5 := f4.trans (hb5.mono f4.size)
            have hb6 := hbx1.trans (f5.mono hbx1.size)
            have hown6 := own_up hown1 f5 (Nat.le_refl _)
            have hbf6 := hb1.trans (hb6.mono hb1.size)
            have hrq := Rd.own hownq
            have hlq := own_len hownq
            have hnq : nq ≤ 12 := by omega
            have hcqm := hrq.max
            unfold maxLen at hcqm
            go_wp2_with fail
            refine Ord.Seg.go f5 (fun h => by cases h) ?_
            (try simp only [Act.put, List.setIfInBounds_toArray, List.set_cons_zero, List.set_cons_succ])
            ((with_reducible refine Ord.e_p (v := ?_) ?_ ?_ ?_ ?_); rotate_left; (· exact rfl); (· kernel_rfl); (· intro w2; go_simp; try with_reducible rfl))
            (try simp only [Act.put, List.setIfInBounds_toArray, List.set_cons_zero, List.set_cons_succ])
            ((with_reducible refine Ord.e_p (v := ?_) ?_ ?_ ?_ ?_); rotate_left; (· exact rfl); (· kernel_rfl); (· intro w2; go_simp; try with_reducible rfl))
            (try simp only [Act.put, List.setIfInBounds_toArray, List.set_cons_zero, List.set_cons_succ])
            ((with_reducible refine Ord.e_p (v := ?_) ?_ ?_ ?_ ?_); rotate_left; (· exact rfl); (· kernel_rfl); (· intro w2; go_simp; try with_reducible rfl))
            (try simp only [Act.put, List.setIfInBounds_toArray, List.set_cons_zero, List.set_cons_succ])
            ((with_reducible refine Ord.e_p (v := ?_) ?_ ?_ ?_ ?_); rotate_left; (· exact rfl); (· kernel_rfl); (· intro w2; go_simp; try with_reducible rfl))
            (try simp only [Act.put, List.setIfInBounds_toArray, List.set_cons_zero, List.set_cons_succ])
            ((with_reducible refine Ord.e_p (v := ?_) ?_ ?_ ?_ ?_); rotate_left; (· exact rfl); (· kernel_rfl); (· intro w2; go_simp; try with_reducible rfl))
            (try simp only [Act.put, List.setIfInBounds_toArray, List.set_cons_zero, List.set_cons_succ])
            refine Ord.e_nil ?_
            clear f2 f3 f4 f5 hb5 hrn2' hrf2' hownq hown1 hlq z0 z1 z2 z3 z4 z5 z6
            by_cases hs0 : sE = 0
            · have hs0' : (sE : Int) = 0 := by omega
              have Hall := Lib.hid (Hts.out.2 hs0)
              go_wp2_with (at_builtin; refine stop_ ?_)
              refine go_ (wpList_app (base := w1.heap.size) (n := m) Tryz.underlying38 Hi.out rfl (by omega) hown6 rfl hrq rfl (bv_one _) (k := m + nq) (ys := bv (qP ++ (l.take (k + 1)).flatMap (shP satF))) rfl (by rw [Hts.out.1, ← List.append_assoc]; exact (bv_app _ _).symm) (by unfold maxLen; omega) (by omega) hb6.size ?_)
              intro A7 c7 w7 hown7 hup
              have hb7 : Below w1.heap.size w1 w7 := hup hb6 hb6.size (Nat.le_refl _)
              clear hup hown6 hrq hb6 hbf6
              go_wp2
              go_roundw
              case rel => exact ⟨k + 1, m + nq, A7, c7, by omega, by first | rfl | go_num, rfl, by omega, hown7, hb7, Hall⟩
              case measure => simp [intOf]; omega
            · have hs0' : ¬ (sE : Int) = 0 := by omega
              have e1 : oE = sE := by rw [HEE.out, if_pos (by rw [← HqE.out]), Hfirst.out hs0]
              subst e1
              have e2 : oP = [] := by rw [HoP.out]; unfold satsP; rw [if_neg (by rw [← HoE.out]; exact hs0)]
              subst e2
              clear hs0
              go_wp2
              go_ret2
              exact ⟨none, 0, 0, rfl, World.ownsRow_nil _ _ _ _, hbf6⟩
          · simp only [Ord.lst, List.filterMap_cons, List.filterMap_nil, List.getElem?_toArray, List.getElem?_cons_succ, List.getElem?_cons_zero]
            ((with_reducible refine Ord.e_p (v := ?_) ?_ ?_ ?_ ?_); rotate_left; (· exact rfl); (· kernel_rfl); (· intro w2; go_simp; try with_reducible rfl))
            (try simp only [Act.put, List.setIfInBounds_toArray, List.set_cons_zero, List.set_cons_succ])
            refine Ord.e_loadS Tryz.underlying2 rfl (fun w' hS => ((show Below _ v1 w' from hS).cell (p := ⟨gv, 0, none⟩) hltv).trans z0) f2 rfl (by kernel_rfl) ?_
            (try simp only [Act.put, List.setIfInBounds_toArray, List.set_cons_zero, List.set_cons_succ])
            ((with_reducible refine Ord.e_p (v := ?_) ?_ ?_ ?_ ?_); rotate_left; (· exact rfl); (· kernel_rfl); (· intro w2; go_simp; try with_reducible rfl))
            (try simp only [Act.put, List.setIfInBounds_toArray, List.set_cons_zero, List.set_cons_succ])
            refine Ord.e_loadS Tryz.underlying2 rfl (fun w' hS => ((show Below _ v1 w' from hS).cell (p := ⟨gv, 1, none⟩) hltv).trans z1) f2 rfl (by kernel_rfl) ?_
            (try simp only [Act.put, List.setIfInBounds_toArray, List.set_cons_zero, List.set_cons_succ])
            ((with_reducible refine Ord.e_p (v := ?_) ?_ ?_ ?_ ?_); rotate_left; (· exact rfl); (· kernel_rfl); (· intro w2; go_simp; try with_reducible rfl))
            (try simp only [Act.put, List.setIfInBounds_toArray, List.set_cons_zero, List.set_cons_succ])
            refine Ord.e_loadS Tryz.underlying2 rfl (fun w' hS => ((show Below _ v1 w' from hS).cell (p := ⟨gv, 2, none⟩) hltv).trans z2) f2 rfl (by kernel_rfl) ?_
            (try simp only [Act.put, List.setIfInBounds_toArray, List.set_cons_zero, List.set_cons_succ])
            ((with_reducible refine Ord.e_p (v := ?_) ?_ ?_ ?_ ?_); rotate_left; (· exact rfl); (· kernel_rfl); (· intro w2; go_simp; try with_reducible rfl))
            (try simp only [Act.put, List.setIfInBounds_toArray, List.set_cons_zero, List.set_cons_succ])
            refine Ord.e_loadS Tryz.underlying2 rfl (fun w' hS => ((show Below _ v1 w' from hS).cell (p := ⟨gv, 3, none⟩) hltv).trans z3) f2 rfl (by kernel_rfl) ?_
            (try simp only [Act.put, List.setIfInBounds_toArray, List.set_cons_zero, List.set_cons_succ])
            ((with_reducible refine Ord.e_p (v := ?_) ?_ ?_ ?_ ?_); rotate_left; (· exact rfl); (· kernel_rfl); (· intro w2; go_simp; try with_reducible rfl))
            (try simp only [Act.put, List.setIfInBounds_toArray, List.set_cons_zero, List.set_cons_succ])
            refine Ord.e_loadS Tryz.underlying2 rfl (fun w' hS => ((show Below _ v1 w' from hS).cell (p := ⟨gv, 4, none⟩) hltv).trans z4) f2 rfl (by kernel_rfl) ?_
            (try simp only [Act.put, List.setIfInBounds_toArray, List.set_cons_zero, List.set_cons_succ])
            ((with_reducible refine Ord.e_p (v := ?_) ?_ ?_ ?_ ?_); rotate_left; (· exact rfl); (· kernel_rfl); (· intro w2; go_simp; try with_reducible rfl))
            (try simp only [Act.put, List.setIfInBounds_toArray, List.set_cons_zero, List.set_cons_succ])
            refine Ord.e_loadS Tryz.underlying2 rfl (fun w' hS => ((show Below _ v1 w' from hS).cell (p := ⟨gv, 5, none⟩) hltv).trans z5) f2 rfl (by kernel_rfl) ?_
            (try simp only [Act.put, List.setIfInBounds_toArray, List.set_cons_zero, List.set_cons_succ])
            ((with_reducible refine Ord.e_p (v := ?_) ?_ ?_ ?_ ?_); rotate_left; (· exact rfl); (· kernel_rfl); (· intro w2; go_simp; try with_reducible rfl))
            (try simp only [Act.put, List.setIfInBounds_toArray, List.set_cons_zero, List.set_cons_succ])
            refine Ord.e_loadS Tryz.underlying2 rfl (fun w' hS => ((show Below _ v1 w' from hS).cell (p := ⟨gv, 6, none⟩) hltv).trans z6) f2 rfl (by kernel_rfl) ?_
            (try simp only [Act.put, List.setIfInBounds_toArray, List.set_cons_zero, List.set_cons_succ])
            refine Ord.e_x rfl (by kernel_rfl) ?_
            go_wp2
            have hrn2 : Rd (v2.alloc (.cells #[.int .i64 x0, .int .i64 x1, .int .i64 x2, .int .i64 x3, .int .i64 x4, .int .i64 x5, .int .i64 x6] 2)) (v2.heap.size + 1) 1 (some ⟨v2.heap.size, 0, none⟩) 7 7 ([x0, x1, x2, x3, x4, x5, x6].map (Value.int .i64)) := rd_lit' v2 2 [.int .i64 x0, .int .i64 x1, .int .i64 x2, .int .i64 x3, .int .i64 x4, .int .i64 x5, .int .i64 x6] (by simp [maxLen])
            have hbn2 : Below v2.heap.size v2 (v2.alloc (.cells #[.int .i64 x0, .int .i64 x1, .int .i64 x2, .int .i64 x3, .int .i64 x4, .int .i64 x5, .int .i64 x6] 2)) := (Below.refl _ _).alloc (Nat.le_refl _) _
            have hsn2 : (v2.alloc (.cells #[.int .i64 x0, .int .i64 x1, .int .i64 x2, .int .i64 x3, .int .i64 x4, .int .i64 x5, .int .i64 x6] 2)).heap.size = v2.heap.size + 1 := World.size_alloc _ _
            have f3 := f2.trans (hbn2.mono f2.size)
            refine Ord.Seg.go f3 (fun h => by cases h) ?_
            (try simp only [Act.put, List.setIfInBounds_toArray, List.set_cons_zero, List.set_cons_succ])
            generalize (v2.alloc (.cells #[.int .i64 x0, .int .i64 x1, .int .i64 x2, .int .i64 x3, .int .i64 x4, .int .i64 x5, .int .i64 x6] 2)) = v3 at *
            have Hsn2 := Lib.hid hsn2
            clear hsn2
            refine Ord.e_x rfl (by kernel_rfl) ?_
            go_wp2_with fail
            go_fit (qsatsShape_any v3)
            rintro e v4 ⟨Af2, nf2, cf2, rfl, hnf2, hrf2, hbf2⟩
            have f4 := f3.trans (hbf2.mono f3.size)
            go_wp2_with fail
            refine Ord.Seg.go f4 (fun h => by cases h) ?_
            (try simp only [Act.put, List.setIfInBounds_toArray, List.set_cons_zero, List.set_cons_succ])
            have hrn2' := hrn2.up (hbf2.mono (by rw [Hsn2.out]; exact Nat.le_refl _))
            have hrf2' := hrf2
            have hsz2 : v2.heap.size + 1 ≤ v4.heap.size := by rw [← Hsn2.out]; exact hbf2.size
            clear hbf2 hbn2 hrf2 hrn2
            refine Ord.e_x rfl (by kernel_rfl) ?_
            go_wp2_with fail
            go_fit (qPut14_any Af2 nf2 cf2 v4.heap.size satF (some ⟨v2.heap.size, 0, none⟩) 7 7 (v2.heap.size + 1) [x0, x1, x2, x3, x4, x5, x6] v4 hrf2' (Nat.le_refl _) hrn2' hsz2 (by omega))
            clear hsz2
            rw [← HsP.out, ← HsE.out]
            rintro e v5 ⟨Aq, nq, cq, rfl, hownq, hb5⟩
            have f5 := f4.trans (hb5.mono f4.size)
            have hb6 := hbx1.trans (f5.mono hbx1.size)
            have hown6 := own_up hown1 f5 (Nat.le_refl _)
            have hbf6 := hb1.trans (hb6.mono hb1.size)
            have hrq := Rd.own hownq
            have hlq := own_len hownq
            have hnq : nq ≤ 12 := by omega
            have hcqm := hrq.max
            unfold maxLen at hcqm
            go_wp2_with fail
            refine Ord.Seg.go f5 (fun h => by cases h) ?_
            (try simp only [Act.put, List.setIfInBounds_toArray, List.set_cons_zero, List.set_cons_succ])
            ((with_reducible refine Ord.e_p (v := ?_) ?_ ?_ ?_ ?_); rotate_left; (· exact rfl); (· kernel_rfl); (· intro w2; go_simp; try with_reducible rfl))
            (try simp only [Act.put, List.setIfInBounds_toArray, List.set_cons_zero, List.set_cons_succ])
            ((with_reducible refine Ord.e_p (v := ?_) ?_ ?_ ?_ ?_); rotate_left; (· exact rfl); (· kernel_rfl); (· intro w2; go_simp; try with_reducible rfl))
            (try simp only [Act.put, List.setIfInBounds_toArray, List.set_cons_zero, List.set_cons_succ])
            ((with_reducible refine Ord.e_p (v := ?_) ?_ ?_ ?_ ?_); rotate_left; (· exact rfl); (· kernel_rfl); (· intro w2; go_simp; try with_reducible rfl))
            (try simp only [Act.put, List.setIfInBounds_toArray, List.set_cons_zero, List.set_cons_succ])
            ((with_reducible refine Ord.e_p (v := ?_) ?_ ?_ ?_ ?_); rotate_left; (· exact rfl); (· kernel_rfl); (· intro w2; go_simp; try with_reducible rfl))
            (try simp only [Act.put, List.setIfInBounds_toArray, List.set_cons_zero, List.set_cons_succ])
            ((with_reducible refine Ord.e_p (v := ?_) ?_ ?_ ?_ ?_); rotate_left; (· exact rfl); (· kernel_rfl); (· intro w2; go_simp; try with_reducible rfl))
            (try simp only [Act.put, List.setIfInBounds_toArray, List.set_cons_zero, List.set_cons_succ])
            refine Ord.e_nil ?_
            clear f2 f3 f4 f5 hb5 hrn2' hrf2' hownq hown1 hlq z0 z1 z2 z3 z4 z5 z6
            by_cases hs0 : sE = 0
            · have hs0' : (sE : Int) = 0 := by omega
              have Hall := Lib.hid (Hts.out.2 hs0)
              go_wp2_with (at_builtin; refine stop_ ?_)
              refine go_ (wpList_app (base := w1.heap.size) (n := m) Tryz.underlying38 Hi.out rfl (by omega) hown6 rfl hrq rfl (bv_one _) (k := m + nq) (ys := bv (qP ++ (l.take (k + 1)).flatMap (shP satF))) rfl (by rw [Hts.out.1, ← List.append_assoc]; exact (bv_app _ _).symm) (by unfold maxLen; omega) (by omega) hb6.size ?_)
              intro A7 c7 w7 hown7 hup
              have hb7 : Below w1.heap.size w1 w7 := hup hb6 hb6.size (Nat.le_refl _)
              clear hup hown6 hrq hb6 hbf6
              go_wp2
              go_roundw
              case rel => exact ⟨k + 1, m + nq, A7, c7, by omega, by first | rfl | go_num, rfl, by omega, hown7, hb7, Hall⟩
              case measure => simp [intOf]; omega
            · have hs0' : ¬ (sE : Int) = 0 := by omega
              have e1 : oE = sE := by rw [HEE.out, if_pos (by rw [← HqE.out]), Hfirst.out hs0]
              subst e1
              have e2 : oP = [] := by rw [HoP.out]; unfold satsP; rw [if_neg (by rw [← HoE.out]; exact hs0)]
              subst e2
              clear hs0
              go_wp2
              go_ret2
              exact ⟨none, 0, 0, rfl, World.ownsRow_nil _ _ _ _, hbf6⟩
        · obtain rfl : k = n := by omega
          have ht : l.take k = l := List.take_of_length_le (by rw [Hll.out]; exact Nat.le_refl _)
          rw [ht] at hown hall
          have e1 : oE = 0 := by rw [HEE.out, if_pos (by rw [← HqE.out])]; exact satsEL_zero.2 hall.out
          have e2 : oP = qP ++ l.flatMap (shP satF) := by rw [HoP.out]; unfold satsP; rw [if_pos (by rw [← HoE.out]; exact e1)]; unfold satsB; rw [← HqP.out]
          subst e1
          rw [← e2] at hown
          clear ht e2
          go_wp2
          go_ret2
          exact ⟨_, _, _, rfl, own_mono hown hb1.size, hbw⟩
    · have hq' : ¬ (qE : Int) = 0 := by omega
      have e1 : oE = qE := by rw [HEE.out, if_neg (by rw [← HqE.out]; exact hq), HqE.out]
      subst e1
      have e2 : oP = [] := by rw [HoP.out]; unfold satsP; rw [if_neg (by rw [← HoE.out]; exact hq)]
      subst e2
      clear hq c0 c1
      go_wp2
      go_ret2
      exact ⟨none, 0, 0, rfl, World.ownsRow_nil _ _ _ _, hbf5⟩

end Go.Proofs.YtmkidihcdljkiaaGreat
