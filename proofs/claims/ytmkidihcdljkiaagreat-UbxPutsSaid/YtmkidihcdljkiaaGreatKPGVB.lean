/-
  The document's Put of layer 20 walked (printed by gen_val2.py).
-/
import Derived.Test.YtmkidihcdljkiaaGreatKPVal2
set_option linter.unusedSimpArgs false
set_option linter.unusedVariables false
namespace Go.Proofs.YtmkidihcdljkiaaGreat
open Go.RowKit NumLaw
attribute [local go_sem] Addr.add_mid

set_option maxRecDepth 10000 in
set_option maxHeartbeats 8000000 in
theorem qvalPut_any (t : Int) (A : Option Addr) (n c : Nat) (l : List (Int × Int)) (w : World) (hr : RdR w w.heap.size 2 A n c (l.map prC)) (ht : -9223372036854775808 ≤ t ∧ t ≤ 9223372036854775807) (hl : ∀ p ∈ l, (-9223372036854775808 ≤ p.1 ∧ p.1 ≤ 9223372036854775807) ∧ -9223372036854775808 ≤ p.2 ∧ p.2 ≤ 9223372036854775807) :
    Calls Tryz.prog 27 #[.agg #[.int .i64 t, .slice A n c]] w (RetPS w (valP t l) (valE t l)) := by
  have hll : l.length = n := by have := hr.1; simpa using this
  have hle := hr.2.2.1
  have hmx := hr.2.2.2.1
  unfold maxLen at hmx
  obtain ⟨i0, hi⟩ := info_parts u8_info
  have Hi := Lib.hid hi
  have Hll := Lib.hid hll
  have Hl := Lib.hid hl
  clear hl
  have hvb : ∀ z ∈ vhV t, -9223372036854775808 ≤ z ∧ z ≤ 9223372036854775807 := by intro z hz; simp [vhV] at hz; rcases hz with rfl | rfl | rfl <;> omega
  have Hvb := Lib.hid hvb
  clear hi hvb
  have hb1 : Below w.heap.size w (w.alloc (.cells #[.int .i64 t, .slice A n c] 33)) := (Below.refl _ _).alloc (Nat.le_refl _) _
  have hbox := heap_alloc_new w (.cells #[.int .i64 t, .slice A n c] 33)
  have c0 : (w.alloc (.cells #[.int .i64 t, .slice A n c] 33)).cell? ⟨w.heap.size, 0, none⟩ = some (.int .i64 t) := blk_cell hbox rfl
  have c1 : (w.alloc (.cells #[.int .i64 t, .slice A n c] 33)).cell? ⟨w.heap.size, 1, none⟩ = some (.slice A n c) := blk_cell hbox rfl
  by_cases h32 : 32 < n
  · have hE : valE t l = 7 := by unfold valE; rw [if_pos (by omega)]
    rw [show valP t l = [] by unfold valP; rw [hE]; rfl, hE]
    clear hE hll
    go_enter Tryz.func27, Tryz.ntmps27
    go_wp2
    go_ret2
    exact ⟨none, 0, 0, rfl, World.ownsRow_nil _ _ _ _, hb1⟩
  obtain ⟨oP, hoP⟩ : ∃ p, p = valP t l := ⟨_, rfl⟩
  obtain ⟨oE, hoE⟩ : ∃ p, p = valE t l := ⟨_, rfl⟩
  rw [← hoP, ← hoE]
  have hEE : oE = if shE vhF (vhV t) = 0 then valEL l else shE vhF (vhV t) := by rw [hoE]; unfold valE; rw [if_neg (by omega)]
  have hlv : vhV t = [0, t, 0] := rfl
  have HoP := Lib.hid hoP
  have HoE := Lib.hid hoE
  have HEE := Lib.hid hEE
  have Hlv := Lib.hid hlv
  obtain ⟨qP, hqP⟩ : ∃ p, p = shP vhF (vhV t) := ⟨_, rfl⟩
  obtain ⟨qE, hqE⟩ : ∃ p, p = shE vhF (vhV t) := ⟨_, rfl⟩
  have HqP := Lib.hid hqP
  have HqE := Lib.hid hqE
  clear hoP hoE hEE hlv hll hqP hqE
  go_enter Tryz.func27, Tryz.ntmps27
  go_wp2_with fail
  generalize (w.alloc (.cells #[.int .i64 t, .slice A n c] 33)) = w1 at *
  have hlt := blk_lt hbox
  clear hbox
  refine Ord.region_m [0, 3] [[0, 1, 2, 3, 4, 5, 6, 7, 8, 9], [1, 2, 3, 0, 4, 5, 6, 7, 8, 9]] (fun w' => Below w1.heap.size w1 w') false [] (by kernel_rfl) (by kernel_rfl) ((Below.refl _ _).drew) ?_
  have h2 : Below w1.heap.size w1 w1.drew := (Below.refl _ _).drew
  generalize w1.drew = w2 at *
  intro L hL
  simp only [List.mem_cons, List.not_mem_nil, or_false] at hL
  rcases hL with rfl | rfl
  · simp only [Ord.lst, List.filterMap_cons, List.filterMap_nil, List.getElem?_toArray, List.getElem?_cons_succ, List.getElem?_cons_zero]
    refine Ord.e_x rfl (by kernel_rfl) ?_
    go_wp2_with fail
    go_fit (qvhead_any w2)
    rintro e w3 ⟨Af, nf, cf, rfl, hnf, hrf, hbf⟩
    have h3 := h2.trans (hbf.mono h2.size)
    go_wp2_with fail
    refine Ord.Seg.go h3 (fun h => by cases h) ?_
    (try simp only [Act.put, List.setIfInBounds_toArray, List.set_cons_zero, List.set_cons_succ])
    ((with_reducible refine Ord.e_p (v := ?_) ?_ ?_ ?_ ?_); rotate_left; (· exact rfl); (· kernel_rfl); (· intro w2; go_simp; try with_reducible rfl))
    (try simp only [Act.put, List.setIfInBounds_toArray, List.set_cons_zero, List.set_cons_succ])
    refine Ord.e_loadS Tryz.underlying2 rfl (fun w' hS => ((show Below _ w1 w' from hS).cell (p := ⟨w.heap.size, 0, none⟩) hlt).trans c0) h3 rfl (by kernel_rfl) ?_
    (try simp only [Act.put, List.setIfInBounds_toArray, List.set_cons_zero, List.set_cons_succ])
    refine Ord.e_x rfl (by kernel_rfl) ?_
    go_wp2
    have hrn : Rd (w3.alloc (.cells #[.int .i64 0, .int .i64 t, .int .i64 0] 2)) (w3.heap.size + 1) 1 (some ⟨w3.heap.size, 0, none⟩) 3 3 ([0, t, 0].map (Value.int .i64)) := rd_lit' w3 2 [.int .i64 0, .int .i64 t, .int .i64 0] (by simp [maxLen])
    have hbn : Below w3.heap.size w3 (w3.alloc (.cells #[.int .i64 0, .int .i64 t, .int .i64 0] 2)) := (Below.refl _ _).alloc (Nat.le_refl _) _
    have hsn : (w3.alloc (.cells #[.int .i64 0, .int .i64 t, .int .i64 0] 2)).heap.size = w3.heap.size + 1 := World.size_alloc _ _
    have h4 := h3.trans (hbn.mono h3.size)
    refine Ord.Seg.go h4 (fun h => by cases h) ?_
    (try simp only [Act.put, List.setIfInBounds_toArray, List.set_cons_zero, List.set_cons_succ])
    generalize (w3.alloc (.cells #[.int .i64 0, .int .i64 t, .int .i64 0] 2)) = w4 at *
    have Hsn := Lib.hid hsn
    clear hsn
    have hrf' := hrf.up hbn
    have hrn' := hrn
    have hsz := hbn.size
    clear hbf hbn hrf hrn
    refine Ord.e_x rfl (by kernel_rfl) ?_
    go_wp2_with fail
    go_fit (qPut14_any Af nf cf w3.heap.size vhF (some ⟨w3.heap.size, 0, none⟩) 3 3 (w3.heap.size + 1) [0, t, 0] w4 hrf' hsz hrn' (by rw [Hsn.out]; omega) (by omega))
    clear hsz
    rw [← Hlv.out, ← HqP.out, ← HqE.out]
    rintro e w5 ⟨Ap, np, cp, rfl, hown, hb45⟩
    have h5 := h4.trans (hb45.mono h4.size)
    have hbf5 := hb1.trans (h5.mono hb1.size)
    have hown' := own_mono hown (base' := w1.heap.size) h4.size
    go_wp2_with fail
    refine Ord.Seg.go h5 (fun h => by cases h) ?_
    (try simp only [Act.put, List.setIfInBounds_toArray, List.set_cons_zero, List.set_cons_succ])
    ((with_reducible refine Ord.e_p (v := ?_) ?_ ?_ ?_ ?_); rotate_left; (· exact rfl); (· kernel_rfl); (· intro w2; go_simp; try with_reducible rfl))
    (try simp only [Act.put, List.setIfInBounds_toArray, List.set_cons_zero, List.set_cons_succ])
    ((with_reducible refine Ord.e_p (v := ?_) ?_ ?_ ?_ ?_); rotate_left; (· exact rfl); (· kernel_rfl); (· intro w2; go_simp; try with_reducible rfl))
    (try simp only [Act.put, List.setIfInBounds_toArray, List.set_cons_zero, List.set_cons_succ])
    ((with_reducible refine Ord.e_p (v := ?_) ?_ ?_ ?_ ?_); rotate_left; (· exact rfl); (· kernel_rfl); (· intro w2; go_simp; try with_reducible rfl))
    (try simp only [Act.put, List.setIfInBounds_toArray, List.set_cons_zero, List.set_cons_succ])
    ((with_reducible refine Ord.e_p (v := ?_) ?_ ?_ ?_ ?_); rotate_left; (· exact rfl); (· kernel_rfl); (· intro w2; go_simp; try with_reducible rfl))
    (try simp only [Act.put, List.setIfInBounds_toArray, List.set_cons_zero, List.set_cons_succ])
    ((with_reducible refine Ord.e_p (v := ?_) ?_ ?_ ?_ ?_); rotate_left; (· exact rfl); (· kernel_rfl); (· intro w2; go_simp; try with_reducible rfl))
    (try simp only [Act.put, List.setIfInBounds_toArray, List.set_cons_zero, List.set_cons_succ])
    refine Ord.e_nil ?_
    clear h2 h3 h4 hb45 hown hrn' hrf'
    by_cases hq : qE = 0
    · have HQ : Hid (qE = 0) := Lib.hid hq
      have hlp : np = 4 := by rw [← own_len hown', HqP.out, vhP_len (by rw [← HqE.out]; exact hq)]
      subst hlp
      subst hq
      rw [show ((0 : Nat) : Int) = 0 from rfl]
      go_wp2_with fail
      go_loopw [4, 6] (fun s i wr => ∃ (k m : Nat) (A2 : Option Addr) (c2 : Nat), k ≤ n ∧ i = .int .i64 k ∧ s = .slice A2 m c2 ∧ m ≤ 4 + 12 * k ∧ wr.ownsRow w1.heap.size 5 1 (.slice A2 m c2) m (bv (qP ++ (l.take k).flatMap prB)) ∧ Below w1.heap.size w1 wr ∧ Hid (∀ p ∈ l.take k, prE p = 0)) (fun _ i _ => n - (intOf i).toNat)
      case atStart => exact ⟨0, 4, Ap, cp, by omega, rfl, rfl, by omega, by simpa using hown', h5, Lib.hid (by simp)⟩
      case round =>
        clear hown' h5 hbf5 w5
        obtain ⟨k, m, A2, c2, hk, rfl, rfl, hm, hown, hb, hall⟩ := hrel
        have hbw := hb1.trans (hb.mono hb1.size)
        have d1 := (hb.cell (p := ⟨w.heap.size, 1, none⟩) hlt).trans c1
        by_cases hlt2 : k < n
        · obtain ⟨g1, off, rr, hA, hg1, hx, hrl, hrow⟩ := hr.at_ hlt2
          obtain ⟨⟨kx, vx⟩, hs, rfl⟩ : ∃ p, l[k]? = some p ∧ prC p = rr := by simpa using hx
          have hts : l.take (k + 1) = l.take k ++ [(kx, vx)] := take_succ hs
          have hfirst : prE (kx, vx) ≠ 0 → valEL l = prE (kx, vx) := fun h => valEL_at hs hall.out h
          have Hts : Hid ((l.take (k + 1)).flatMap prB = (l.take k).flatMap prB ++ prB (kx, vx) ∧ (prE (kx, vx) = 0 → ∀ x ∈ l.take (k + 1), prE x = 0)) := Lib.hid ⟨by rw [hts, List.flatMap_append]; simp, fun h0 x hx => by
            rw [hts] at hx
            rcases List.mem_append.1 hx with hx | hx
            · exact hall.out x hx
            · simp at hx; rw [hx]; exact h0⟩
          have Hfirst := Lib.hid hfirst
          have Hrow := Lib.hid hrow
          have Hx := Lib.hid (List.mem_of_getElem? hs)
          clear hs hx hrow hrl hts hfirst
          subst hA
          obtain ⟨⟨hk0, hk1⟩, hv0, hv1⟩ := Hl.out _ Hx.out
          simp only at hk0 hk1 hv0 hv1
          have q0 : wr.cell? ⟨g1, off + k * 2, none⟩ = some (.int .i64 kx) := (hbw.cell (p := ⟨g1, off + k * 2 + 0, none⟩) hg1).trans (Hrow.out 0 _ rfl)
          have hs := qvsize_any kx wr ⟨hk0, hk1⟩
          go_wp2_with fail
          clear q0 d1
          by_cases hz : szN kx = 0
          · rw [show decide (szN kx ≠ 0) = false from decide_eq_false (by omega)] at hs
            have e1 : oE = 6 := by rw [HEE.out, if_pos (by rw [← HqE.out]), Hfirst.out (by unfold prE; simp only; rw [if_pos hz]; omega)]; unfold prE; simp only; rw [if_pos hz]
            subst e1
            have e2 : oP = [] := by rw [HoP.out]; unfold valP; rw [if_neg (by rw [← HoE.out]; omega)]
            subst e2
            go_fit hs
            rintro e x2 ⟨rfl, hb12⟩
            have hbz := hb1.trans ((hb.trans (hb12.mono hb.size)).mono hb1.size)
            go_wp2
            go_ret2
            exact ⟨none, 0, 0, rfl, World.ownsRow_nil _ _ _ _, hbz⟩
          rw [show decide (szN kx ≠ 0) = true from decide_eq_true hz] at hs
          obtain ⟨hk2, hk3⟩ := sz_in hz
          go_fit hs
          rintro e x2 ⟨rfl, hb12⟩
          have hb2 := hb.trans (hb12.mono hb.size)
          have hown2 := own_up hown hb12 (Nat.le_refl _)
          clear hs hb12 hown hb hbw
          have hbw2 := hb1.trans (hb2.mono hb1.size)
          by_cases hv : vx < 0
          · have hd : decide (vx < 0) = true := decide_eq_true hv
            have e1 : oE = 5 := by rw [HEE.out, if_pos (by rw [← HqE.out]), Hfirst.out (by unfold prE; simp only; rw [if_neg hz, if_pos (by omega)]; omega)]; unfold prE; simp only; rw [if_neg hz, if_pos (by omega)]
            subst e1
            have e2 : oP = [] := by rw [HoP.out]; unfold valP; rw [if_neg (by rw [← HoE.out]; omega)]
            subst e2
            go_wp2_with fail
            refine Ord.region_ (fun w' => Below w1.heap.size w1 w') false [] (by kernel_rfl) (by kernel_rfl) (hb2.drew) ?_
            replace hb2 := hb2.drew
            generalize x2.drew = x3 at *
            ((with_reducible refine Ord.e_p (v := ?_) ?_ ?_ ?_ ?_); rotate_left; (· exact rfl); (· kernel_rfl); (· intro w2; go_simp; try with_reducible rfl))
            (try simp only [Act.put, List.setIfInBounds_toArray, List.set_cons_zero, List.set_cons_succ])
            refine Ord.e_loadS Tryz.underlying31 rfl (fun w' hS => ((show Below _ w1 w' from hS).cell (p := ⟨w.heap.size, 1, none⟩) hlt).trans c1) hb2 rfl (by kernel_rfl) ?_
            (try simp only [Act.put, List.setIfInBounds_toArray, List.set_cons_zero, List.set_cons_succ])
            ((with_reducible refine Ord.e_p (v := ?_) ?_ ?_ ?_ ?_); rotate_left; (· exact rfl); (· kernel_rfl); (· intro w2; go_simp; try with_reducible rfl))
            (try simp only [Act.put, List.setIfInBounds_toArray, List.set_cons_zero, List.set_cons_succ])
            ((with_reducible refine Ord.e_p (v := ?_) ?_ ?_ ?_ ?_); rotate_left; (· exact rfl); (· kernel_rfl); (· intro w2; go_simp; try with_reducible rfl))
            (try simp only [Act.put, List.setIfInBounds_toArray, List.set_cons_zero, List.set_cons_succ])
            ((with_reducible refine Ord.e_p (v := ?_) ?_ ?_ ?_ ?_); rotate_left; (· exact rfl); (· kernel_rfl); (· intro w2; go_simp; try with_reducible rfl))
            (try simp only [Act.put, List.setIfInBounds_toArray, List.set_cons_zero, List.set_cons_succ])
            refine Ord.e_loadS Tryz.underlying2 rfl (fun w' hS => ((hb1.trans ((show Below _ w1 w' from hS).mono hb1.size)).cell (p := ⟨g1, off + k * 2 + 1, none⟩) hg1).trans (Hrow.out 1 _ rfl)) hb2 rfl (by kernel_rfl) ?_
            (try simp only [Act.put, List.setIfInBounds_toArray, List.set_cons_zero, List.set_cons_succ])
            ((with_reducible refine Ord.e_p (v := ?_) ?_ ?_ ?_ ?_); rotate_left; (· exact rfl); (· kernel_rfl); (· intro w2; go_simp; try with_reducible rfl))
            (try simp only [Act.put, List.setIfInBounds_toArray, List.set_cons_zero, List.set_cons_succ])
            ((with_reducible refine Ord.e_p (v := ?_) ?_ ?_ ?_ ?_); rotate_left; (· exact rfl); (· kernel_rfl); (· intro w2; go_simp; try with_reducible rfl))
            (try simp only [Act.put, List.setIfInBounds_toArray, List.set_cons_zero, List.set_cons_succ])
            ((with_reducible refine Ord.e_u ?_ ?_); (· kernel_rfl))
            ((with_reducible refine Ord.e_u ?_ ?_); (· kernel_rfl))
            ((with_reducible refine Ord.e_u ?_ ?_); (· kernel_rfl))
            ((with_reducible refine Ord.e_u ?_ ?_); (· kernel_rfl))
            ((with_reducible refine Ord.e_u ?_ ?_); (· kernel_rfl))
            ((with_reducible refine Ord.e_u ?_ ?_); (· kernel_rfl))
            ((with_reducible refine Ord.e_u ?_ ?_); (· kernel_rfl))
            ((with_reducible refine Ord.e_u ?_ ?_); (· kernel_rfl))
            ((with_reducible refine Ord.e_u ?_ ?_); (· kernel_rfl))
            ((with_reducible refine Ord.e_u ?_ ?_); (· kernel_rfl))
            ((with_reducible refine Ord.e_u ?_ ?_); (· kernel_rfl))
            ((with_reducible refine Ord.e_u ?_ ?_); (· kernel_rfl))
            ((with_reducible refine Ord.e_u ?_ ?_); (· kernel_rfl))
            ((with_reducible refine Ord.e_u ?_ ?_); (· kernel_rfl))
            ((with_reducible refine Ord.e_p (v := ?_) ?_ ?_ ?_ ?_); rotate_left; (· exact rfl); (· kernel_rfl); (· intro w2; go_simp; try with_reducible rfl))
            (try simp only [Act.put, List.setIfInBounds_toArray, List.set_cons_zero, List.set_cons_succ])
            refine Ord.e_nil ?_
            have hbz := hb1.trans (hb2.mono hb1.size)
            go_wp2
            go_ret2
            exact ⟨none, 0, 0, rfl, World.ownsRow_nil _ _ _ _, hbz⟩
          have hd : decide (vx < 0) = false := decide_eq_false hv
          go_wp2_with fail
          refine Ord.region_ (fun w' => Below w1.heap.size w1 w') false [] (by kernel_rfl) (by kernel_rfl) (hb2.drew) ?_
          have f2 : Below x2.heap.size x2 x2.drew := (Below.refl _ _).drew
          replace hb2 := hb2.drew
          replace hown2 := own_up hown2 f2 (Nat.le_refl _)
          generalize x2.drew = x3 at *
          clear f2
          ((with_reducible refine Ord.e_p (v := ?_) ?_ ?_ ?_ ?_); rotate_left; (· exact rfl); (· kernel_rfl); (· intro w2; go_simp; try with_reducible rfl))
          (try simp only [Act.put, List.setIfInBounds_toArray, List.set_cons_zero, List.set_cons_succ])
          refine Ord.e_loadS Tryz.underlying31 rfl (fun w' hS => ((show Below _ w1 w' from hS).cell (p := ⟨w.heap.size, 1, none⟩) hlt).trans c1) hb2 rfl (by kernel_rfl) ?_
          (try simp only [Act.put, List.setIfInBounds_toArray, List.set_cons_zero, List.set_cons_succ])
          ((with_reducible refine Ord.e_p (v := ?_) ?_ ?_ ?_ ?_); rotate_left; (· exact rfl); (· kernel_rfl); (· intro w2; go_simp; try with_reducible rfl))
          (try simp only [Act.put, List.setIfInBounds_toArray, List.set_cons_zero, List.set_cons_succ])
          ((with_reducible refine Ord.e_p (v := ?_) ?_ ?_ ?_ ?_); rotate_left; (· exact rfl); (· kernel_rfl); (· intro w2; go_simp; try with_reducible rfl))
          (try simp only [Act.put, List.setIfInBounds_toArray, List.set_cons_zero, List.set_cons_succ])
          ((with_reducible refine Ord.e_p (v := ?_) ?_ ?_ ?_ ?_); rotate_left; (· exact rfl); (· kernel_rfl); (· intro w2; go_simp; try with_reducible rfl))
          (try simp only [Act.put, List.setIfInBounds_toArray, List.set_cons_zero, List.set_cons_succ])
          refine Ord.e_loadS Tryz.underlying2 rfl (fun w' hS => ((hb1.trans ((show Below _ w1 w' from hS).mono hb1.size)).cell (p := ⟨g1, off + k * 2 + 1, none⟩) hg1).trans (Hrow.out 1 _ rfl)) hb2 rfl (by kernel_rfl) ?_
          (try simp only [Act.put, List.setIfInBounds_toArray, List.set_cons_zero, List.set_cons_succ])
          ((with_reducible refine Ord.e_p (v := ?_) ?_ ?_ ?_ ?_); rotate_left; (· exact rfl); (· kernel_rfl); (· intro w2; go_simp; try with_reducible rfl))
          (try simp only [Act.put, List.setIfInBounds_toArray, List.set_cons_zero, List.set_cons_succ])
          ((with_reducible refine Ord.e_p (v := ?_) ?_ ?_ ?_ ?_); rotate_left; (· exact rfl); (· kernel_rfl); (· intro w2; go_simp; try with_reducible rfl))
          (try simp only [Act.put, List.setIfInBounds_toArray, List.set_cons_zero, List.set_cons_succ])
          ((with_reducible refine Ord.e_p (v := ?_) ?_ ?_ ?_ ?_); rotate_left; (· exact rfl); (· kernel_rfl); (· intro w2; go_simp; try with_reducible rfl))
          (try simp only [Act.put, List.setIfInBounds_toArray, List.set_cons_zero, List.set_cons_succ])
          refine Ord.e_loadS Tryz.underlying31 rfl (fun w' hS => ((show Below _ w1 w' from hS).cell (p := ⟨w.heap.size, 1, none⟩) hlt).trans c1) hb2 rfl (by kernel_rfl) ?_
          (try simp only [Act.put, List.setIfInBounds_toArray, List.set_cons_zero, List.set_cons_succ])
          ((with_reducible refine Ord.e_p (v := ?_) ?_ ?_ ?_ ?_); rotate_left; (· exact rfl); (· kernel_rfl); (· intro w2; go_simp; try with_reducible rfl))
          (try simp only [Act.put, List.setIfInBounds_toArray, List.set_cons_zero, List.set_cons_succ])
          ((with_reducible refine Ord.e_p (v := ?_) ?_ ?_ ?_ ?_); rotate_left; (· exact rfl); (· kernel_rfl); (· intro w2; go_simp; try with_reducible rfl))
          (try simp only [Act.put, List.setIfInBounds_toArray, List.set_cons_zero, List.set_cons_succ])
          ((with_reducible refine Ord.e_p (v := ?_) ?_ ?_ ?_ ?_); rotate_left; (· exact rfl); (· kernel_rfl); (· intro w2; go_simp; try with_reducible rfl))
          (try simp only [Act.put, List.setIfInBounds_toArray, List.set_cons_zero, List.set_cons_succ])
          refine Ord.e_loadS Tryz.underlying2 rfl (fun w' hS => ((hb1.trans ((show Below _ w1 w' from hS).mono hb1.size)).cell (p := ⟨g1, off + k * 2 + 1, none⟩) hg1).trans (Hrow.out 1 _ rfl)) hb2 rfl (by kernel_rfl) ?_
          (try simp only [Act.put, List.setIfInBounds_toArray, List.set_cons_zero, List.set_cons_succ])
          ((with_reducible refine Ord.e_p (v := ?_) ?_ ?_ ?_ ?_); rotate_left; (· exact rfl); (· kernel_rfl); (· intro w2; go_simp; try with_reducible rfl))
          (try simp only [Act.put, List.setIfInBounds_toArray, List.set_cons_zero, List.set_cons_succ])
          refine Ord.e_loadS Tryz.underlying31 rfl (fun w' hS => ((show Below _ w1 w' from hS).cell (p := ⟨w.heap.size, 1, none⟩) hlt).trans c1) hb2 rfl (by kernel_rfl) ?_
          (try simp only [Act.put, List.setIfInBounds_toArray, List.set_cons_zero, List.set_cons_succ])
          ((with_reducible refine Ord.e_p (v := ?_) ?_ ?_ ?_ ?_); rotate_left; (· exact rfl); (· kernel_rfl); (· intro w2; go_simp; try with_reducible rfl))
          (try simp only [Act.put, List.setIfInBounds_toArray, List.set_cons_zero, List.set_cons_succ])
          ((with_reducible refine Ord.e_p (v := ?_) ?_ ?_ ?_ ?_); rotate_left; (· exact rfl); (· kernel_rfl); (· intro w2; go_simp; try with_reducible rfl))
          (try simp only [Act.put, List.setIfInBounds_toArray, List.set_cons_zero, List.set_cons_succ])
          ((with_reducible refine Ord.e_p (v := ?_) ?_ ?_ ?_ ?_); rotate_left; (· exact rfl); (· kernel_rfl); (· intro w2; go_simp; try with_reducible rfl))
          (try simp only [Act.put, List.setIfInBounds_toArray, List.set_cons_zero, List.set_cons_succ])
          refine Ord.e_loadS Tryz.underlying2 rfl (fun w' hS => ((hb1.trans ((show Below _ w1 w' from hS).mono hb1.size)).cell (p := ⟨g1, off + k * 2 + 0, none⟩) hg1).trans (Hrow.out 0 _ rfl)) hb2 rfl (by kernel_rfl) ?_
          (try simp only [Act.put, List.setIfInBounds_toArray, List.set_cons_zero, List.set_cons_succ])
          refine Ord.e_x rfl (by kernel_rfl) ?_
          go_wp2_with fail
          go_fit (qvmost_any kx x3 ⟨hk0, hk1⟩)
          rintro e x4 ⟨rfl, hb34⟩
          have hb4 := hb2.trans (hb34.mono hb2.size)
          have hown4 := own_up hown2 hb34 (Nat.le_refl _)
          go_wp2_with fail
          refine Ord.Seg.go hb4 (fun h => by cases h) ?_
          (try simp only [Act.put, List.setIfInBounds_toArray, List.set_cons_zero, List.set_cons_succ])
          clear hb34 hown2 hb2
          by_cases hm : (msN kx : Int) < vx
          · have e1 : oE = 5 := by rw [HEE.out, if_pos (by rw [← HqE.out]), Hfirst.out (by unfold prE; simp only; rw [if_neg hz, if_pos (by omega)]; omega)]; unfold prE; simp only; rw [if_neg hz, if_pos (by omega)]
            subst e1
            have e2 : oP = [] := by rw [HoP.out]; unfold valP; rw [if_neg (by rw [← HoE.out]; omega)]
            subst e2
            have hd2 : decide ((msN kx : Int) < vx) = true := decide_eq_true hm
            ((with_reducible refine Ord.e_p (v := ?_) ?_ ?_ ?_ ?_); rotate_left; (· exact rfl); (· kernel_rfl); (· intro w2; go_simp; try with_reducible rfl))
            (try simp only [Act.put, List.setIfInBounds_toArray, List.set_cons_zero, List.set_cons_succ])
            ((with_reducible refine Ord.e_p (v := ?_) ?_ ?_ ?_ ?_); rotate_left; (· exact rfl); (· kernel_rfl); (· intro w2; go_simp; try with_reducible rfl))
            (try simp only [Act.put, List.setIfInBounds_toArray, List.set_cons_zero, List.set_cons_succ])
            refine Ord.e_nil ?_
            have hbz := hb1.trans (hb4.mono hb1.size)
            go_wp2
            go_ret2
            exact ⟨none, 0, 0, rfl, World.ownsRow_nil _ _ _ _, hbz⟩
          have hd2 : decide ((msN kx : Int) < vx) = false := decide_eq_false hm
          ((with_reducible refine Ord.e_p (v := ?_) ?_ ?_ ?_ ?_); rotate_left; (· exact rfl); (· kernel_rfl); (· intro w2; go_simp; try with_reducible rfl))
          (try simp only [Act.put, List.setIfInBounds_toArray, List.set_cons_zero, List.set_cons_succ])
          ((with_reducible refine Ord.e_p (v := ?_) ?_ ?_ ?_ ?_); rotate_left; (· exact rfl); (· kernel_rfl); (· intro w2; go_simp; try with_reducible rfl))
          (try simp only [Act.put, List.setIfInBounds_toArray, List.set_cons_zero, List.set_cons_succ])
          refine Ord.e_nil ?_
          clear hd hd2
          have Hok := Lib.hid (show prE (kx, vx) = 0 by unfold prE; simp only; rw [if_neg hz, if_neg (by omega)])
          have hml := ms_le kx
          have Hpb : Hid (prB (kx, vx) = bytesN 4 kx.toNat ++ bytesN (szN kx) vx.toNat) := Lib.hid rfl
          obtain ⟨kn, rfl⟩ : ∃ kn : Nat, kx = kn := ⟨kx.toNat, by omega⟩
          obtain ⟨vn, rfl⟩ : ∃ vn : Nat, vx = vn := ⟨vx.toNat, by omega⟩
          have hsl := sz_le (kn : Int)
          have hvn : vn ≤ 9223372036854775807 := by omega
          have hwk : IntKind.u64.wrap (kn : Int) = kn := IntWalk.u64_in _ (by omega)
          have hwv : IntKind.u64.wrap (vn : Int) = vn := IntWalk.u64_in _ (by omega)
          clear hml hm hv
          generalize szN (kn : Int) = sn at *
          have hbw4 := hb1.trans (hb4.mono hb1.size)
          have d1 := (hb4.cell (p := ⟨w.heap.size, 1, none⟩) hlt).trans c1
          have q0 : x4.cell? ⟨g1, off + k * 2, none⟩ = some (.int .i64 (kn : Int)) := (hbw4.cell (p := ⟨g1, off + k * 2 + 0, none⟩) hg1).trans (Hrow.out 0 _ rfl)
          have hby := qBytes_any 4 kn x4 (by omega) (by omega)
          rw [show ((4 : Nat) : Int) = 4 from rfl] at hby
          go_wp2_with fail
          go_fit hby
          rintro e x5 ⟨A5, c5, n5, rfl, hown5, hb45⟩
          have hl5 := own_len hown5
          rw [bytesN_len] at hl5
          subst hl5
          have hr5 := Rd.own hown5
          have hown6 := own_up hown4 hb45 (Nat.le_refl _)
          have hb5 := hb4.trans (hb45.mono hb4.size)
          have hcm5 := hr5.max
          unfold maxLen at hcm5
          clear d1 q0 hby hown5 hb45 hown4 hb4 hbw4
          go_wp2_with (at_builtin; refine stop_ ?_)
          refine go_ (wpList_app (base := w1.heap.size) (n := m) Tryz.underlying38 Hi.out rfl (by omega) hown6 rfl hr5 rfl (bv_one _) (k := m + 4) (ys := bv (qP ++ (l.take k).flatMap prB ++ bytesN 4 kn)) rfl (bv_app _ _).symm (by unfold maxLen; omega) (by omega) hb5.size ?_)
          intro A7 c7 x7 hown7 hup
          have hb7 : Below w1.heap.size w1 x7 := hup hb5 hb5.size (Nat.le_refl _)
          clear hup hown6 hr5 hb5
          have hbw7 := hb1.trans (hb7.mono hb1.size)
          have d1 := (hb7.cell (p := ⟨w.heap.size, 1, none⟩) hlt).trans c1
          have q1 : x7.cell? ⟨g1, off + k * 2 + 1, none⟩ = some (.int .i64 (vn : Int)) := (hbw7.cell (p := ⟨g1, off + k * 2 + 1, none⟩) hg1).trans (Hrow.out 1 _ rfl)
          go_wp2_with fail
          go_fit (qBytes_any sn vn x7 hsl (by omega))
          rintro e x8 ⟨A8, c8, n8, rfl, hown8, hb78⟩
          have hl8 := own_len hown8
          rw [bytesN_len] at hl8
          subst hl8
          have hr8 := Rd.own hown8
          have hown9 := own_up hown7 hb78 (Nat.le_refl _)
          have hb8 := hb7.trans (hb78.mono hb7.size)
          have hcm8 := hr8.max
          unfold maxLen at hcm8
          clear d1 q1 hown8 hb78 hown7 hb7 hbw7
          go_wp2_with (at_builtin; refine stop_ ?_)
          refine go_ (wpList_app (base := w1.heap.size) (n := m + 4) Tryz.underlying38 Hi.out rfl (by omega) hown9 rfl hr8 rfl (bv_one _) (k := m + 4 + sn) (ys := bv (qP ++ (l.take k).flatMap prB ++ bytesN 4 kn ++ bytesN sn vn)) rfl (bv_app _ _).symm (by unfold maxLen; omega) (by omega) hb8.size ?_)
          intro Aa ca xa howna hup
          have hba : Below w1.heap.size w1 xa := hup hb8 hb8.size (Nat.le_refl _)
          clear hup hown9 hr8 hb8
          go_wp2
          go_roundw
          case rel =>
            refine ⟨k + 1, m + 4 + sn, Aa, ca, by omega, by go_num, rfl, by omega, ?_, hba, Lib.hid (Hts.out.2 Hok.out)⟩
            rw [Hts.out.1, Hpb.out, Int.toNat_natCast, Int.toNat_natCast]
            simpa [List.append_assoc] using howna
          case measure => simp [intOf]; omega
        · obtain rfl : k = n := by omega
          have ht : l.take k = l := List.take_of_length_le (by rw [Hll.out]; exact Nat.le_refl _)
          rw [ht] at hown hall
          have e1 : oE = 0 := by rw [HEE.out, if_pos (by rw [← HqE.out])]; exact valEL_zero.2 hall.out
          have e2 : oP = qP ++ l.flatMap prB := by rw [HoP.out]; unfold valP; rw [if_pos (by rw [← HoE.out]; exact e1)]; unfold valB; rw [← HqP.out]
          subst e1
          rw [← e2] at hown
          clear ht e2
          go_wp2
          go_ret2
          exact ⟨_, _, _, rfl, own_mono hown hb1.size, hbw⟩
    · have hq' : ¬ (qE : Int) = 0 := by omega
      have e1 : oE = qE := by rw [HEE.out, if_neg (by rw [← HqE.out]; exact hq), HqE.out]
      subst e1
      have e2 : oP = [] := by rw [HoP.out]; unfold valP; rw [if_neg (by rw [← HoE.out]; exact hq)]
      subst e2
      clear hq c0 c1
      go_wp2
      go_ret2
      exact ⟨none, 0, 0, rfl, World.ownsRow_nil _ _ _ _, hbf5⟩
  · simp only [Ord.lst, List.filterMap_cons, List.filterMap_nil, List.getElem?_toArray, List.getElem?_cons_succ, List.getElem?_cons_zero]
    ((with_reducible refine Ord.e_p (v := ?_) ?_ ?_ ?_ ?_); rotate_left; (· exact rfl); (· kernel_rfl); (· intro w2; go_simp; try with_reducible rfl))
    (try simp only [Act.put, List.setIfInBounds_toArray, List.set_cons_zero, List.set_cons_succ])
    refine Ord.e_loadS Tryz.underlying2 rfl (fun w' hS => ((show Below _ w1 w' from hS).cell (p := ⟨w.heap.size, 0, none⟩) hlt).trans c0) h2 rfl (by kernel_rfl) ?_
    (try simp only [Act.put, List.setIfInBounds_toArray, List.set_cons_zero, List.set_cons_succ])
    refine Ord.e_x rfl (by kernel_rfl) ?_
    go_wp2
    have hrn : Rd (w2.alloc (.cells #[.int .i64 0, .int .i64 t, .int .i64 0] 2)) (w2.heap.size + 1) 1 (some ⟨w2.heap.size, 0, none⟩) 3 3 ([0, t, 0].map (Value.int .i64)) := rd_lit' w2 2 [.int .i64 0, .int .i64 t, .int .i64 0] (by simp [maxLen])
    have hbn : Below w2.heap.size w2 (w2.alloc (.cells #[.int .i64 0, .int .i64 t, .int .i64 0] 2)) := (Below.refl _ _).alloc (Nat.le_refl _) _
    have hsn : (w2.alloc (.cells #[.int .i64 0, .int .i64 t, .int .i64 0] 2)).heap.size = w2.heap.size + 1 := World.size_alloc _ _
    have h3 := h2.trans (hbn.mono h2.size)
    refine Ord.Seg.go h3 (fun h => by cases h) ?_
    (try simp only [Act.put, List.setIfInBounds_toArray, List.set_cons_zero, List.set_cons_succ])
    generalize (w2.alloc (.cells #[.int .i64 0, .int .i64 t, .int .i64 0] 2)) = w3 at *
    have Hsn := Lib.hid hsn
    clear hsn
    refine Ord.e_x rfl (by kernel_rfl) ?_
    go_wp2_with fail
    go_fit (qvhead_any w3)
    rintro e w4 ⟨Af, nf, cf, rfl, hnf, hrf, hbf⟩
    have h4 := h3.trans (hbf.mono h3.size)
    go_wp2_with fail
    refine Ord.Seg.go h4 (fun h => by cases h) ?_
    (try simp only [Act.put, List.setIfInBounds_toArray, List.set_cons_zero, List.set_cons_succ])
    have hrn' := hrn.up (hbf.mono (by rw [Hsn.out]; exact Nat.le_refl _))
    have hrf' := hrf
    have hsz : w2.heap.size + 1 ≤ w4.heap.size := by rw [← Hsn.out]; exact hbf.size
    clear hbf hbn hrf hrn
    refine Ord.e_x rfl (by kernel_rfl) ?_
    go_wp2_with fail
    go_fit (qPut14_any Af nf cf w4.heap.size vhF (some ⟨w2.heap.size, 0, none⟩) 3 3 (w2.heap.size + 1) [0, t, 0] w4 hrf' (Nat.le_refl _) hrn' hsz (by omega))
    clear hsz
    rw [← Hlv.out, ← HqP.out, ← HqE.out]
    rintro e w5 ⟨Ap, np, cp, rfl, hown, hb45⟩
    have h5 := h4.trans (hb45.mono h4.size)
    have hbf5 := hb1.trans (h5.mono hb1.size)
    have hown' := own_mono hown (base' := w1.heap.size) h4.size
    go_wp2_with fail
    refine Ord.Seg.go h5 (fun h => by cases h) ?_
    (try simp only [Act.put, List.setIfInBounds_toArray, List.set_cons_zero, List.set_cons_succ])
    ((with_reducible refine Ord.e_p (v := ?_) ?_ ?_ ?_ ?_); rotate_left; (· exact rfl); (· kernel_rfl); (· intro w2; go_simp; try with_reducible rfl))
    (try simp only [Act.put, List.setIfInBounds_toArray, List.set_cons_zero, List.set_cons_succ])
    ((with_reducible refine Ord.e_p (v := ?_) ?_ ?_ ?_ ?_); rotate_left; (· exact rfl); (· kernel_rfl); (· intro w2; go_simp; try with_reducible rfl))
    (try simp only [Act.put, List.setIfInBounds_toArray, List.set_cons_zero, List.set_cons_succ])
    ((with_reducible refine Ord.e_p (v := ?_) ?_ ?_ ?_ ?_); rotate_left; (· exact rfl); (· kernel_rfl); (· intro w2; go_simp; try with_reducible rfl))
    (try simp only [Act.put, List.setIfInBounds_toArray, List.set_cons_zero, List.set_cons_succ])
    ((with_reducible refine Ord.e_p (v := ?_) ?_ ?_ ?_ ?_); rotate_left; (· exact rfl); (· kernel_rfl); (· intro w2; go_simp; try with_reducible rfl))
    (try simp only [Act.put, List.setIfInBounds_toArray, List.set_cons_zero, List.set_cons_succ])
    ((with_reducible refine Ord.e_p (v := ?_) ?_ ?_ ?_ ?_); rotate_left; (· exact rfl); (· kernel_rfl); (· intro w2; go_simp; try with_reducible rfl))
    (try simp only [Act.put, List.setIfInBounds_toArray, List.set_cons_zero, List.set_cons_succ])
    refine Ord.e_nil ?_
    clear h2 h3 h4 hb45 hown hrn' hrf'
    by_cases hq : qE = 0
    · have HQ : Hid (qE = 0) := Lib.hid hq
      have hlp : np = 4 := by rw [← own_len hown', HqP.out, vhP_len (by rw [← HqE.out]; exact hq)]
      subst hlp
      subst hq
      rw [show ((0 : Nat) : Int) = 0 from rfl]
      go_wp2_with fail
      go_loopw [4, 6] (fun s i wr => ∃ (k m : Nat) (A2 : Option Addr) (c2 : Nat), k ≤ n ∧ i = .int .i64 k ∧ s = .slice A2 m c2 ∧ m ≤ 4 + 12 * k ∧ wr.ownsRow w1.heap.size 5 1 (.slice A2 m c2) m (bv (qP ++ (l.take k).flatMap prB)) ∧ Below w1.heap.size w1 wr ∧ Hid (∀ p ∈ l.take k, prE p = 0)) (fun _ i _ => n - (intOf i).toNat)
      case atStart => exact ⟨0, 4, Ap, cp, by omega, rfl, rfl, by omega, by simpa using hown', h5, Lib.hid (by simp)⟩
      case round =>
        clear hown' h5 hbf5 w5
        obtain ⟨k, m, A2, c2, hk, rfl, rfl, hm, hown, hb, hall⟩ := hrel
        have hbw := hb1.trans (hb.mono hb1.size)
        have d1 := (hb.cell (p := ⟨w.heap.size, 1, none⟩) hlt).trans c1
        by_cases hlt2 : k < n
        · obtain ⟨g1, off, rr, hA, hg1, hx, hrl, hrow⟩ := hr.at_ hlt2
          obtain ⟨⟨kx, vx⟩, hs, rfl⟩ : ∃ p, l[k]? = some p ∧ prC p = rr := by simpa using hx
          have hts : l.take (k + 1) = l.take k ++ [(kx, vx)] := take_succ hs
          have hfirst : prE (kx, vx) ≠ 0 → valEL l = prE (kx, vx) := fun h => valEL_at hs hall.out h
          have Hts : Hid ((l.take (k + 1)).flatMap prB = (l.take k).flatMap prB ++ prB (kx, vx) ∧ (prE (kx, vx) = 0 → ∀ x ∈ l.take (k + 1), prE x = 0)) := Lib.hid ⟨by rw [hts, List.flatMap_append]; simp, fun h0 x hx => by
            rw [hts] at hx
            rcases List.mem_append.1 hx with hx | hx
            · exact hall.out x hx
            · simp at hx; rw [hx]; exact h0⟩
          have Hfirst := Lib.hid hfirst
          have Hrow := Lib.hid hrow
          have Hx := Lib.hid (List.mem_of_getElem? hs)
          clear hs hx hrow hrl hts hfirst
          subst hA
          obtain ⟨⟨hk0, hk1⟩, hv0, hv1⟩ := Hl.out _ Hx.out
          simp only at hk0 hk1 hv0 hv1
          have q0 : wr.cell? ⟨g1, off + k * 2, none⟩ = some (.int .i64 kx) := (hbw.cell (p := ⟨g1, off + k * 2 + 0, none⟩) hg1).trans (Hrow.out 0 _ rfl)
          have hs := qvsize_any kx wr ⟨hk0, hk1⟩
          go_wp2_with fail
          clear q0 d1
          by_cases hz : szN kx = 0
          · rw [show decide (szN kx ≠ 0) = false from decide_eq_false (by omega)] at hs
            have e1 : oE = 6 := by rw [HEE.out, if_pos (by rw [← HqE.out]), Hfirst.out (by unfold prE; simp only; rw [if_pos hz]; omega)]; unfold prE; simp only; rw [if_pos hz]
            subst e1
            have e2 : oP = [] := by rw [HoP.out]; unfold valP; rw [if_neg (by rw [← HoE.out]; omega)]
            subst e2
            go_fit hs
            rintro e x2 ⟨rfl, hb12⟩
            have hbz := hb1.trans ((hb.trans (hb12.mono hb.size)).mono hb1.size)
            go_wp2
            go_ret2
            exact ⟨none, 0, 0, rfl, World.ownsRow_nil _ _ _ _, hbz⟩
          rw [show decide (szN kx ≠ 0) = true from decide_eq_true hz] at hs
          obtain ⟨hk2, hk3⟩ := sz_in hz
          go_fit hs
          rintro e x2 ⟨rfl, hb12⟩
          have hb2 := hb.trans (hb12.mono hb.size)
          have hown2 := own_up hown hb12 (Nat.le_refl _)
          clear hs hb12 hown hb hbw
          have hbw2 := hb1.trans (hb2.mono hb1.size)
          by_cases hv : vx < 0
          · have hd : decide (vx < 0) = true := decide_eq_true hv
            have e1 : oE = 5 := by rw [HEE.out, if_pos (by rw [← HqE.out]), Hfirst.out (by unfold prE; simp only; rw [if_neg hz, if_pos (by omega)]; omega)]; unfold prE; simp only; rw [if_neg hz, if_pos (by omega)]
            subst e1
            have e2 : oP = [] := by rw [HoP.out]; unfold valP; rw [if_neg (by rw [← HoE.out]; omega)]
            subst e2
            go_wp2_with fail
            refine Ord.region_ (fun w' => Below w1.heap.size w1 w') false [] (by kernel_rfl) (by kernel_rfl) (hb2.drew) ?_
            replace hb2 := hb2.drew
            generalize x2.drew = x3 at *
            ((with_reducible refine Ord.e_p (v := ?_) ?_ ?_ ?_ ?_); rotate_left; (· exact rfl); (· kernel_rfl); (· intro w2; go_simp; try with_reducible rfl))
            (try simp only [Act.put, List.setIfInBounds_toArray, List.set_cons_zero, List.set_cons_succ])
            refine Ord.e_loadS Tryz.underlying31 rfl (fun w' hS => ((show Below _ w1 w' from hS).cell (p := ⟨w.heap.size, 1, none⟩) hlt).trans c1) hb2 rfl (by kernel_rfl) ?_
            (try simp only [Act.put, List.setIfInBounds_toArray, List.set_cons_zero, List.set_cons_succ])
            ((with_reducible refine Ord.e_p (v := ?_) ?_ ?_ ?_ ?_); rotate_left; (· exact rfl); (· kernel_rfl); (· intro w2; go_simp; try with_reducible rfl))
            (try simp only [Act.put, List.setIfInBounds_toArray, List.set_cons_zero, List.set_cons_succ])
            ((with_reducible refine Ord.e_p (v := ?_) ?_ ?_ ?_ ?_); rotate_left; (· exact rfl); (· kernel_rfl); (· intro w2; go_simp; try with_reducible rfl))
            (try simp only [Act.put, List.setIfInBounds_toArray, List.set_cons_zero, List.set_cons_succ])
            ((with_reducible refine Ord.e_p (v := ?_) ?_ ?_ ?_ ?_); rotate_left; (· exact rfl); (· kernel_rfl); (· intro w2; go_simp; try with_reducible rfl))
            (try simp only [Act.put, List.setIfInBounds_toArray, List.set_cons_zero, List.set_cons_succ])
            refine Ord.e_loadS Tryz.underlying2 rfl (fun w' hS => ((hb1.trans ((show Below _ w1 w' from hS).mono hb1.size)).cell (p := ⟨g1, off + k * 2 + 1, none⟩) hg1).trans (Hrow.out 1 _ rfl)) hb2 rfl (by kernel_rfl) ?_
            (try simp only [Act.put, List.setIfInBounds_toArray, List.set_cons_zero, List.set_cons_succ])
            ((with_reducible refine Ord.e_p (v := ?_) ?_ ?_ ?_ ?_); rotate_left; (· exact rfl); (· kernel_rfl); (· intro w2; go_simp; try with_reducible rfl))
            (try simp only [Act.put, List.setIfInBounds_toArray, List.set_cons_zero, List.set_cons_succ])
            ((with_reducible refine Ord.e_p (v := ?_) ?_ ?_ ?_ ?_); rotate_left; (· exact rfl); (· kernel_rfl); (· intro w2; go_simp; try with_reducible rfl))
            (try simp only [Act.put, List.setIfInBounds_toArray, List.set_cons_zero, List.set_cons_succ])
            ((with_reducible refine Ord.e_u ?_ ?_); (· kernel_rfl))
            ((with_reducible refine Ord.e_u ?_ ?_); (· kernel_rfl))
            ((with_reducible refine Ord.e_u ?_ ?_); (· kernel_rfl))
            ((with_reducible refine Ord.e_u ?_ ?_); (· kernel_rfl))
            ((with_reducible refine Ord.e_u ?_ ?_); (· kernel_rfl))
            ((with_reducible refine Ord.e_u ?_ ?_); (· kernel_rfl))
            ((with_reducible refine Ord.e_u ?_ ?_); (· kernel_rfl))
            ((with_reducible refine Ord.e_u ?_ ?_); (· kernel_rfl))
            ((with_reducible refine Ord.e_u ?_ ?_); (· kernel_rfl))
            ((with_reducible refine Ord.e_u ?_ ?_); (· kernel_rfl))
            ((with_reducible refine Ord.e_u ?_ ?_); (· kernel_rfl))
            ((with_reducible refine Ord.e_u ?_ ?_); (· kernel_rfl))
            ((with_reducible refine Ord.e_u ?_ ?_); (· kernel_rfl))
            ((with_reducible refine Ord.e_u ?_ ?_); (· kernel_rfl))
            ((with_reducible refine Ord.e_p (v := ?_) ?_ ?_ ?_ ?_); rotate_left; (· exact rfl); (· kernel_rfl); (· intro w2; go_simp; try with_reducible rfl))
            (try simp only [Act.put, List.setIfInBounds_toArray, List.set_cons_zero, List.set_cons_succ])
            refine Ord.e_nil ?_
            have hbz := hb1.trans (hb2.mono hb1.size)
            go_wp2
            go_ret2
            exact ⟨none, 0, 0, rfl, World.ownsRow_nil _ _ _ _, hbz⟩
          have hd : decide (vx < 0) = false := decide_eq_false hv
          go_wp2_with fail
          refine Ord.region_ (fun w' => Below w1.heap.size w1 w') false [] (by kernel_rfl) (by kernel_rfl) (hb2.drew) ?_
          have f2 : Below x2.heap.size x2 x2.drew := (Below.refl _ _).drew
          replace hb2 := hb2.drew
          replace hown2 := own_up hown2 f2 (Nat.le_refl _)
          generalize x2.drew = x3 at *
          clear f2
          ((with_reducible refine Ord.e_p (v := ?_) ?_ ?_ ?_ ?_); rotate_left; (· exact rfl); (· kernel_rfl); (· intro w2; go_simp; try with_reducible rfl))
          (try simp only [Act.put, List.setIfInBounds_toArray, List.set_cons_zero, List.set_cons_succ])
          refine Ord.e_loadS Tryz.underlying31 rfl (fun w' hS => ((show Below _ w1 w' from hS).cell (p := ⟨w.heap.size, 1, none⟩) hlt).trans c1) hb2 rfl (by kernel_rfl) ?_
          (try simp only [Act.put, List.setIfInBounds_toArray, List.set_cons_zero, List.set_cons_succ])
          ((with_reducible refine Ord.e_p (v := ?_) ?_ ?_ ?_ ?_); rotate_left; (· exact rfl); (· kernel_rfl); (· intro w2; go_simp; try with_reducible rfl))
          (try simp only [Act.put, List.setIfInBounds_toArray, List.set_cons_zero, List.set_cons_succ])
          ((with_reducible refine Ord.e_p (v := ?_) ?_ ?_ ?_ ?_); rotate_left; (· exact rfl); (· kernel_rfl); (· intro w2; go_simp; try with_reducible rfl))
          (try simp only [Act.put, List.setIfInBounds_toArray, List.set_cons_zero, List.set_cons_succ])
          ((with_reducible refine Ord.e_p (v := ?_) ?_ ?_ ?_ ?_); rotate_left; (· exact rfl); (· kernel_rfl); (· intro w2; go_simp; try with_reducible rfl))
          (try simp only [Act.put, List.setIfInBounds_toArray, List.set_cons_zero, List.set_cons_succ])
          refine Ord.e_loadS Tryz.underlying2 rfl (fun w' hS => ((hb1.trans ((show Below _ w1 w' from hS).mono hb1.size)).cell (p := ⟨g1, off + k * 2 + 1, none⟩) hg1).trans (Hrow.out 1 _ rfl)) hb2 rfl (by kernel_rfl) ?_
          (try simp only [Act.put, List.setIfInBounds_toArray, List.set_cons_zero, List.set_cons_succ])
          ((with_reducible refine Ord.e_p (v := ?_) ?_ ?_ ?_ ?_); rotate_left; (· exact rfl); (· kernel_rfl); (· intro w2; go_simp; try with_reducible rfl))
          (try simp only [Act.put, List.setIfInBounds_toArray, List.set_cons_zero, List.set_cons_succ])
          ((with_reducible refine Ord.e_p (v := ?_) ?_ ?_ ?_ ?_); rotate_left; (· exact rfl); (· kernel_rfl); (· intro w2; go_simp; try with_reducible rfl))
          (try simp only [Act.put, List.setIfInBounds_toArray, List.set_cons_zero, List.set_cons_succ])
          ((with_reducible refine Ord.e_p (v := ?_) ?_ ?_ ?_ ?_); rotate_left; (· exact rfl); (· kernel_rfl); (· intro w2; go_simp; try with_reducible rfl))
          (try simp only [Act.put, List.setIfInBounds_toArray, List.set_cons_zero, List.set_cons_succ])
          refine Ord.e_loadS Tryz.underlying31 rfl (fun w' hS => ((show Below _ w1 w' from hS).cell (p := ⟨w.heap.size, 1, none⟩) hlt).trans c1) hb2 rfl (by kernel_rfl) ?_
          (try simp only [Act.put, List.setIfInBounds_toArray, List.set_cons_zero, List.set_cons_succ])
          ((with_reducible refine Ord.e_p (v := ?_) ?_ ?_ ?_ ?_); rotate_left; (· exact rfl); (· kernel_rfl); (· intro w2; go_simp; try with_reducible rfl))
          (try simp only [Act.put, List.setIfInBounds_toArray, List.set_cons_zero, List.set_cons_succ])
          ((with_reducible refine Ord.e_p (v := ?_) ?_ ?_ ?_ ?_); rotate_left; (· exact rfl); (· kernel_rfl); (· intro w2; go_simp; try with_reducible rfl))
          (try simp only [Act.put, List.setIfInBounds_toArray, List.set_cons_zero, List.set_cons_succ])
          ((with_reducible refine Ord.e_p (v := ?_) ?_ ?_ ?_ ?_); rotate_left; (· exact rfl); (· kernel_rfl); (· intro w2; go_simp; try with_reducible rfl))
          (try simp only [Act.put, List.setIfInBounds_toArray, List.set_cons_zero, List.set_cons_succ])
          refine Ord.e_loadS Tryz.underlying2 rfl (fun w' hS => ((hb1.trans ((show Below _ w1 w' from hS).mono hb1.size)).cell (p := ⟨g1, off + k * 2 + 1, none⟩) hg1).trans (Hrow.out 1 _ rfl)) hb2 rfl (by kernel_rfl) ?_
          (try simp only [Act.put, List.setIfInBounds_toArray, List.set_cons_zero, List.set_cons_succ])
          ((with_reducible refine Ord.e_p (v := ?_) ?_ ?_ ?_ ?_); rotate_left; (· exact rfl); (· kernel_rfl); (· intro w2; go_simp; try with_reducible rfl))
          (try simp only [Act.put, List.setIfInBounds_toArray, List.set_cons_zero, List.set_cons_succ])
          refine Ord.e_loadS Tryz.underlying31 rfl (fun w' hS => ((show Below _ w1 w' from hS).cell (p := ⟨w.heap.size, 1, none⟩) hlt).trans c1) hb2 rfl (by kernel_rfl) ?_
          (try simp only [Act.put, List.setIfInBounds_toArray, List.set_cons_zero, List.set_cons_succ])
          ((with_reducible refine Ord.e_p (v := ?_) ?_ ?_ ?_ ?_); rotate_left; (· exact rfl); (· kernel_rfl); (· intro w2; go_simp; try with_reducible rfl))
          (try simp only [Act.put, List.setIfInBounds_toArray, List.set_cons_zero, List.set_cons_succ])
          ((with_reducible refine Ord.e_p (v := ?_) ?_ ?_ ?_ ?_); rotate_left; (· exact rfl); (· kernel_rfl); (· intro w2; go_simp; try with_reducible rfl))
          (try simp only [Act.put, List.setIfInBounds_toArray, List.set_cons_zero, List.set_cons_succ])
          ((with_reducible refine Ord.e_p (v := ?_) ?_ ?_ ?_ ?_); rotate_left; (· exact rfl); (· kernel_rfl); (· intro w2; go_simp; try with_reducible rfl))
          (try simp only [Act.put, List.setIfInBounds_toArray, List.set_cons_zero, List.set_cons_succ])
          refine Ord.e_loadS Tryz.underlying2 rfl (fun w' hS => ((hb1.trans ((show Below _ w1 w' from hS).mono hb1.size)).cell (p := ⟨g1, off + k * 2 + 0, none⟩) hg1).trans (Hrow.out 0 _ rfl)) hb2 rfl (by kernel_rfl) ?_
          (try simp only [Act.put, List.setIfInBounds_toArray, List.set_cons_zero, List.set_cons_succ])
          refine Ord.e_x rfl (by kernel_rfl) ?_
          go_wp2_with fail
          go_fit (qvmost_any kx x3 ⟨hk0, hk1⟩)
          rintro e x4 ⟨rfl, hb34⟩
          have hb4 := hb2.trans (hb34.mono hb2.size)
          have hown4 := own_up hown2 hb34 (Nat.le_refl _)
          go_wp2_with fail
          refine Ord.Seg.go hb4 (fun h => by cases h) ?_
          (try simp only [Act.put, List.setIfInBounds_toArray, List.set_cons_zero, List.set_cons_succ])
          clear hb34 hown2 hb2
          by_cases hm : (msN kx : Int) < vx
          · have e1 : oE = 5 := by rw [HEE.out, if_pos (by rw [← HqE.out]), Hfirst.out (by unfold prE; simp only; rw [if_neg hz, if_pos (by omega)]; omega)]; unfold prE; simp only; rw [if_neg hz, if_pos (by omega)]
            subst e1
            have e2 : oP = [] := by rw [HoP.out]; unfold valP; rw [if_neg (by rw [← HoE.out]; omega)]
            subst e2
            have hd2 : decide ((msN kx : Int) < vx) = true := decide_eq_true hm
            ((with_reducible refine Ord.e_p (v := ?_) ?_ ?_ ?_ ?_); rotate_left; (· exact rfl); (· kernel_rfl); (· intro w2; go_simp; try with_reducible rfl))
            (try simp only [Act.put, List.setIfInBounds_toArray, List.set_cons_zero, List.set_cons_succ])
            ((with_reducible refine Ord.e_p (v := ?_) ?_ ?_ ?_ ?_); rotate_left; (· exact rfl); (· kernel_rfl); (· intro w2; go_simp; try with_reducible rfl))
            (try simp only [Act.put, List.setIfInBounds_toArray, List.set_cons_zero, List.set_cons_succ])
            refine Ord.e_nil ?_
            have hbz := hb1.trans (hb4.mono hb1.size)
            go_wp2
            go_ret2
            exact ⟨none, 0, 0, rfl, World.ownsRow_nil _ _ _ _, hbz⟩
          have hd2 : decide ((msN kx : Int) < vx) = false := decide_eq_false hm
          ((with_reducible refine Ord.e_p (v := ?_) ?_ ?_ ?_ ?_); rotate_left; (· exact rfl); (· kernel_rfl); (· intro w2; go_simp; try with_reducible rfl))
          (try simp only [Act.put, List.setIfInBounds_toArray, List.set_cons_zero, List.set_cons_succ])
          ((with_reducible refine Ord.e_p (v := ?_) ?_ ?_ ?_ ?_); rotate_left; (· exact rfl); (· kernel_rfl); (· intro w2; go_simp; try with_reducible rfl))
          (try simp only [Act.put, List.setIfInBounds_toArray, List.set_cons_zero, List.set_cons_succ])
          refine Ord.e_nil ?_
          clear hd hd2
          have Hok := Lib.hid (show prE (kx, vx) = 0 by unfold prE; simp only; rw [if_neg hz, if_neg (by omega)])
          have hml := ms_le kx
          have Hpb : Hid (prB (kx, vx) = bytesN 4 kx.toNat ++ bytesN (szN kx) vx.toNat) := Lib.hid rfl
          obtain ⟨kn, rfl⟩ : ∃ kn : Nat, kx = kn := ⟨kx.toNat, by omega⟩
          obtain ⟨vn, rfl⟩ : ∃ vn : Nat, vx = vn := ⟨vx.toNat, by omega⟩
          have hsl := sz_le (kn : Int)
          have hvn : vn ≤ 9223372036854775807 := by omega
          have hwk : IntKind.u64.wrap (kn : Int) = kn := IntWalk.u64_in _ (by omega)
          have hwv : IntKind.u64.wrap (vn : Int) = vn := IntWalk.u64_in _ (by omega)
          clear hml hm hv
          generalize szN (kn : Int) = sn at *
          have hbw4 := hb1.trans (hb4.mono hb1.size)
          have d1 := (hb4.cell (p := ⟨w.heap.size, 1, none⟩) hlt).trans c1
          have q0 : x4.cell? ⟨g1, off + k * 2, none⟩ = some (.int .i64 (kn : Int)) := (hbw4.cell (p := ⟨g1, off + k * 2 + 0, none⟩) hg1).trans (Hrow.out 0 _ rfl)
          have hby := qBytes_any 4 kn x4 (by omega) (by omega)
          rw [show ((4 : Nat) : Int) = 4 from rfl] at hby
          go_wp2_with fail
          go_fit hby
          rintro e x5 ⟨A5, c5, n5, rfl, hown5, hb45⟩
          have hl5 := own_len hown5
          rw [bytesN_len] at hl5
          subst hl5
          have hr5 := Rd.own hown5
          have hown6 := own_up hown4 hb45 (Nat.le_refl _)
          have hb5 := hb4.trans (hb45.mono hb4.size)
          have hcm5 := hr5.max
          unfold maxLen at hcm5
          clear d1 q0 hby hown5 hb45 hown4 hb4 hbw4
          go_wp2_with (at_builtin; refine stop_ ?_)
          refine go_ (wpList_app (base := w1.heap.size) (n := m) Tryz.underlying38 Hi.out rfl (by omega) hown6 rfl hr5 rfl (bv_one _) (k := m + 4) (ys := bv (qP ++ (l.take k).flatMap prB ++ bytesN 4 kn)) rfl (bv_app _ _).symm (by unfold maxLen; omega) (by omega) hb5.size ?_)
          intro A7 c7 x7 hown7 hup
          have hb7 : Below w1.heap.size w1 x7 := hup hb5 hb5.size (Nat.le_refl _)
          clear hup hown6 hr5 hb5
          have hbw7 := hb1.trans (hb7.mono hb1.size)
          have d1 := (hb7.cell (p := ⟨w.heap.size, 1, none⟩) hlt).trans c1
          have q1 : x7.cell? ⟨g1, off + k * 2 + 1, none⟩ = some (.int .i64 (vn : Int)) := (hbw7.cell (p := ⟨g1, off + k * 2 + 1, none⟩) hg1).trans (Hrow.out 1 _ rfl)
          go_wp2_with fail
          go_fit (qBytes_any sn vn x7 hsl (by omega))
          rintro e x8 ⟨A8, c8, n8, rfl, hown8, hb78⟩
          have hl8 := own_len hown8
          rw [bytesN_len] at hl8
          subst hl8
          have hr8 := Rd.own hown8
          have hown9 := own_up hown7 hb78 (Nat.le_refl _)
          have hb8 := hb7.trans (hb78.mono hb7.size)
          have hcm8 := hr8.max
          unfold maxLen at hcm8
          clear d1 q1 hown8 hb78 hown7 hb7 hbw7
          go_wp2_with (at_builtin; refine stop_ ?_)
          refine go_ (wpList_app (base := w1.heap.size) (n := m + 4) Tryz.underlying38 Hi.out rfl (by omega) hown9 rfl hr8 rfl (bv_one _) (k := m + 4 + sn) (ys := bv (qP ++ (l.take k).flatMap prB ++ bytesN 4 kn ++ bytesN sn vn)) rfl (bv_app _ _).symm (by unfold maxLen; omega) (by omega) hb8.size ?_)
          intro Aa ca xa howna hup
          have hba : Below w1.heap.size w1 xa := hup hb8 hb8.size (Nat.le_refl _)
          clear hup hown9 hr8 hb8
          go_wp2
          go_roundw
          case rel =>
            refine ⟨k + 1, m + 4 + sn, Aa, ca, by omega, by go_num, rfl, by omega, ?_, hba, Lib.hid (Hts.out.2 Hok.out)⟩
            rw [Hts.out.1, Hpb.out, Int.toNat_natCast, Int.toNat_natCast]
            simpa [List.append_assoc] using howna
          case measure => simp [intOf]; omega
        · obtain rfl : k = n := by omega
          have ht : l.take k = l := List.take_of_length_le (by rw [Hll.out]; exact Nat.le_refl _)
          rw [ht] at hown hall
          have e1 : oE = 0 := by rw [HEE.out, if_pos (by rw [← HqE.out])]; exact valEL_zero.2 hall.out
          have e2 : oP = qP ++ l.flatMap prB := by rw [HoP.out]; unfold valP; rw [if_pos (by rw [← HoE.out]; exact e1)]; unfold valB; rw [← HqP.out]
          subst e1
          rw [← e2] at hown
          clear ht e2
          go_wp2
          go_ret2
          exact ⟨_, _, _, rfl, own_mono hown hb1.size, hbw⟩
    · have hq' : ¬ (qE : Int) = 0 := by omega
      have e1 : oE = qE := by rw [HEE.out, if_neg (by rw [← HqE.out]; exact hq), HqE.out]
      subst e1
      have e2 : oP = [] := by rw [HoP.out]; unfold valP; rw [if_neg (by rw [← HoE.out]; exact hq)]
      subst e2
      clear hq c0 c1
      go_wp2
      go_ret2
      exact ⟨none, 0, 0, rfl, World.ownsRow_nil _ _ _ _, hbf5⟩

end Go.Proofs.YtmkidihcdljkiaaGreat
