/-
  valset.Put walked (printed by gen_val2.py).
-/
import Derived.Test.YtmkidihcdljkiaaGreatKPGVA
import Derived.Test.YtmkidihcdljkiaaGreatKPGA
set_option linter.unusedSimpArgs false
set_option linter.unusedVariables false
namespace Go.Proofs.YtmkidihcdljkiaaGreat
open Go.RowKit NumLaw
attribute [local go_sem] Addr.add_mid

/-- A pair as cells. -/
def prC (p : Int × Int) : List Value := [.int .i64 p.1, .int .i64 p.2]
def prE (p : Int × Int) : Nat := if szN p.1 = 0 then 6 else if p.2 < 0 ∨ (msN p.1 : Int) < p.2 then 5 else 0
theorem valEL_step (p : Int × Int) (l : List (Int × Int)) : valEL (p :: l) = if prE p = 0 then valEL l else prE p := by
  unfold prE
  show (if _ then _ else _) = _
  split
  · rfl
  · split <;> rfl
theorem valEL_zero {l : List (Int × Int)} : valEL l = 0 ↔ ∀ p ∈ l, prE p = 0 := by
  induction l with
  | nil => simp [valEL]
  | cons s l ih =>
    rw [valEL_step]
    by_cases h : prE s = 0
    · rw [if_pos h, ih]; simp [h]
    · rw [if_neg h]; simp [h]
theorem valEL_first : ∀ (l l1 : List (Int × Int)) (s : Int × Int) (l2 : List (Int × Int)), l = l1 ++ s :: l2 → (∀ x ∈ l1, prE x = 0) → prE s ≠ 0 → valEL l = prE s
  | l, [], s, l2, h, _, hs => by rw [h, List.nil_append, valEL_step, if_neg hs]
  | l, x :: l1, s, l2, h, h1, hs => by
    rw [h, List.cons_append, valEL_step, if_pos (h1 x List.mem_cons_self)]
    exact valEL_first _ l1 s l2 rfl (fun y hy => h1 y (List.mem_cons_of_mem _ hy)) hs
theorem valEL_at {l : List (Int × Int)} {k : Nat} {s : Int × Int} (hk : l[k]? = some s) (h : ∀ x ∈ l.take k, prE x = 0) (hs : prE s ≠ 0) : valEL l = prE s := by
  have hlt : k < l.length := (List.getElem?_eq_some_iff.1 hk).1
  refine valEL_first l (l.take k) s (l.drop (k + 1)) ?_ h hs
  have h1 : l.drop k = s :: l.drop (k + 1) := by
    rw [List.drop_eq_getElem_cons hlt]
    congr 1
    rw [List.getElem?_eq_getElem hlt] at hk
    injection hk
  rw [← h1, List.take_append_drop]
theorem fU_four (k : Nat) (h : k ≤ 2147483647) : fU 4 k = true := by
  unfold fU
  refine decide_eq_true ⟨by omega, by omega, ?_⟩
  show k < 4294967296
  omega
theorem fU_sz (k : Int) (v : Nat) (h : szN k ≠ 0) (hv : v ≤ msN k) : fU (szN k) v = true := by
  have h1 := sz_le k
  have h2 := ms_lt k
  unfold fU
  refine decide_eq_true ⟨by omega, by omega, ?_⟩
  rw [Int.toNat_natCast]
  omega

set_option maxRecDepth 10000 in
set_option maxHeartbeats 8000000 in
theorem valPut_any (t : Int) (A : Option Addr) (n c : Nat) (l : List (Int × Int)) (w : World) (hr : RdR w w.heap.size 2 A n c (l.map prC)) (ht : -9223372036854775808 ≤ t ∧ t ≤ 9223372036854775807) :
    Calls Tryz.prog 170 #[.agg #[.int .i64 t, .slice A n c]] w (RetPS w (valP t l) (valE t l)) := by
  have hll : l.length = n := by have := hr.1; simpa using this
  have hle := hr.2.2.1
  have hmx := hr.2.2.2.1
  unfold maxLen at hmx
  obtain ⟨i0, hi⟩ := info_parts u8_info
  have Hi := Lib.hid hi
  have Hll := Lib.hid hll
  have hvb : ∀ z ∈ vhV t, -9223372036854775808 ≤ z ∧ z ≤ 9223372036854775807 := by intro z hz; simp [vhV] at hz; rcases hz with rfl | rfl | rfl <;> omega
  have Hvb := Lib.hid hvb
  clear hi hvb
  have hb1 : Below w.heap.size w (w.alloc (.cells #[.int .i64 t, .slice A n c] 33)) := (Below.refl _ _).alloc (Nat.le_refl _) _
  have hbox := heap_alloc_new w (.cells #[.int .i64 t, .slice A n c] 33)
  have c0 : (w.alloc (.cells #[.int .i64 t, .slice A n c] 33)).cell? ⟨w.heap.size, 0, none⟩ = some (.int .i64 t) := blk_cell hbox rfl
  have c1 : (w.alloc (.cells #[.int .i64 t, .slice A n c] 33)).cell? ⟨w.heap.size, 1, none⟩ = some (.slice A n c) := blk_cell hbox rfl
  by_cases h32 : 32 < n
  · have hE : valE t l = 7 := by unfold valE; rw [if_pos (by omega)]
    rw [show valP t l = [] by unfold valP; rw [hE]; rfl, hE]
    clear hE hll
    go_enter Tryz.func170, Tryz.ntmps170
    go_wp2
    go_ret2
    exact ⟨none, 0, 0, rfl, World.ownsRow_nil _ _ _ _, hb1⟩
  obtain ⟨oP, hoP⟩ : ∃ p, p = valP t l := ⟨_, rfl⟩
  obtain ⟨oE, hoE⟩ : ∃ p, p = valE t l := ⟨_, rfl⟩
  rw [← hoP, ← hoE]
  have hEE : oE = if shE vhF (vhV t) = 0 then valEL l else shE vhF (vhV t) := by rw [hoE]; unfold valE; rw [if_neg (by omega)]
  have hlv : vhV t = [0, t, 0] := rfl
  have HoP := Lib.hid hoP
  have HoE := Lib.hid hoE
  have HEE := Lib.hid hEE
  have Hlv := Lib.hid hlv
  obtain ⟨qP, hqP⟩ : ∃ p, p = shP vhF (vhV t) := ⟨_, rfl⟩
  obtain ⟨qE, hqE⟩ : ∃ p, p = shE vhF (vhV t) := ⟨_, rfl⟩
  have HqP := Lib.hid hqP
  have HqE := Lib.hid hqE
  clear hoP hoE hEE hlv hll hqP hqE
  go_enter Tryz.func170, Tryz.ntmps170
  go_wp2_with fail
  generalize (w.alloc (.cells #[.int .i64 t, .slice A n c] 33)) = w1 at *
  have hlt := blk_lt hbox
  clear hbox
  refine Ord.region_m [0, 3] [[0, 1, 2, 3, 4, 5, 6, 7, 8, 9], [1, 2, 3, 0, 4, 5, 6, 7, 8, 9]] (fun w' => Below w1.heap.size w1 w') false [] (by kernel_rfl) (by kernel_rfl) ((Below.refl _ _).drew) ?_
  have h2 : Below w1.heap.size w1 w1.drew := (Below.refl _ _).drew
  generalize w1.drew = w2 at *
  intro L hL
  simp only [List.mem_cons, List.not_mem_nil, or_false] at hL
  rcases hL with rfl | rfl
  · simp only [Ord.lst, List.filterMap_cons, List.filterMap_nil, List.getElem?_toArray, List.getElem?_cons_succ, List.getElem?_cons_zero]
    refine Ord.e_x rfl (by kernel_rfl) ?_
    go_wp2_with fail
    go_fit (vfirst_any w2)
    rintro e w3 ⟨Af, nf, cf, rfl, hnf, hrf, hbf⟩
    have h3 := h2.trans (hbf.mono h2.size)
    go_wp2_with fail
    refine Ord.Seg.go h3 (fun h => by cases h) ?_
    (try simp only [Act.put, List.setIfInBounds_toArray, List.set_cons_zero, List.set_cons_succ])
    ((with_reducible refine Ord.e_p (v := ?_) ?_ ?_ ?_ ?_); rotate_left; (· exact rfl); (· kernel_rfl); (· intro w2; go_simp; try with_reducible rfl))
    (try simp only [Act.put, List.setIfInBounds_toArray, List.set_cons_zero, List.set_cons_succ])
    refine Ord.e_loadS Tryz.underlying2 rfl (fun w' hS => ((show Below _ w1 w' from hS).cell (p := ⟨w.heap.size, 0, none⟩) hlt).trans c0) h3 rfl (by kernel_rfl) ?_
    (try simp only [Act.put, List.setIfInBounds_toArray, List.set_cons_zero, List.set_cons_succ])
    refine Ord.e_x rfl (by kernel_rfl) ?_
    go_wp2
    have hrn : Rd (w3.alloc (.cells #[.int .i64 0, .int .i64 t, .int .i64 0] 2)) (w3.heap.size + 1) 1 (some ⟨w3.heap.size, 0, none⟩) 3 3 ([0, t, 0].map (Value.int .i64)) := rd_lit' w3 2 [.int .i64 0, .int .i64 t, .int .i64 0] (by simp [maxLen])
    have hbn : Below w3.heap.size w3 (w3.alloc (.cells #[.int .i64 0, .int .i64 t, .int .i64 0] 2)) := (Below.refl _ _).alloc (Nat.le_refl _) _
    have hsn : (w3.alloc (.cells #[.int .i64 0, .int .i64 t, .int .i64 0] 2)).heap.size = w3.heap.size + 1 := World.size_alloc _ _
    have h4 := h3.trans (hbn.mono h3.size)
    refine Ord.Seg.go h4 (fun h => by cases h) ?_
    (try simp only [Act.put, List.setIfInBounds_toArray, List.set_cons_zero, List.set_cons_succ])
    generalize (w3.alloc (.cells #[.int .i64 0, .int .i64 t, .int .i64 0] 2)) = w4 at *
    have Hsn := Lib.hid hsn
    clear hsn
    have hrf' := hrf.up hbn
    have hrn' := hrn
    have hsz := hbn.size
    clear hbf hbn hrf hrn
    refine Ord.e_x rfl (by kernel_rfl) ?_
    go_wp2_with fail
    go_fit (shPut_any Af nf cf w3.heap.size vhF (some ⟨w3.heap.size, 0, none⟩) 3 3 (w3.heap.size + 1) [0, t, 0] w4 hrf' hsz hrn' (by rw [Hsn.out]; omega) (by omega) (by rw [← Hlv.out]; exact Hvb.out))
    clear hsz
    rw [← Hlv.out, ← HqP.out, ← HqE.out]
    rintro e w5 ⟨Ap, np, cp, rfl, hown, hb45⟩
    have h5 := h4.trans (hb45.mono h4.size)
    have hbf5 := hb1.trans (h5.mono hb1.size)
    have hown' := own_mono hown (base' := w1.heap.size) h4.size
    go_wp2_with fail
    refine Ord.Seg.go h5 (fun h => by cases h) ?_
    (try simp only [Act.put, List.setIfInBounds_toArray, List.set_cons_zero, List.set_cons_succ])
    ((with_reducible refine Ord.e_p (v := ?_) ?_ ?_ ?_ ?_); rotate_left; (· exact rfl); (· kernel_rfl); (· intro w2; go_simp; try with_reducible rfl))
    (try simp only [Act.put, List.setIfInBounds_toArray, List.set_cons_zero, List.set_cons_succ])
    ((with_reducible refine Ord.e_p (v := ?_) ?_ ?_ ?_ ?_); rotate_left; (· exact rfl); (· kernel_rfl); (· intro w2; go_simp; try with_reducible rfl))
    (try simp only [Act.put, List.setIfInBounds_toArray, List.set_cons_zero, List.set_cons_succ])
    ((with_reducible refine Ord.e_p (v := ?_) ?_ ?_ ?_ ?_); rotate_left; (· exact rfl); (· kernel_rfl); (· intro w2; go_simp; try with_reducible rfl))
    (try simp only [Act.put, List.setIfInBounds_toArray, List.set_cons_zero, List.set_cons_succ])
    ((with_reducible refine Ord.e_p (v := ?_) ?_ ?_ ?_ ?_); rotate_left; (· exact rfl); (· kernel_rfl); (· intro w2; go_simp; try with_reducible rfl))
    (try simp only [Act.put, List.setIfInBounds_toArray, List.set_cons_zero, List.set_cons_succ])
    ((with_reducible refine Ord.e_p (v := ?_) ?_ ?_ ?_ ?_); rotate_left; (· exact rfl); (· kernel_rfl); (· intro w2; go_simp; try with_reducible rfl))
    (try simp only [Act.put, List.setIfInBounds_toArray, List.set_cons_zero, List.set_cons_succ])
    refine Ord.e_nil ?_
    clear h2 h3 h4 hb45 hown hrn' hrf'
    by_cases hq : qE = 0
    · have HQ : Hid (qE = 0) := Lib.hid hq
      have hlp : np = 4 := by rw [← own_len hown', HqP.out, vhP_len (by rw [← HqE.out]; exact hq)]
      subst hlp
      subst hq
      rw [show ((0 : Nat) : Int) = 0 from rfl]
      go_wp2_with fail
      go_fit (wMake_any w5)
      rintro e w6 ⟨rfl, hw6, hb56⟩
      have hrp := (Rd.own hown').up hb56
      have h6 := h5.trans (hb56.mono h5.size)
      have hgw : w1.heap.size ≤ w5.heap.size := h5.size
      generalize w5.heap.size = g at *
      go_wp2_with fail
      go_fit (wRaw_any g _ [] false Ap 4 cp g qP w6 hw6 hrp (by simp))
      rintro e w7 ⟨rfl, v7, hw7, ha7, hu7⟩
      have h7 := h6.trans ((wtr_below hw6 ha7).mono hgw)
      have hw7' : Wtr w7 g v7 qP false := by simpa [wtB] using hw7
      have hlq : qP.length = 4 := hrp.blen
      have d1 := (h7.cell (p := ⟨w.heap.size, 1, none⟩) hlt).trans c1
      clear hu7 hw6 hb56 hrp h6 ha7 hw7 hown' h5 hbf5 w5 w6
      go_wp2_with fail
      go_loopw [33] (fun i wr => ∃ (k : Nat) (v : Value) (lw : List UInt8), k ≤ n ∧ i = .int .i64 k ∧ Wtr wr g v lw false ∧ Below w1.heap.size w1 wr ∧ lw.length ≤ 4 + 12 * k ∧ Hid (lw = qP ++ (l.take k).flatMap prB) ∧ Hid (∀ p ∈ l.take k, prE p = 0)) (fun i _ => n - (intOf i).toNat)
      case atStart => exact ⟨0, v7, qP, by omega, rfl, hw7', h7, by omega, Lib.hid (by simp), Lib.hid (by simp)⟩
      case round =>
        clear hw7' h7 d1 w7
        obtain ⟨k, v, lw, hk, rfl, hw, hb, hlw, hlB, hall⟩ := hrel
        have hbw := hb1.trans (hb.mono hb1.size)
        by_cases hlt2 : k < n
        · obtain ⟨g1, off, rr, hA, hg1, hx, hrl, hrow⟩ := hr.at_ hlt2
          obtain ⟨⟨kx, vx⟩, hs, rfl⟩ : ∃ p, l[k]? = some p ∧ prC p = rr := by simpa using hx
          have hts : l.take (k + 1) = l.take k ++ [(kx, vx)] := take_succ hs
          have hfirst : prE (kx, vx) ≠ 0 → valEL l = prE (kx, vx) := fun h => valEL_at hs hall.out h
          have Hts : Hid ((l.take (k + 1)).flatMap prB = (l.take k).flatMap prB ++ prB (kx, vx) ∧ (prE (kx, vx) = 0 → ∀ x ∈ l.take (k + 1), prE x = 0)) := Lib.hid ⟨by rw [hts, List.flatMap_append]; simp, fun h0 x hx => by
            rw [hts] at hx
            rcases List.mem_append.1 hx with hx | hx
            · exact hall.out x hx
            · simp at hx; rw [hx]; exact h0⟩
          have Hfirst := Lib.hid hfirst
          have Hrow := Lib.hid hrow
          have Hx := Lib.hid (List.mem_of_getElem? hs)
          clear hs hx hrow hrl hts hfirst
          subst hA
          have q0 : wr.cell? ⟨g1, off + k * 2, none⟩ = some (.int .i64 kx) := (hbw.cell (p := ⟨g1, off + k * 2 + 0, none⟩) hg1).trans (Hrow.out 0 _ rfl)
          have q1 : wr.cell? ⟨g1, off + k * 2 + 1, none⟩ = some (.int .i64 vx) := (hbw.cell (p := ⟨g1, off + k * 2 + 1, none⟩) hg1).trans (Hrow.out 1 _ rfl)
          have hbx1 := hb.alloc hb.size (.cells #[.int .i64 kx, .int .i64 vx] 103)
          have hsbox := heap_alloc_new wr (.cells #[.int .i64 kx, .int .i64 vx] 103)
          have hw1 := hw.keep ((Aw.refl (fun _ => False) wr).alloc (.cells #[.int .i64 kx, .int .i64 vx] 103)) (fun _ _ h => h)
          have hft := Lib.hid (fun (j : Nat) (hj : Foot g v j) => hw.foot hj)
          go_wp2_with fail
          clear q0 q1 hb hbw hw
          generalize (wr.alloc (.cells #[.int .i64 kx, .int .i64 vx] 103)) = x1 at *
          generalize wr.heap.size = gv at *
          have hs := vsize_any kx x1
          by_cases hz : szN kx = 0
          · rw [show decide (szN kx ≠ 0) = false from decide_eq_false (by omega)] at hs
            have e1 : oE = 6 := by rw [HEE.out, if_pos (by rw [← HqE.out]), Hfirst.out (by unfold prE; simp only; rw [if_pos hz]; omega)]; unfold prE; simp only; rw [if_pos hz]
            subst e1
            have e2 : oP = [] := by rw [HoP.out]; unfold valP; rw [if_neg (by rw [← HoE.out]; omega)]
            subst e2
            go_fit hs
            rintro e x2 ⟨rfl, hb12⟩
            have hbz := hb1.trans ((hbx1.trans (hb12.mono hbx1.size)).mono hb1.size)
            go_wp2
            go_ret2
            exact ⟨none, 0, 0, rfl, World.ownsRow_nil _ _ _ _, hbz⟩
          rw [show decide (szN kx ≠ 0) = true from decide_eq_true hz] at hs
          obtain ⟨hk0, hk1⟩ := sz_in hz
          go_fit hs
          rintro e x2 ⟨rfl, hb12⟩
          have hb2 := hbx1.trans (hb12.mono hbx1.size)
          have hw2 := hw1.keep (Aw.of_below' (U := fun _ => False) hb12) (fun _ _ h => h)
          have hgs := blk_lt hsbox
          replace hsbox := blk_old hsbox hb12 hgs
          clear hs hbx1 hw1 hgs hb12
          have z0 := blk_cell (i := 0) (v := .int .i64 kx) hsbox rfl
          have z1 := blk_cell (i := 1) (v := .int .i64 vx) hsbox rfl
          have hlz := blk_lt hsbox
          by_cases hv : vx < 0
          · have hd : decide (vx < 0) = true := decide_eq_true hv
            have e1 : oE = 5 := by rw [HEE.out, if_pos (by rw [← HqE.out]), Hfirst.out (by unfold prE; simp only; rw [if_neg hz, if_pos (by omega)]; omega)]; unfold prE; simp only; rw [if_neg hz, if_pos (by omega)]
            subst e1
            have e2 : oP = [] := by rw [HoP.out]; unfold valP; rw [if_neg (by rw [← HoE.out]; omega)]
            subst e2
            go_wp2_with fail
            refine Ord.region_ (fun w' => Below x2.heap.size x2 w') false [] (by kernel_rfl) (by kernel_rfl) ((Below.refl _ _).drew) ?_
            have f2 : Below x2.heap.size x2 x2.drew := (Below.refl _ _).drew
            generalize x2.drew = x3 at *
            ((with_reducible refine Ord.e_p (v := ?_) ?_ ?_ ?_ ?_); rotate_left; (· exact rfl); (· kernel_rfl); (· intro w2; go_simp; try with_reducible rfl))
            (try simp only [Act.put, List.setIfInBounds_toArray, List.set_cons_zero, List.set_cons_succ])
            refine Ord.e_loadS Tryz.underlying2 rfl (fun w' hS => ((show Below _ x2 w' from hS).cell (p := ⟨gv, 1, none⟩) hlz).trans z1) f2 rfl (by kernel_rfl) ?_
            (try simp only [Act.put, List.setIfInBounds_toArray, List.set_cons_zero, List.set_cons_succ])
            ((with_reducible refine Ord.e_p (v := ?_) ?_ ?_ ?_ ?_); rotate_left; (· exact rfl); (· kernel_rfl); (· intro w2; go_simp; try with_reducible rfl))
            (try simp only [Act.put, List.setIfInBounds_toArray, List.set_cons_zero, List.set_cons_succ])
            ((with_reducible refine Ord.e_p (v := ?_) ?_ ?_ ?_ ?_); rotate_left; (· exact rfl); (· kernel_rfl); (· intro w2; go_simp; try with_reducible rfl))
            (try simp only [Act.put, List.setIfInBounds_toArray, List.set_cons_zero, List.set_cons_succ])
            ((with_reducible refine Ord.e_u ?_ ?_); (· kernel_rfl))
            ((with_reducible refine Ord.e_u ?_ ?_); (· kernel_rfl))
            ((with_reducible refine Ord.e_u ?_ ?_); (· kernel_rfl))
            ((with_reducible refine Ord.e_u ?_ ?_); (· kernel_rfl))
            ((with_reducible refine Ord.e_u ?_ ?_); (· kernel_rfl))
            ((with_reducible refine Ord.e_u ?_ ?_); (· kernel_rfl))
            ((with_reducible refine Ord.e_p (v := ?_) ?_ ?_ ?_ ?_); rotate_left; (· exact rfl); (· kernel_rfl); (· intro w2; go_simp; try with_reducible rfl))
            (try simp only [Act.put, List.setIfInBounds_toArray, List.set_cons_zero, List.set_cons_succ])
            ((with_reducible refine Ord.e_p (v := ?_) ?_ ?_ ?_ ?_); rotate_left; (· exact rfl); (· kernel_rfl); (· intro w2; go_simp; try with_reducible rfl))
            (try simp only [Act.put, List.setIfInBounds_toArray, List.set_cons_zero, List.set_cons_succ])
            refine Ord.e_nil ?_
            have hbz := hb1.trans ((hb2.trans (f2.mono hb2.size)).mono hb1.size)
            go_wp2
            go_ret2
            exact ⟨none, 0, 0, rfl, World.ownsRow_nil _ _ _ _, hbz⟩
          have hd : decide (vx < 0) = false := decide_eq_false hv
          go_wp2_with fail
          refine Ord.region_ (fun w' => Below x2.heap.size x2 w') false [] (by kernel_rfl) (by kernel_rfl) ((Below.refl _ _).drew) ?_
          have f2 : Below x2.heap.size x2 x2.drew := (Below.refl _ _).drew
          generalize x2.drew = x3 at *
          ((with_reducible refine Ord.e_p (v := ?_) ?_ ?_ ?_ ?_); rotate_left; (· exact rfl); (· kernel_rfl); (· intro w2; go_simp; try with_reducible rfl))
          (try simp only [Act.put, List.setIfInBounds_toArray, List.set_cons_zero, List.set_cons_succ])
          refine Ord.e_loadS Tryz.underlying2 rfl (fun w' hS => ((show Below _ x2 w' from hS).cell (p := ⟨gv, 1, none⟩) hlz).trans z1) f2 rfl (by kernel_rfl) ?_
          (try simp only [Act.put, List.setIfInBounds_toArray, List.set_cons_zero, List.set_cons_succ])
          ((with_reducible refine Ord.e_p (v := ?_) ?_ ?_ ?_ ?_); rotate_left; (· exact rfl); (· kernel_rfl); (· intro w2; go_simp; try with_reducible rfl))
          (try simp only [Act.put, List.setIfInBounds_toArray, List.set_cons_zero, List.set_cons_succ])
          ((with_reducible refine Ord.e_p (v := ?_) ?_ ?_ ?_ ?_); rotate_left; (· exact rfl); (· kernel_rfl); (· intro w2; go_simp; try with_reducible rfl))
          (try simp only [Act.put, List.setIfInBounds_toArray, List.set_cons_zero, List.set_cons_succ])
          ((with_reducible refine Ord.e_p (v := ?_) ?_ ?_ ?_ ?_); rotate_left; (· exact rfl); (· kernel_rfl); (· intro w2; go_simp; try with_reducible rfl))
          (try simp only [Act.put, List.setIfInBounds_toArray, List.set_cons_zero, List.set_cons_succ])
          refine Ord.e_loadS Tryz.underlying2 rfl (fun w' hS => ((show Below _ x2 w' from hS).cell (p := ⟨gv, 1, none⟩) hlz).trans z1) f2 rfl (by kernel_rfl) ?_
          (try simp only [Act.put, List.setIfInBounds_toArray, List.set_cons_zero, List.set_cons_succ])
          ((with_reducible refine Ord.e_p (v := ?_) ?_ ?_ ?_ ?_); rotate_left; (· exact rfl); (· kernel_rfl); (· intro w2; go_simp; try with_reducible rfl))
          (try simp only [Act.put, List.setIfInBounds_toArray, List.set_cons_zero, List.set_cons_succ])
          refine Ord.e_loadS Tryz.underlying2 rfl (fun w' hS => ((show Below _ x2 w' from hS).cell (p := ⟨gv, 0, none⟩) hlz).trans z0) f2 rfl (by kernel_rfl) ?_
          (try simp only [Act.put, List.setIfInBounds_toArray, List.set_cons_zero, List.set_cons_succ])
          refine Ord.e_x rfl (by kernel_rfl) ?_
          go_wp2_with fail
          go_fit (vmost_any kx x3)
          rintro e x4 ⟨rfl, hb34⟩
          have f4 := f2.trans (hb34.mono f2.size)
          go_wp2_with fail
          refine Ord.Seg.go f4 (fun h => by cases h) ?_
          (try simp only [Act.put, List.setIfInBounds_toArray, List.set_cons_zero, List.set_cons_succ])
          have hb4 := hb2.trans (f4.mono hb2.size)
          by_cases hm : (msN kx : Int) < vx
          · have e1 : oE = 5 := by rw [HEE.out, if_pos (by rw [← HqE.out]), Hfirst.out (by unfold prE; simp only; rw [if_neg hz, if_pos (by omega)]; omega)]; unfold prE; simp only; rw [if_neg hz, if_pos (by omega)]
            subst e1
            have e2 : oP = [] := by rw [HoP.out]; unfold valP; rw [if_neg (by rw [← HoE.out]; omega)]
            subst e2
            have hd2 : decide ((msN kx : Int) < vx) = true := decide_eq_true hm
            ((with_reducible refine Ord.e_p (v := ?_) ?_ ?_ ?_ ?_); rotate_left; (· exact rfl); (· kernel_rfl); (· intro w2; go_simp; try with_reducible rfl))
            (try simp only [Act.put, List.setIfInBounds_toArray, List.set_cons_zero, List.set_cons_succ])
            ((with_reducible refine Ord.e_p (v := ?_) ?_ ?_ ?_ ?_); rotate_left; (· exact rfl); (· kernel_rfl); (· intro w2; go_simp; try with_reducible rfl))
            (try simp only [Act.put, List.setIfInBounds_toArray, List.set_cons_zero, List.set_cons_succ])
            ((with_reducible refine Ord.e_p (v := ?_) ?_ ?_ ?_ ?_); rotate_left; (· exact rfl); (· kernel_rfl); (· intro w2; go_simp; try with_reducible rfl))
            (try simp only [Act.put, List.setIfInBounds_toArray, List.set_cons_zero, List.set_cons_succ])
            refine Ord.e_nil ?_
            have hbz := hb1.trans (hb4.mono hb1.size)
            go_wp2
            go_ret2
            exact ⟨none, 0, 0, rfl, World.ownsRow_nil _ _ _ _, hbz⟩
          have hd2 : decide ((msN kx : Int) < vx) = false := decide_eq_false hm
          ((with_reducible refine Ord.e_p (v := ?_) ?_ ?_ ?_ ?_); rotate_left; (· exact rfl); (· kernel_rfl); (· intro w2; go_simp; try with_reducible rfl))
          (try simp only [Act.put, List.setIfInBounds_toArray, List.set_cons_zero, List.set_cons_succ])
          ((with_reducible refine Ord.e_p (v := ?_) ?_ ?_ ?_ ?_); rotate_left; (· exact rfl); (· kernel_rfl); (· intro w2; go_simp; try with_reducible rfl))
          (try simp only [Act.put, List.setIfInBounds_toArray, List.set_cons_zero, List.set_cons_succ])
          ((with_reducible refine Ord.e_p (v := ?_) ?_ ?_ ?_ ?_); rotate_left; (· exact rfl); (· kernel_rfl); (· intro w2; go_simp; try with_reducible rfl))
          (try simp only [Act.put, List.setIfInBounds_toArray, List.set_cons_zero, List.set_cons_succ])
          refine Ord.e_nil ?_
          have hw4 := hw2.keep (Aw.of_below' (U := fun _ => False) f4) (fun _ _ h => h)
          replace hsbox := blk_old hsbox f4 hlz
          clear z0 z1 hlz f2 f4 hb34 hw2 hb2 hd hd2
          have Hok := Lib.hid (show prE (kx, vx) = 0 by unfold prE; simp only; rw [if_neg hz, if_neg (by omega)])
          have hml := ms_le kx
          have hf2 := fU_sz kx vx.toNat hz (by omega)
          have hf1 := fU_four kx.toNat (by omega)
          have Hpb : Hid (prB (kx, vx) = bytesN 4 kx.toNat ++ bytesN (szN kx) vx.toNat) := Lib.hid rfl
          obtain ⟨kn, rfl⟩ : ∃ kn : Nat, kx = kn := ⟨kx.toNat, by omega⟩
          obtain ⟨vn, rfl⟩ : ∃ vn : Nat, vx = vn := ⟨vx.toNat, by omega⟩
          rw [Int.toNat_natCast] at hf1 hf2
          have Hf1 := Lib.hid hf1
          have Hf2 := Lib.hid hf2
          have Hms := Lib.hid hml
          have hsl := sz_le (kn : Int)
          have hvn : vn ≤ 9223372036854775807 := by omega
          have hwk : IntKind.u64.wrap (kn : Int) = kn := IntWalk.u64_in _ (by omega)
          have hwv : IntKind.u64.wrap (vn : Int) = vn := IntWalk.u64_in _ (by omega)
          clear hf1 hf2 hml hm hv
          generalize szN (kn : Int) = sn at *
          have z0 := blk_cell (i := 0) (v := .int .i64 (kn : Int)) hsbox rfl
          go_wp2_with fail
          go_fit (wU_any g v lw false 4 kn x4 hw4 (by omega) (by omega))
          rintro e x5 ⟨rfl, v5, hw5, ha5, _⟩
          rw [Hf1.out] at hw5
          have hw5' : Wtr x5 g v5 (lw ++ bytesN 4 kn) false := hw5
          have hb5 := hb4.trans ((wtr_below hw4 ha5).mono hgw)
          replace hsbox := ha5.keep hsbox (fun hf => by have := (hft.out _ hf).2; omega)
          clear z0 hw5 ha5 hw4 hb4
          have z1 := blk_cell (i := 1) (v := .int .i64 (vn : Int)) hsbox rfl
          go_wp2_with fail
          go_fit (wU_any g v5 (lw ++ bytesN 4 kn) false sn vn x5 hw5' (by omega) (by rw [List.length_append, bytesN_len]; omega))
          rintro e x6 ⟨rfl, v6, hw6, ha6, _⟩
          rw [Hf2.out] at hw6
          have hw6' : Wtr x6 g v6 (lw ++ bytesN 4 kn ++ bytesN sn vn) false := hw6
          have hb6 := hb5.trans ((wtr_below hw5' ha6).mono hgw)
          clear z1 hw6 ha6 hw5' hb5 hsbox
          go_wp2
          go_roundw
          case rel =>
            refine ⟨k + 1, v6, _, by omega, by go_num, hw6', hb6, ?_, Lib.hid ?_, Lib.hid (Hts.out.2 Hok.out)⟩
            · rw [List.length_append, List.length_append, bytesN_len, bytesN_len]; omega
            · rw [Hts.out.1, Hpb.out, hlB.out]; simp [List.append_assoc]
          case measure => simp [intOf]; omega
        · obtain rfl : k = n := by omega
          have ht : l.take k = l := List.take_of_length_le (by rw [Hll.out]; exact Nat.le_refl _)
          rw [ht] at hlB hall
          have e1 : oE = 0 := by rw [HEE.out, if_pos (by rw [← HqE.out])]; exact valEL_zero.2 hall.out
          have e2 : oP = lw := by rw [HoP.out, hlB.out]; unfold valP; rw [if_pos (by rw [← HoE.out]; exact e1)]; unfold valB; rw [← HqP.out]
          subst e1
          subst e2
          clear ht
          go_wp2_with fail
          go_fit (wBytes_any g v oP false wr hw (by omega))
          rintro e w5 ⟨A5, c5, n5, rfl, hown5, hb5⟩
          have hbz := hb1.trans ((hb.trans (hb5.mono hb.size)).mono hb1.size)
          go_wp2
          go_ret2
          exact ⟨A5, n5, c5, rfl, own_mono hown5 hbw.size, hbz⟩
    · have hq' : ¬ (qE : Int) = 0 := by omega
      have e1 : oE = qE := by rw [HEE.out, if_neg (by rw [← HqE.out]; exact hq), HqE.out]
      subst e1
      have e2 : oP = [] := by rw [HoP.out]; unfold valP; rw [if_neg (by rw [← HoE.out]; exact hq)]
      subst e2
      clear hq c0 c1
      go_wp2
      go_ret2
      exact ⟨none, 0, 0, rfl, World.ownsRow_nil _ _ _ _, hbf5⟩
  · simp only [Ord.lst, List.filterMap_cons, List.filterMap_nil, List.getElem?_toArray, List.getElem?_cons_succ, List.getElem?_cons_zero]
    ((with_reducible refine Ord.e_p (v := ?_) ?_ ?_ ?_ ?_); rotate_left; (· exact rfl); (· kernel_rfl); (· intro w2; go_simp; try with_reducible rfl))
    (try simp only [Act.put, List.setIfInBounds_toArray, List.set_cons_zero, List.set_cons_succ])
    refine Ord.e_loadS Tryz.underlying2 rfl (fun w' hS => ((show Below _ w1 w' from hS).cell (p := ⟨w.heap.size, 0, none⟩) hlt).trans c0) h2 rfl (by kernel_rfl) ?_
    (try simp only [Act.put, List.setIfInBounds_toArray, List.set_cons_zero, List.set_cons_succ])
    refine Ord.e_x rfl (by kernel_rfl) ?_
    go_wp2
    have hrn : Rd (w2.alloc (.cells #[.int .i64 0, .int .i64 t, .int .i64 0] 2)) (w2.heap.size + 1) 1 (some ⟨w2.heap.size, 0, none⟩) 3 3 ([0, t, 0].map (Value.int .i64)) := rd_lit' w2 2 [.int .i64 0, .int .i64 t, .int .i64 0] (by simp [maxLen])
    have hbn : Below w2.heap.size w2 (w2.alloc (.cells #[.int .i64 0, .int .i64 t, .int .i64 0] 2)) := (Below.refl _ _).alloc (Nat.le_refl _) _
    have hsn : (w2.alloc (.cells #[.int .i64 0, .int .i64 t, .int .i64 0] 2)).heap.size = w2.heap.size + 1 := World.size_alloc _ _
    have h3 := h2.trans (hbn.mono h2.size)
    refine Ord.Seg.go h3 (fun h => by cases h) ?_
    (try simp only [Act.put, List.setIfInBounds_toArray, List.set_cons_zero, List.set_cons_succ])
    generalize (w2.alloc (.cells #[.int .i64 0, .int .i64 t, .int .i64 0] 2)) = w3 at *
    have Hsn := Lib.hid hsn
    clear hsn
    refine Ord.e_x rfl (by kernel_rfl) ?_
    go_wp2_with fail
    go_fit (vfirst_any w3)
    rintro e w4 ⟨Af, nf, cf, rfl, hnf, hrf, hbf⟩
    have h4 := h3.trans (hbf.mono h3.size)
    go_wp2_with fail
    refine Ord.Seg.go h4 (fun h => by cases h) ?_
    (try simp only [Act.put, List.setIfInBounds_toArray, List.set_cons_zero, List.set_cons_succ])
    have hrn' := hrn.up (hbf.mono (by rw [Hsn.out]; exact Nat.le_refl _))
    have hrf' := hrf
    have hsz : w2.heap.size + 1 ≤ w4.heap.size := by rw [← Hsn.out]; exact hbf.size
    clear hbf hbn hrf hrn
    refine Ord.e_x rfl (by kernel_rfl) ?_
    go_wp2_with fail
    go_fit (shPut_any Af nf cf w4.heap.size vhF (some ⟨w2.heap.size, 0, none⟩) 3 3 (w2.heap.size + 1) [0, t, 0] w4 hrf' (Nat.le_refl _) hrn' hsz (by omega) (by rw [← Hlv.out]; exact Hvb.out))
    clear hsz
    rw [← Hlv.out, ← HqP.out, ← HqE.out]
    rintro e w5 ⟨Ap, np, cp, rfl, hown, hb45⟩
    have h5 := h4.trans (hb45.mono h4.size)
    have hbf5 := hb1.trans (h5.mono hb1.size)
    have hown' := own_mono hown (base' := w1.heap.size) h4.size
    go_wp2_with fail
    refine Ord.Seg.go h5 (fun h => by cases h) ?_
    (try simp only [Act.put, List.setIfInBounds_toArray, List.set_cons_zero, List.set_cons_succ])
    ((with_reducible refine Ord.e_p (v := ?_) ?_ ?_ ?_ ?_); rotate_left; (· exact rfl); (· kernel_rfl); (· intro w2; go_simp; try with_reducible rfl))
    (try simp only [Act.put, List.setIfInBounds_toArray, List.set_cons_zero, List.set_cons_succ])
    ((with_reducible refine Ord.e_p (v := ?_) ?_ ?_ ?_ ?_); rotate_left; (· exact rfl); (· kernel_rfl); (· intro w2; go_simp; try with_reducible rfl))
    (try simp only [Act.put, List.setIfInBounds_toArray, List.set_cons_zero, List.set_cons_succ])
    ((with_reducible refine Ord.e_p (v := ?_) ?_ ?_ ?_ ?_); rotate_left; (· exact rfl); (· kernel_rfl); (· intro w2; go_simp; try with_reducible rfl))
    (try simp only [Act.put, List.setIfInBounds_toArray, List.set_cons_zero, List.set_cons_succ])
    ((with_reducible refine Ord.e_p (v := ?_) ?_ ?_ ?_ ?_); rotate_left; (· exact rfl); (· kernel_rfl); (· intro w2; go_simp; try with_reducible rfl))
    (try simp only [Act.put, List.setIfInBounds_toArray, List.set_cons_zero, List.set_cons_succ])
    ((with_reducible refine Ord.e_p (v := ?_) ?_ ?_ ?_ ?_); rotate_left; (· exact rfl); (· kernel_rfl); (· intro w2; go_simp; try with_reducible rfl))
    (try simp only [Act.put, List.setIfInBounds_toArray, List.set_cons_zero, List.set_cons_succ])
    refine Ord.e_nil ?_
    clear h2 h3 h4 hb45 hown hrn' hrf'
    by_cases hq : qE = 0
    · have HQ : Hid (qE = 0) := Lib.hid hq
      have hlp : np = 4 := by rw [← own_len hown', HqP.out, vhP_len (by rw [← HqE.out]; exact hq)]
      subst hlp
      subst hq
      rw [show ((0 : Nat) : Int) = 0 from rfl]
      go_wp2_with fail
      go_fit (wMake_any w5)
      rintro e w6 ⟨rfl, hw6, hb56⟩
      have hrp := (Rd.own hown').up hb56
      have h6 := h5.trans (hb56.mono h5.size)
      have hgw : w1.heap.size ≤ w5.heap.size := h5.size
      generalize w5.heap.size = g at *
      go_wp2_with fail
      go_fit (wRaw_any g _ [] false Ap 4 cp g qP w6 hw6 hrp (by simp))
      rintro e w7 ⟨rfl, v7, hw7, ha7, hu7⟩
      have h7 := h6.trans ((wtr_below hw6 ha7).mono hgw)
      have hw7' : Wtr w7 g v7 qP false := by simpa [wtB] using hw7
      have hlq : qP.length = 4 := hrp.blen
      have d1 := (h7.cell (p := ⟨w.heap.size, 1, none⟩) hlt).trans c1
      clear hu7 hw6 hb56 hrp h6 ha7 hw7 hown' h5 hbf5 w5 w6
      go_wp2_with fail
      go_loopw [33] (fun i wr => ∃ (k : Nat) (v : Value) (lw : List UInt8), k ≤ n ∧ i = .int .i64 k ∧ Wtr wr g v lw false ∧ Below w1.heap.size w1 wr ∧ lw.length ≤ 4 + 12 * k ∧ Hid (lw = qP ++ (l.take k).flatMap prB) ∧ Hid (∀ p ∈ l.take k, prE p = 0)) (fun i _ => n - (intOf i).toNat)
      case atStart => exact ⟨0, v7, qP, by omega, rfl, hw7', h7, by omega, Lib.hid (by simp), Lib.hid (by simp)⟩
      case round =>
        clear hw7' h7 d1 w7
        obtain ⟨k, v, lw, hk, rfl, hw, hb, hlw, hlB, hall⟩ := hrel
        have hbw := hb1.trans (hb.mono hb1.size)
        by_cases hlt2 : k < n
        · obtain ⟨g1, off, rr, hA, hg1, hx, hrl, hrow⟩ := hr.at_ hlt2
          obtain ⟨⟨kx, vx⟩, hs, rfl⟩ : ∃ p, l[k]? = some p ∧ prC p = rr := by simpa using hx
          have hts : l.take (k + 1) = l.take k ++ [(kx, vx)] := take_succ hs
          have hfirst : prE (kx, vx) ≠ 0 → valEL l = prE (kx, vx) := fun h => valEL_at hs hall.out h
          have Hts : Hid ((l.take (k + 1)).flatMap prB = (l.take k).flatMap prB ++ prB (kx, vx) ∧ (prE (kx, vx) = 0 → ∀ x ∈ l.take (k + 1), prE x = 0)) := Lib.hid ⟨by rw [hts, List.flatMap_append]; simp, fun h0 x hx => by
            rw [hts] at hx
            rcases List.mem_append.1 hx with hx | hx
            · exact hall.out x hx
            · simp at hx; rw [hx]; exact h0⟩
          have Hfirst := Lib.hid hfirst
          have Hrow := Lib.hid hrow
          have Hx := Lib.hid (List.mem_of_getElem? hs)
          clear hs hx hrow hrl hts hfirst
          subst hA
          have q0 : wr.cell? ⟨g1, off + k * 2, none⟩ = some (.int .i64 kx) := (hbw.cell (p := ⟨g1, off + k * 2 + 0, none⟩) hg1).trans (Hrow.out 0 _ rfl)
          have q1 : wr.cell? ⟨g1, off + k * 2 + 1, none⟩ = some (.int .i64 vx) := (hbw.cell (p := ⟨g1, off + k * 2 + 1, none⟩) hg1).trans (Hrow.out 1 _ rfl)
          have hbx1 := hb.alloc hb.size (.cells #[.int .i64 kx, .int .i64 vx] 103)
          have hsbox := heap_alloc_new wr (.cells #[.int .i64 kx, .int .i64 vx] 103)
          have hw1 := hw.keep ((Aw.refl (fun _ => False) wr).alloc (.cells #[.int .i64 kx, .int .i64 vx] 103)) (fun _ _ h => h)
          have hft := Lib.hid (fun (j : Nat) (hj : Foot g v j) => hw.foot hj)
          go_wp2_with fail
          clear q0 q1 hb hbw hw
          generalize (wr.alloc (.cells #[.int .i64 kx, .int .i64 vx] 103)) = x1 at *
          generalize wr.heap.size = gv at *
          have hs := vsize_any kx x1
          by_cases hz : szN kx = 0
          · rw [show decide (szN kx ≠ 0) = false from decide_eq_false (by omega)] at hs
            have e1 : oE = 6 := by rw [HEE.out, if_pos (by rw [← HqE.out]), Hfirst.out (by unfold prE; simp only; rw [if_pos hz]; omega)]; unfold prE; simp only; rw [if_pos hz]
            subst e1
            have e2 : oP = [] := by rw [HoP.out]; unfold valP; rw [if_neg (by rw [← HoE.out]; omega)]
            subst e2
            go_fit hs
            rintro e x2 ⟨rfl, hb12⟩
            have hbz := hb1.trans ((hbx1.trans (hb12.mono hbx1.size)).mono hb1.size)
            go_wp2
            go_ret2
            exact ⟨none, 0, 0, rfl, World.ownsRow_nil _ _ _ _, hbz⟩
          rw [show decide (szN kx ≠ 0) = true from decide_eq_true hz] at hs
          obtain ⟨hk0, hk1⟩ := sz_in hz
          go_fit hs
          rintro e x2 ⟨rfl, hb12⟩
          have hb2 := hbx1.trans (hb12.mono hbx1.size)
          have hw2 := hw1.keep (Aw.of_below' (U := fun _ => False) hb12) (fun _ _ h => h)
          have hgs := blk_lt hsbox
          replace hsbox := blk_old hsbox hb12 hgs
          clear hs hbx1 hw1 hgs hb12
          have z0 := blk_cell (i := 0) (v := .int .i64 kx) hsbox rfl
          have z1 := blk_cell (i := 1) (v := .int .i64 vx) hsbox rfl
          have hlz := blk_lt hsbox
          by_cases hv : vx < 0
          · have hd : decide (vx < 0) = true := decide_eq_true hv
            have e1 : oE = 5 := by rw [HEE.out, if_pos (by rw [← HqE.out]), Hfirst.out (by unfold prE; simp only; rw [if_neg hz, if_pos (by omega)]; omega)]; unfold prE; simp only; rw [if_neg hz, if_pos (by omega)]
            subst e1
            have e2 : oP = [] := by rw [HoP.out]; unfold valP; rw [if_neg (by rw [← HoE.out]; omega)]
            subst e2
            go_wp2_with fail
            refine Ord.region_ (fun w' => Below x2.heap.size x2 w') false [] (by kernel_rfl) (by kernel_rfl) ((Below.refl _ _).drew) ?_
            have f2 : Below x2.heap.size x2 x2.drew := (Below.refl _ _).drew
            generalize x2.drew = x3 at *
            ((with_reducible refine Ord.e_p (v := ?_) ?_ ?_ ?_ ?_); rotate_left; (· exact rfl); (· kernel_rfl); (· intro w2; go_simp; try with_reducible rfl))
            (try simp only [Act.put, List.setIfInBounds_toArray, List.set_cons_zero, List.set_cons_succ])
            refine Ord.e_loadS Tryz.underlying2 rfl (fun w' hS => ((show Below _ x2 w' from hS).cell (p := ⟨gv, 1, none⟩) hlz).trans z1) f2 rfl (by kernel_rfl) ?_
            (try simp only [Act.put, List.setIfInBounds_toArray, List.set_cons_zero, List.set_cons_succ])
            ((with_reducible refine Ord.e_p (v := ?_) ?_ ?_ ?_ ?_); rotate_left; (· exact rfl); (· kernel_rfl); (· intro w2; go_simp; try with_reducible rfl))
            (try simp only [Act.put, List.setIfInBounds_toArray, List.set_cons_zero, List.set_cons_succ])
            ((with_reducible refine Ord.e_p (v := ?_) ?_ ?_ ?_ ?_); rotate_left; (· exact rfl); (· kernel_rfl); (· intro w2; go_simp; try with_reducible rfl))
            (try simp only [Act.put, List.setIfInBounds_toArray, List.set_cons_zero, List.set_cons_succ])
            ((with_reducible refine Ord.e_u ?_ ?_); (· kernel_rfl))
            ((with_reducible refine Ord.e_u ?_ ?_); (· kernel_rfl))
            ((with_reducible refine Ord.e_u ?_ ?_); (· kernel_rfl))
            ((with_reducible refine Ord.e_u ?_ ?_); (· kernel_rfl))
            ((with_reducible refine Ord.e_u ?_ ?_); (· kernel_rfl))
            ((with_reducible refine Ord.e_u ?_ ?_); (· kernel_rfl))
            ((with_reducible refine Ord.e_p (v := ?_) ?_ ?_ ?_ ?_); rotate_left; (· exact rfl); (· kernel_rfl); (· intro w2; go_simp; try with_reducible rfl))
            (try simp only [Act.put, List.setIfInBounds_toArray, List.set_cons_zero, List.set_cons_succ])
            ((with_reducible refine Ord.e_p (v := ?_) ?_ ?_ ?_ ?_); rotate_left; (· exact rfl); (· kernel_rfl); (· intro w2; go_simp; try with_reducible rfl))
            (try simp only [Act.put, List.setIfInBounds_toArray, List.set_cons_zero, List.set_cons_succ])
            refine Ord.e_nil ?_
            have hbz := hb1.trans ((hb2.trans (f2.mono hb2.size)).mono hb1.size)
            go_wp2
            go_ret2
            exact ⟨none, 0, 0, rfl, World.ownsRow_nil _ _ _ _, hbz⟩
          have hd : decide (vx < 0) = false := decide_eq_false hv
          go_wp2_with fail
          refine Ord.region_ (fun w' => Below x2.heap.size x2 w') false [] (by kernel_rfl) (by kernel_rfl) ((Below.refl _ _).drew) ?_
          have f2 : Below x2.heap.size x2 x2.drew := (Below.refl _ _).drew
          generalize x2.drew = x3 at *
          ((with_reducible refine Ord.e_p (v := ?_) ?_ ?_ ?_ ?_); rotate_left; (· exact rfl); (· kernel_rfl); (· intro w2; go_simp; try with_reducible rfl))
          (try simp only [Act.put, List.setIfInBounds_toArray, List.set_cons_zero, List.set_cons_succ])
          refine Ord.e_loadS Tryz.underlying2 rfl (fun w' hS => ((show Below _ x2 w' from hS).cell (p := ⟨gv, 1, none⟩) hlz).trans z1) f2 rfl (by kernel_rfl) ?_
          (try simp only [Act.put, List.setIfInBounds_toArray, List.set_cons_zero, List.set_cons_succ])
          ((with_reducible refine Ord.e_p (v := ?_) ?_ ?_ ?_ ?_); rotate_left; (· exact rfl); (· kernel_rfl); (· intro w2; go_simp; try with_reducible rfl))
          (try simp only [Act.put, List.setIfInBounds_toArray, List.set_cons_zero, List.set_cons_succ])
          ((with_reducible refine Ord.e_p (v := ?_) ?_ ?_ ?_ ?_); rotate_left; (· exact rfl); (· kernel_rfl); (· intro w2; go_simp; try with_reducible rfl))
          (try simp only [Act.put, List.setIfInBounds_toArray, List.set_cons_zero, List.set_cons_succ])
          ((with_reducible refine Ord.e_p (v := ?_) ?_ ?_ ?_ ?_); rotate_left; (· exact rfl); (· kernel_rfl); (· intro w2; go_simp; try with_reducible rfl))
          (try simp only [Act.put, List.setIfInBounds_toArray, List.set_cons_zero, List.set_cons_succ])
          refine Ord.e_loadS Tryz.underlying2 rfl (fun w' hS => ((show Below _ x2 w' from hS).cell (p := ⟨gv, 1, none⟩) hlz).trans z1) f2 rfl (by kernel_rfl) ?_
          (try simp only [Act.put, List.setIfInBounds_toArray, List.set_cons_zero, List.set_cons_succ])
          ((with_reducible refine Ord.e_p (v := ?_) ?_ ?_ ?_ ?_); rotate_left; (· exact rfl); (· kernel_rfl); (· intro w2; go_simp; try with_reducible rfl))
          (try simp only [Act.put, List.setIfInBounds_toArray, List.set_cons_zero, List.set_cons_succ])
          refine Ord.e_loadS Tryz.underlying2 rfl (fun w' hS => ((show Below _ x2 w' from hS).cell (p := ⟨gv, 0, none⟩) hlz).trans z0) f2 rfl (by kernel_rfl) ?_
          (try simp only [Act.put, List.setIfInBounds_toArray, List.set_cons_zero, List.set_cons_succ])
          refine Ord.e_x rfl (by kernel_rfl) ?_
          go_wp2_with fail
          go_fit (vmost_any kx x3)
          rintro e x4 ⟨rfl, hb34⟩
          have f4 := f2.trans (hb34.mono f2.size)
          go_wp2_with fail
          refine Ord.Seg.go f4 (fun h => by cases h) ?_
          (try simp only [Act.put, List.setIfInBounds_toArray, List.set_cons_zero, List.set_cons_succ])
          have hb4 := hb2.trans (f4.mono hb2.size)
          by_cases hm : (msN kx : Int) < vx
          · have e1 : oE = 5 := by rw [HEE.out, if_pos (by rw [← HqE.out]), Hfirst.out (by unfold prE; simp only; rw [if_neg hz, if_pos (by omega)]; omega)]; unfold prE; simp only; rw [if_neg hz, if_pos (by omega)]
            subst e1
            have e2 : oP = [] := by rw [HoP.out]; unfold valP; rw [if_neg (by rw [← HoE.out]; omega)]
            subst e2
            have hd2 : decide ((msN kx : Int) < vx) = true := decide_eq_true hm
            ((with_reducible refine Ord.e_p (v := ?_) ?_ ?_ ?_ ?_); rotate_left; (· exact rfl); (· kernel_rfl); (· intro w2; go_simp; try with_reducible rfl))
            (try simp only [Act.put, List.setIfInBounds_toArray, List.set_cons_zero, List.set_cons_succ])
            ((with_reducible refine Ord.e_p (v := ?_) ?_ ?_ ?_ ?_); rotate_left; (· exact rfl); (· kernel_rfl); (· intro w2; go_simp; try with_reducible rfl))
            (try simp only [Act.put, List.setIfInBounds_toArray, List.set_cons_zero, List.set_cons_succ])
            ((with_reducible refine Ord.e_p (v := ?_) ?_ ?_ ?_ ?_); rotate_left; (· exact rfl); (· kernel_rfl); (· intro w2; go_simp; try with_reducible rfl))
            (try simp only [Act.put, List.setIfInBounds_toArray, List.set_cons_zero, List.set_cons_succ])
            refine Ord.e_nil ?_
            have hbz := hb1.trans (hb4.mono hb1.size)
            go_wp2
            go_ret2
            exact ⟨none, 0, 0, rfl, World.ownsRow_nil _ _ _ _, hbz⟩
          have hd2 : decide ((msN kx : Int) < vx) = false := decide_eq_false hm
          ((with_reducible refine Ord.e_p (v := ?_) ?_ ?_ ?_ ?_); rotate_left; (· exact rfl); (· kernel_rfl); (· intro w2; go_simp; try with_reducible rfl))
          (try simp only [Act.put, List.setIfInBounds_toArray, List.set_cons_zero, List.set_cons_succ])
          ((with_reducible refine Ord.e_p (v := ?_) ?_ ?_ ?_ ?_); rotate_left; (· exact rfl); (· kernel_rfl); (· intro w2; go_simp; try with_reducible rfl))
          (try simp only [Act.put, List.setIfInBounds_toArray, List.set_cons_zero, List.set_cons_succ])
          ((with_reducible refine Ord.e_p (v := ?_) ?_ ?_ ?_ ?_); rotate_left; (· exact rfl); (· kernel_rfl); (· intro w2; go_simp; try with_reducible rfl))
          (try simp only [Act.put, List.setIfInBounds_toArray, List.set_cons_zero, List.set_cons_succ])
          refine Ord.e_nil ?_
          have hw4 := hw2.keep (Aw.of_below' (U := fun _ => False) f4) (fun _ _ h => h)
          replace hsbox := blk_old hsbox f4 hlz
          clear z0 z1 hlz f2 f4 hb34 hw2 hb2 hd hd2
          have Hok := Lib.hid (show prE (kx, vx) = 0 by unfold prE; simp only; rw [if_neg hz, if_neg (by omega)])
          have hml := ms_le kx
          have hf2 := fU_sz kx vx.toNat hz (by omega)
          have hf1 := fU_four kx.toNat (by omega)
          have Hpb : Hid (prB (kx, vx) = bytesN 4 kx.toNat ++ bytesN (szN kx) vx.toNat) := Lib.hid rfl
          obtain ⟨kn, rfl⟩ : ∃ kn : Nat, kx = kn := ⟨kx.toNat, by omega⟩
          obtain ⟨vn, rfl⟩ : ∃ vn : Nat, vx = vn := ⟨vx.toNat, by omega⟩
          rw [Int.toNat_natCast] at hf1 hf2
          have Hf1 := Lib.hid hf1
          have Hf2 := Lib.hid hf2
          have Hms := Lib.hid hml
          have hsl := sz_le (kn : Int)
          have hvn : vn ≤ 9223372036854775807 := by omega
          have hwk : IntKind.u64.wrap (kn : Int) = kn := IntWalk.u64_in _ (by omega)
          have hwv : IntKind.u64.wrap (vn : Int) = vn := IntWalk.u64_in _ (by omega)
          clear hf1 hf2 hml hm hv
          generalize szN (kn : Int) = sn at *
          have z0 := blk_cell (i := 0) (v := .int .i64 (kn : Int)) hsbox rfl
          go_wp2_with fail
          go_fit (wU_any g v lw false 4 kn x4 hw4 (by omega) (by omega))
          rintro e x5 ⟨rfl, v5, hw5, ha5, _⟩
          rw [Hf1.out] at hw5
          have hw5' : Wtr x5 g v5 (lw ++ bytesN 4 kn) false := hw5
          have hb5 := hb4.trans ((wtr_below hw4 ha5).mono hgw)
          replace hsbox := ha5.keep hsbox (fun hf => by have := (hft.out _ hf).2; omega)
          clear z0 hw5 ha5 hw4 hb4
          have z1 := blk_cell (i := 1) (v := .int .i64 (vn : Int)) hsbox rfl
          go_wp2_with fail
          go_fit (wU_any g v5 (lw ++ bytesN 4 kn) false sn vn x5 hw5' (by omega) (by rw [List.length_append, bytesN_len]; omega))
          rintro e x6 ⟨rfl, v6, hw6, ha6, _⟩
          rw [Hf2.out] at hw6
          have hw6' : Wtr x6 g v6 (lw ++ bytesN 4 kn ++ bytesN sn vn) false := hw6
          have hb6 := hb5.trans ((wtr_below hw5' ha6).mono hgw)
          clear z1 hw6 ha6 hw5' hb5 hsbox
          go_wp2
          go_roundw
          case rel =>
            refine ⟨k + 1, v6, _, by omega, by go_num, hw6', hb6, ?_, Lib.hid ?_, Lib.hid (Hts.out.2 Hok.out)⟩
            · rw [List.length_append, List.length_append, bytesN_len, bytesN_len]; omega
            · rw [Hts.out.1, Hpb.out, hlB.out]; simp [List.append_assoc]
          case measure => simp [intOf]; omega
        · obtain rfl : k = n := by omega
          have ht : l.take k = l := List.take_of_length_le (by rw [Hll.out]; exact Nat.le_refl _)
          rw [ht] at hlB hall
          have e1 : oE = 0 := by rw [HEE.out, if_pos (by rw [← HqE.out])]; exact valEL_zero.2 hall.out
          have e2 : oP = lw := by rw [HoP.out, hlB.out]; unfold valP; rw [if_pos (by rw [← HoE.out]; exact e1)]; unfold valB; rw [← HqP.out]
          subst e1
          subst e2
          clear ht
          go_wp2_with fail
          go_fit (wBytes_any g v oP false wr hw (by omega))
          rintro e w5 ⟨A5, c5, n5, rfl, hown5, hb5⟩
          have hbz := hb1.trans ((hb.trans (hb5.mono hb.size)).mono hb1.size)
          go_wp2
          go_ret2
          exact ⟨A5, n5, c5, rfl, own_mono hown5 hbw.size, hbz⟩
    · have hq' : ¬ (qE : Int) = 0 := by omega
      have e1 : oE = qE := by rw [HEE.out, if_neg (by rw [← HqE.out]; exact hq), HqE.out]
      subst e1
      have e2 : oP = [] := by rw [HoP.out]; unfold valP; rw [if_neg (by rw [← HoE.out]; exact hq)]
      subst e2
      clear hq c0 c1
      go_wp2
      go_ret2
      exact ⟨none, 0, 0, rfl, World.ownsRow_nil _ _ _ _, hbf5⟩

end Go.Proofs.YtmkidihcdljkiaaGreat
