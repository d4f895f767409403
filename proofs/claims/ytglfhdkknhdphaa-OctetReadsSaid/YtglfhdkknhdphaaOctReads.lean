/-
  The law OctetReads walked.
-/
import Derived.Test.YtglfhdkknhdphaaOctKnows
import Derived.Test.YtglfhdkknhdphaaOctOps
import Derived.Test.YtglfhdkknhdphaaOctRef
set_option linter.unusedSimpArgs false
set_option linter.unusedVariables false
namespace Go.Proofs.Ytglfhdkknhdphaa
open Go.RowKit NumLaw
attribute [local go_sem] Addr.add_mid

theorem rdL_le (n : Int) (l : List UInt8) (bad : Bool) : (rdL n l bad).length ≤ l.length := by
  unfold rdL
  split <;> simp
theorem rdB_le' (n : Int) (l : List UInt8) (bad : Bool) : (rdB n l bad).length ≤ l.length := by
  unfold rdB
  split <;> simp
  omega
set_option maxRecDepth 10000 in
set_option maxHeartbeats 4000000 in
theorem reads_go (A : Option Addr) (n c : Nat) (l : List UInt8) (Ao : Option Addr) (no co : Nat) (ops : List OpV) (w : World) (h : Rd w w.heap.size 1 A n c (bv l)) (ho : RdOps w w.heap.size Ao no co ops) (hn : n ≤ 1000) (hf : fewN ops = true) :
    Calls Try.prog 3 #[.slice A n c, .slice Ao no co] w fun e w' => e = .returned (.bool true) ∧ Below w.heap.size w w' := by
  have hll := Lib.hid h.blen
  have Hf := Lib.hid hf
  have hno : no ≤ 60 := by have := (fewN_all hf).1; rw [ho.1] at this; exact this
  have hco := ho.2.1
  clear hf
  go_enter Try.func3, Try.ntmps3
  go_wp2_with fail
  go_fit (few_any Ao no co w.heap.size ops w ho)
  rintro e w1 ⟨rfl, rfl⟩
  rw [Hf.out]
  go_wp2_with fail
  go_fit (knows04 w)
  rintro e w1 ⟨rfl, hb1⟩
  go_wp2_with fail
  go_fit (rNew_any A n c w.heap.size l w1 (h.up hb1) hb1.size (by omega))
  rintro e w2 ⟨g, rfl, hr2, hg2, hb12⟩
  have hb2 := bnx hb1 hb12
  have hlow := hb1.size
  have hw2g : g < w2.heap.size := by obtain ⟨⟨_, _, _, hr, _, _⟩, _⟩ := hr2; exact hr.lt
  clear hb1 hb12
  generalize w1.heap.size = lo at *
  have hr3 : Rdr lo (w2.alloc (.cells #[.slice A n c, .bool false] 29)) g l false := hr2.keep (World.grownBy_alloc w2 _ none) (fun _ h => by cases h)
  have hb3 := hb2.alloc hb2.size (.cells #[.slice A n c, .bool false] 29)
  have hk3 : (w2.alloc (.cells #[.slice A n c, .bool false] 29)).heap[w2.heap.size]? = some (.cells #[.slice A n c, .bool false] 29) := heap_alloc_new w2 _
  have hq3 := h.up hb3
  have hwg : w.heap.size ≤ g := by omega
  go_wp2
  generalize (w2.alloc (.cells #[.slice A n c, .bool false] 29)) = w3 at *
  generalize w2.heap.size = gq at *
  clear hr2 hb2 hg2
  go_loopw [7] (fun i wr => ∃ (k : Nat) (lr : List UInt8) (bad : Bool) (Aq : Option Addr) (nq cq : Nat), k ≤ no ∧ i = .int .i64 k ∧ Rdr lo wr g lr bad ∧ wr.heap[gq]? = some (.cells #[.slice Aq nq cq, .bool bad] 29) ∧ Rd wr w.heap.size 1 Aq nq cq (bv lr) ∧ Below w.heap.size w wr ∧ lr.length ≤ 1000) (fun i _ => no - (intOf i).toNat)
  case atStart => exact ⟨0, l, false, A, n, c, by omega, rfl, hr3, hk3, hq3, hb3, by rw [hll.out]; exact hn⟩
  case round =>
    clear hr3 hk3 hq3 hb3 w3 w2
    obtain ⟨k, lr, bad, Aq, nq, cq, hk, rfl, hr, hkq, hq, hb, hlr⟩ := hrel
    have hnq := hq.blen
    have hrl := fun n => rdL_le n lr bad
    have hrb := fun n => rdB_le' n lr bad
    by_cases hlt : k < no
    · obtain ⟨go, off, o, rfl, hgo, hx, h1, h2, h3, h4, h5, hn0, hu0, hi0⟩ := (ho.up hb).at_ hlt
      clear h3 h4 h5 hu0 hi0
      by_cases hk0 : o.kind = 0
      · have hk0' := hk0
        rw [hk0] at h1
        clear hk0
        go_wp2_with fail
        go_fit (rU_any lo g lr bad o.n wr hr)
        rintro e w4 ⟨rfl, hr4, hg4⟩
        have hb4 : Below w.heap.size w w4 := hb.grown hg4 hb.size (fun k hk => by injection hk with hk; omega); have hkq4 := (hg4.block gq (blk_lt hkq) (by intro e; injection e with e; omega)).trans hkq; have hq4 := hq.grown hg4 hwg (by have := blk_lt hkq; omega); obtain ⟨go', off', o', hgo', _, hx', c1, c2, c3, c4, c5, c6⟩ := (ho.up hb4).at_ hlt; injection hgo' with hgo'; injection hgo' with e1 e2 _; subst e1; subst e2; rw [hx] at hx'; injection hx' with hx'; subst hx'; clear c1 c3 c4 c5 c6 hr hkq hq hb hg4 h1 h2
        go_wp2_with fail
        refine Ord.region_ (fun _ => True) true [69, 74] (by kernel_rfl) (by kernel_rfl) trivial ?_
        replace hr4 := hr4.keep (row := none) (w' := w4.drew) ⟨rfl, rfl, rfl, Nat.le_refl _, fun _ _ _ => rfl⟩ (fun _ h => by cases h); replace hkq4 : w4.drew.heap[gq]? = _ := hkq4; replace hq4 := hq4.drew; replace hb4 := hb4.drew; replace c2 : w4.drew.cell? _ = _ := c2; generalize w4.drew = w5 at *; have hrow4 : w5.rangeAt gq 0 [.slice Aq nq cq, .bool bad] := own_range hkq4 0 (fun j v hv => by simpa using hv)
        repeat (first | (refine Ord.e_p (v := ?_) rfl (by rfl) ?_ ?_; rotate_left; · (intro w2; go_simp; try with_reducible rfl)) | (refine Ord.e_u (by rfl) ?_)); (try simp only [Act.put, List.setIfInBounds_toArray, List.set_cons_zero, List.set_cons_succ])
        refine Ord.e_row Try.underlying29 rfl (by kernel_rfl) rfl hrow4 (by rfl) (by rfl) ?_
        (try simp only [Act.put, List.setIfInBounds_toArray, List.set_cons_zero, List.set_cons_succ])
        repeat (first | (refine Ord.e_p (v := ?_) rfl (by rfl) ?_ ?_; rotate_left; · (intro w2; go_simp; try with_reducible rfl)) | (refine Ord.e_u (by rfl) ?_)); (try simp only [Act.put, List.setIfInBounds_toArray, List.set_cons_zero, List.set_cons_succ])
        refine Ord.e_load Try.underlying3 rfl c2 rfl (by rfl) (by rfl) ?_
        (try simp only [Act.put, List.setIfInBounds_toArray, List.set_cons_zero, List.set_cons_succ])
        repeat (first | (refine Ord.e_p (v := ?_) rfl (by rfl) ?_ ?_; rotate_left; · (intro w2; go_simp; try with_reducible rfl)) | (refine Ord.e_u (by rfl) ?_)); (try simp only [Act.put, List.setIfInBounds_toArray, List.set_cons_zero, List.set_cons_succ])
        refine Ord.e_x rfl (by rfl) ?_
        go_wp2_with fail
        go_fit (qU_any Aq nq cq w.heap.size lr bad o.n w5 hq4 hb4.size (by omega))
        rintro e w6 ⟨A6, n6, c6, rfl, hq6, hb56⟩
        have hl6 := hrl (nU o.n)
        generalize rdF (nU o.n) lr bad = b6 at *
        generalize rdL (nU o.n) lr bad = l6 at *
        generalize num (rdB (nU o.n) lr bad) = v6 at *
        go_wp2_with fail
        refine Ord.Seg.go trivial (fun _ => hb56) ?_
        (try simp only [Act.put, List.setIfInBounds_toArray, List.set_cons_zero, List.set_cons_succ])
        repeat (first | (refine Ord.e_p (v := ?_) rfl (by rfl) ?_ ?_; rotate_left; · (intro w2; go_simp; try with_reducible rfl)) | (refine Ord.e_u (by rfl) ?_)); (try simp only [Act.put, List.setIfInBounds_toArray, List.set_cons_zero, List.set_cons_succ])
        have hr6 := hr4.keep (grownBy_of hb56 none) (fun _ h => by cases h)
        have hkq6 := blk_old hkq4 hb56 (blk_lt hkq4)
        have hb6 : Below w.heap.size w w6 := bnx hb4 hb56
        clear hr4 hkq4 hb4 hb56 hq4 hrow4 c2
        have hk1 := blk_set (i := 0) hkq6 (.slice A6 n6 c6)
        have hk2 := blk_set (i := 1) hk1 (.bool b6)
        have s1 : w6.cell? ⟨gq, 0, none⟩ = _ := blk_cell hkq6 rfl
        have s2 : w6.frozen? ⟨gq, 0, none⟩ = false := blk_free (i := 0) hkq6
        have s3 : (w6.setCell ⟨gq, 0, none⟩ (.slice A6 n6 c6)).cell? ⟨gq, 1, none⟩ = some (.bool bad) := blk_cell hk1 rfl
        have s4 := blk_free (i := 1) hk1
        refine Ord.e_x rfl (by rfl) ?_
        go_wp2
        have hA7 : w6.grownBy ((w6.setCell ⟨gq, 0, none⟩ (.slice A6 n6 c6)).setCell ⟨gq, 1, none⟩ (.bool b6)) (some gq) := grownBy_set (grownBy_set (grownBy_self _ _) 0 _) 1 _
        have hr7 : Rdr lo ((w6.setCell ⟨gq, 0, none⟩ (.slice A6 n6 c6)).setCell ⟨gq, 1, none⟩ (.bool b6)) g l6 b6 := hr6.keep hA7 (fun k hk => by injection hk with hk; omega)
        have hq7 := hq6.grown hA7 (by omega) (blk_lt hkq6)
        have hb7 : Below w.heap.size w ((w6.setCell ⟨gq, 0, none⟩ (.slice A6 n6 c6)).setCell ⟨gq, 1, none⟩ (.bool b6)) := hb6.grown hA7 hb6.size (fun k hk => by injection hk with hk; omega)
        have hk7 : ((w6.setCell ⟨gq, 0, none⟩ (.slice A6 n6 c6)).setCell ⟨gq, 1, none⟩ (.bool b6)).heap[gq]? = some (.cells #[.slice A6 n6 c6, .bool b6] 29) := hk2
        generalize ((w6.setCell ⟨gq, 0, none⟩ (.slice A6 n6 c6)).setCell ⟨gq, 1, none⟩ (.bool b6)) = w7 at *
        clear hr6 hkq6 hb6 hq6 hk1 hk2 s1 s2 s3 s4 hA7
        refine Ord.Seg.go trivial (fun h => by cases h) ?_
        (try simp only [Act.put, List.setIfInBounds_toArray, List.set_cons_zero, List.set_cons_succ])
        repeat (first | (refine Ord.e_p (v := ?_) rfl (by rfl) ?_ ?_; rotate_left; · (intro w2; go_simp; try with_reducible rfl)) | (refine Ord.e_u (by rfl) ?_)); (try simp only [Act.put, List.setIfInBounds_toArray, List.set_cons_zero, List.set_cons_succ])
        refine Ord.e_nil ?_
        go_wp2_with fail
        have hs7 : Rd w7 w7.heap.size 1 none 0 0 (bv []) := Rd.none_ _ _ _
        have ht7 : Rd w7 w7.heap.size 1 none 0 0 (bv []) := Rd.none_ _ _ _
        refine Ord.region_at [0, 1, 2, 3, 4, 5, 6, 7, 8, 9, 10, 11, 12, 13, 14, 15, 18, 19, 20, 16, 17, 21, 22, 23, 26, 27, 24, 25, 28, 29] (fun _ => True) true [107, 109, 116, 124] (by kernel_rfl) (by kernel_rfl) rfl trivial ?_
        simp only [Ord.lst, List.filterMap_cons, List.filterMap_nil, List.getElem?_toArray, List.getElem?_cons_succ, List.getElem?_cons_zero]
        replace hr7 := hr7.keep (row := none) (w' := w7.drew) ⟨rfl, rfl, rfl, Nat.le_refl _, fun _ _ _ => rfl⟩ (fun _ h => by cases h)
        replace hk7 : w7.drew.heap[gq]? = _ := hk7
        replace hq7 := hq7.drew
        replace hb7 := hb7.drew
        replace hs7 : Rd w7.drew w7.drew.heap.size 1 _ _ _ _ := hs7.drew
        replace ht7 : Rd w7.drew w7.drew.heap.size 1 _ _ _ _ := ht7.drew
        generalize w7.drew = w8 at *
        have hL := rLeft_any lo g l6 b6 w8 hr7
        rw [hq7.blen] at hL
        have hF := rFail_any lo g l6 b6 w8 hr7
        have c0 := blk_cell (i := 0) (v := .slice A6 n6 c6) hk7 rfl
        have c1 := blk_cell (i := 1) (v := .bool b6) hk7 rfl
        repeat (first | (refine Ord.e_p (v := ?_) rfl (by rfl) ?_ ?_; rotate_left; · (intro w2; go_simp; try with_reducible rfl)) | (refine Ord.e_u (by rfl) ?_)); (try simp only [Act.put, List.setIfInBounds_toArray, List.set_cons_zero, List.set_cons_succ])
        refine Ord.e_str Try.underlying22 Try.underlying5 Try.underlying9 hs7 rfl (by rfl) (by rfl) ?_
        (try simp only [Act.put, List.setIfInBounds_toArray, List.set_cons_zero, List.set_cons_succ])
        repeat (first | (refine Ord.e_p (v := ?_) rfl (by rfl) ?_ ?_; rotate_left; · (intro w2; go_simp; try with_reducible rfl)) | (refine Ord.e_u (by rfl) ?_)); (try simp only [Act.put, List.setIfInBounds_toArray, List.set_cons_zero, List.set_cons_succ])
        refine Ord.e_str Try.underlying22 Try.underlying5 Try.underlying9 ht7 rfl (by rfl) (by rfl) ?_
        (try simp only [Act.put, List.setIfInBounds_toArray, List.set_cons_zero, List.set_cons_succ])
        repeat (first | (refine Ord.e_p (v := ?_) rfl (by rfl) ?_ ?_; rotate_left; · (intro w2; go_simp; try with_reducible rfl)) | (refine Ord.e_u (by rfl) ?_)); (try simp only [Act.put, List.setIfInBounds_toArray, List.set_cons_zero, List.set_cons_succ])
        refine Ord.e_load Try.underlying22 rfl c0 rfl (by rfl) (by rfl) ?_
        (try simp only [Act.put, List.setIfInBounds_toArray, List.set_cons_zero, List.set_cons_succ])
        repeat (first | (refine Ord.e_p (v := ?_) rfl (by rfl) ?_ ?_; rotate_left; · (intro w2; go_simp; try with_reducible rfl)) | (refine Ord.e_u (by rfl) ?_)); (try simp only [Act.put, List.setIfInBounds_toArray, List.set_cons_zero, List.set_cons_succ])
        refine Ord.e_x rfl (by rfl) ?_
        go_wp2_with fail
        go_fit hL
        rintro e w9 ⟨rfl, rfl⟩
        go_wp2_with fail
        refine Ord.Seg.go trivial (fun _ => Below.refl _ _) ?_
        (try simp only [Act.put, List.setIfInBounds_toArray, List.set_cons_zero, List.set_cons_succ])
        repeat (first | (refine Ord.e_p (v := ?_) rfl (by rfl) ?_ ?_; rotate_left; · (intro w2; go_simp; try with_reducible rfl)) | (refine Ord.e_u (by rfl) ?_)); (try simp only [Act.put, List.setIfInBounds_toArray, List.set_cons_zero, List.set_cons_succ])
        refine Ord.e_load Try.underlying4 rfl c1 rfl (by rfl) (by rfl) ?_
        (try simp only [Act.put, List.setIfInBounds_toArray, List.set_cons_zero, List.set_cons_succ])
        repeat (first | (refine Ord.e_p (v := ?_) rfl (by rfl) ?_ ?_; rotate_left; · (intro w2; go_simp; try with_reducible rfl)) | (refine Ord.e_u (by rfl) ?_)); (try simp only [Act.put, List.setIfInBounds_toArray, List.set_cons_zero, List.set_cons_succ])
        refine Ord.e_x rfl (by rfl) ?_
        go_wp2_with fail
        go_fit hF
        rintro e w9 ⟨rfl, rfl⟩
        go_wp2_with fail
        refine Ord.Seg.go trivial (fun _ => Below.refl _ _) ?_
        (try simp only [Act.put, List.setIfInBounds_toArray, List.set_cons_zero, List.set_cons_succ])
        repeat (first | (refine Ord.e_p (v := ?_) rfl (by rfl) ?_ ?_; rotate_left; · (intro w2; go_simp; try with_reducible rfl)) | (refine Ord.e_u (by rfl) ?_)); (try simp only [Act.put, List.setIfInBounds_toArray, List.set_cons_zero, List.set_cons_succ])
        refine Ord.e_nil ?_
        clear c0 c1 hL hF
        go_wp2
        go_roundw
        case rel => exact ⟨k + 1, l6, b6, A6, n6, c6, by omega, by go_num, hr7, hk7, hq7, hb7, by omega⟩
        case measure => simp [intOf]; omega
      · by_cases hk1 : o.kind = 1
        · have hk0' := hk1
          rw [hk1] at h1
          clear hk1 hk0
          go_wp2_with fail
          go_fit (rI_any lo g lr bad o.n wr hr)
          rintro e w4 ⟨rfl, hr4, hg4⟩
          have hb4 : Below w.heap.size w w4 := hb.grown hg4 hb.size (fun k hk => by injection hk with hk; omega); have hkq4 := (hg4.block gq (blk_lt hkq) (by intro e; injection e with e; omega)).trans hkq; have hq4 := hq.grown hg4 hwg (by have := blk_lt hkq; omega); obtain ⟨go', off', o', hgo', _, hx', c1, c2, c3, c4, c5, c6⟩ := (ho.up hb4).at_ hlt; injection hgo' with hgo'; injection hgo' with e1 e2 _; subst e1; subst e2; rw [hx] at hx'; injection hx' with hx'; subst hx'; clear c1 c3 c4 c5 c6 hr hkq hq hb hg4 h1 h2
          go_wp2_with fail
          refine Ord.region_ (fun _ => True) true [88, 93] (by kernel_rfl) (by kernel_rfl) trivial ?_
          replace hr4 := hr4.keep (row := none) (w' := w4.drew) ⟨rfl, rfl, rfl, Nat.le_refl _, fun _ _ _ => rfl⟩ (fun _ h => by cases h); replace hkq4 : w4.drew.heap[gq]? = _ := hkq4; replace hq4 := hq4.drew; replace hb4 := hb4.drew; replace c2 : w4.drew.cell? _ = _ := c2; generalize w4.drew = w5 at *; have hrow4 : w5.rangeAt gq 0 [.slice Aq nq cq, .bool bad] := own_range hkq4 0 (fun j v hv => by simpa using hv)
          repeat (first | (refine Ord.e_p (v := ?_) rfl (by rfl) ?_ ?_; rotate_left; · (intro w2; go_simp; try with_reducible rfl)) | (refine Ord.e_u (by rfl) ?_)); (try simp only [Act.put, List.setIfInBounds_toArray, List.set_cons_zero, List.set_cons_succ])
          refine Ord.e_row Try.underlying29 rfl (by kernel_rfl) rfl hrow4 (by rfl) (by rfl) ?_
          (try simp only [Act.put, List.setIfInBounds_toArray, List.set_cons_zero, List.set_cons_succ])
          repeat (first | (refine Ord.e_p (v := ?_) rfl (by rfl) ?_ ?_; rotate_left; · (intro w2; go_simp; try with_reducible rfl)) | (refine Ord.e_u (by rfl) ?_)); (try simp only [Act.put, List.setIfInBounds_toArray, List.set_cons_zero, List.set_cons_succ])
          refine Ord.e_load Try.underlying3 rfl c2 rfl (by rfl) (by rfl) ?_
          (try simp only [Act.put, List.setIfInBounds_toArray, List.set_cons_zero, List.set_cons_succ])
          repeat (first | (refine Ord.e_p (v := ?_) rfl (by rfl) ?_ ?_; rotate_left; · (intro w2; go_simp; try with_reducible rfl)) | (refine Ord.e_u (by rfl) ?_)); (try simp only [Act.put, List.setIfInBounds_toArray, List.set_cons_zero, List.set_cons_succ])
          refine Ord.e_x rfl (by rfl) ?_
          go_wp2_with fail
          go_fit (qI_any Aq nq cq w.heap.size lr bad o.n w5 hq4 hb4.size (by omega))
          rintro e w6 ⟨A6, n6, c6, rfl, hq6, hb56⟩
          have hl6 := hrl (nU o.n)
          generalize rdF (nU o.n) lr bad = b6 at *
          generalize rdL (nU o.n) lr bad = l6 at *
          generalize iV o.n lr bad = v6 at *
          go_wp2_with fail
          refine Ord.Seg.go trivial (fun _ => hb56) ?_
          (try simp only [Act.put, List.setIfInBounds_toArray, List.set_cons_zero, List.set_cons_succ])
          repeat (first | (refine Ord.e_p (v := ?_) rfl (by rfl) ?_ ?_; rotate_left; · (intro w2; go_simp; try with_reducible rfl)) | (refine Ord.e_u (by rfl) ?_)); (try simp only [Act.put, List.setIfInBounds_toArray, List.set_cons_zero, List.set_cons_succ])
          have hr6 := hr4.keep (grownBy_of hb56 none) (fun _ h => by cases h)
          have hkq6 := blk_old hkq4 hb56 (blk_lt hkq4)
          have hb6 : Below w.heap.size w w6 := bnx hb4 hb56
          clear hr4 hkq4 hb4 hb56 hq4 hrow4 c2
          have hk1 := blk_set (i := 0) hkq6 (.slice A6 n6 c6)
          have hk2 := blk_set (i := 1) hk1 (.bool b6)
          have s1 : w6.cell? ⟨gq, 0, none⟩ = _ := blk_cell hkq6 rfl
          have s2 : w6.frozen? ⟨gq, 0, none⟩ = false := blk_free (i := 0) hkq6
          have s3 : (w6.setCell ⟨gq, 0, none⟩ (.slice A6 n6 c6)).cell? ⟨gq, 1, none⟩ = some (.bool bad) := blk_cell hk1 rfl
          have s4 := blk_free (i := 1) hk1
          refine Ord.e_x rfl (by rfl) ?_
          go_wp2
          have hA7 : w6.grownBy ((w6.setCell ⟨gq, 0, none⟩ (.slice A6 n6 c6)).setCell ⟨gq, 1, none⟩ (.bool b6)) (some gq) := grownBy_set (grownBy_set (grownBy_self _ _) 0 _) 1 _
          have hr7 : Rdr lo ((w6.setCell ⟨gq, 0, none⟩ (.slice A6 n6 c6)).setCell ⟨gq, 1, none⟩ (.bool b6)) g l6 b6 := hr6.keep hA7 (fun k hk => by injection hk with hk; omega)
          have hq7 := hq6.grown hA7 (by omega) (blk_lt hkq6)
          have hb7 : Below w.heap.size w ((w6.setCell ⟨gq, 0, none⟩ (.slice A6 n6 c6)).setCell ⟨gq, 1, none⟩ (.bool b6)) := hb6.grown hA7 hb6.size (fun k hk => by injection hk with hk; omega)
          have hk7 : ((w6.setCell ⟨gq, 0, none⟩ (.slice A6 n6 c6)).setCell ⟨gq, 1, none⟩ (.bool b6)).heap[gq]? = some (.cells #[.slice A6 n6 c6, .bool b6] 29) := hk2
          generalize ((w6.setCell ⟨gq, 0, none⟩ (.slice A6 n6 c6)).setCell ⟨gq, 1, none⟩ (.bool b6)) = w7 at *
          clear hr6 hkq6 hb6 hq6 hk1 hk2 s1 s2 s3 s4 hA7
          refine Ord.Seg.go trivial (fun h => by cases h) ?_
          (try simp only [Act.put, List.setIfInBounds_toArray, List.set_cons_zero, List.set_cons_succ])
          repeat (first | (refine Ord.e_p (v := ?_) rfl (by rfl) ?_ ?_; rotate_left; · (intro w2; go_simp; try with_reducible rfl)) | (refine Ord.e_u (by rfl) ?_)); (try simp only [Act.put, List.setIfInBounds_toArray, List.set_cons_zero, List.set_cons_succ])
          refine Ord.e_nil ?_
          go_wp2_with fail
          have hs7 : Rd w7 w7.heap.size 1 none 0 0 (bv []) := Rd.none_ _ _ _
          have ht7 : Rd w7 w7.heap.size 1 none 0 0 (bv []) := Rd.none_ _ _ _
          refine Ord.region_at [0, 1, 2, 3, 4, 5, 6, 7, 8, 9, 10, 11, 12, 13, 14, 15, 18, 19, 20, 16, 17, 21, 22, 23, 26, 27, 24, 25, 28, 29] (fun _ => True) true [107, 109, 116, 124] (by kernel_rfl) (by kernel_rfl) rfl trivial ?_
          simp only [Ord.lst, List.filterMap_cons, List.filterMap_nil, List.getElem?_toArray, List.getElem?_cons_succ, List.getElem?_cons_zero]
          replace hr7 := hr7.keep (row := none) (w' := w7.drew) ⟨rfl, rfl, rfl, Nat.le_refl _, fun _ _ _ => rfl⟩ (fun _ h => by cases h)
          replace hk7 : w7.drew.heap[gq]? = _ := hk7
          replace hq7 := hq7.drew
          replace hb7 := hb7.drew
          replace hs7 : Rd w7.drew w7.drew.heap.size 1 _ _ _ _ := hs7.drew
          replace ht7 : Rd w7.drew w7.drew.heap.size 1 _ _ _ _ := ht7.drew
          generalize w7.drew = w8 at *
          have hL := rLeft_any lo g l6 b6 w8 hr7
          rw [hq7.blen] at hL
          have hF := rFail_any lo g l6 b6 w8 hr7
          have c0 := blk_cell (i := 0) (v := .slice A6 n6 c6) hk7 rfl
          have c1 := blk_cell (i := 1) (v := .bool b6) hk7 rfl
          repeat (first | (refine Ord.e_p (v := ?_) rfl (by rfl) ?_ ?_; rotate_left; · (intro w2; go_simp; try with_reducible rfl)) | (refine Ord.e_u (by rfl) ?_)); (try simp only [Act.put, List.setIfInBounds_toArray, List.set_cons_zero, List.set_cons_succ])
          refine Ord.e_str Try.underlying22 Try.underlying5 Try.underlying9 hs7 rfl (by rfl) (by rfl) ?_
          (try simp only [Act.put, List.setIfInBounds_toArray, List.set_cons_zero, List.set_cons_succ])
          repeat (first | (refine Ord.e_p (v := ?_) rfl (by rfl) ?_ ?_; rotate_left; · (intro w2; go_simp; try with_reducible rfl)) | (refine Ord.e_u (by rfl) ?_)); (try simp only [Act.put, List.setIfInBounds_toArray, List.set_cons_zero, List.set_cons_succ])
          refine Ord.e_str Try.underlying22 Try.underlying5 Try.underlying9 ht7 rfl (by rfl) (by rfl) ?_
          (try simp only [Act.put, List.setIfInBounds_toArray, List.set_cons_zero, List.set_cons_succ])
          repeat (first | (refine Ord.e_p (v := ?_) rfl (by rfl) ?_ ?_; rotate_left; · (intro w2; go_simp; try with_reducible rfl)) | (refine Ord.e_u (by rfl) ?_)); (try simp only [Act.put, List.setIfInBounds_toArray, List.set_cons_zero, List.set_cons_succ])
          refine Ord.e_load Try.underlying22 rfl c0 rfl (by rfl) (by rfl) ?_
          (try simp only [Act.put, List.setIfInBounds_toArray, List.set_cons_zero, List.set_cons_succ])
          repeat (first | (refine Ord.e_p (v := ?_) rfl (by rfl) ?_ ?_; rotate_left; · (intro w2; go_simp; try with_reducible rfl)) | (refine Ord.e_u (by rfl) ?_)); (try simp only [Act.put, List.setIfInBounds_toArray, List.set_cons_zero, List.set_cons_succ])
          refine Ord.e_x rfl (by rfl) ?_
          go_wp2_with fail
          go_fit hL
          rintro e w9 ⟨rfl, rfl⟩
          go_wp2_with fail
          refine Ord.Seg.go trivial (fun _ => Below.refl _ _) ?_
          (try simp only [Act.put, List.setIfInBounds_toArray, List.set_cons_zero, List.set_cons_succ])
          repeat (first | (refine Ord.e_p (v := ?_) rfl (by rfl) ?_ ?_; rotate_left; · (intro w2; go_simp; try with_reducible rfl)) | (refine Ord.e_u (by rfl) ?_)); (try simp only [Act.put, List.setIfInBounds_toArray, List.set_cons_zero, List.set_cons_succ])
          refine Ord.e_load Try.underlying4 rfl c1 rfl (by rfl) (by rfl) ?_
          (try simp only [Act.put, List.setIfInBounds_toArray, List.set_cons_zero, List.set_cons_succ])
          repeat (first | (refine Ord.e_p (v := ?_) rfl (by rfl) ?_ ?_; rotate_left; · (intro w2; go_simp; try with_reducible rfl)) | (refine Ord.e_u (by rfl) ?_)); (try simp only [Act.put, List.setIfInBounds_toArray, List.set_cons_zero, List.set_cons_succ])
          refine Ord.e_x rfl (by rfl) ?_
          go_wp2_with fail
          go_fit hF
          rintro e w9 ⟨rfl, rfl⟩
          go_wp2_with fail
          refine Ord.Seg.go trivial (fun _ => Below.refl _ _) ?_
          (try simp only [Act.put, List.setIfInBounds_toArray, List.set_cons_zero, List.set_cons_succ])
          repeat (first | (refine Ord.e_p (v := ?_) rfl (by rfl) ?_ ?_; rotate_left; · (intro w2; go_simp; try with_reducible rfl)) | (refine Ord.e_u (by rfl) ?_)); (try simp only [Act.put, List.setIfInBounds_toArray, List.set_cons_zero, List.set_cons_succ])
          refine Ord.e_nil ?_
          clear c0 c1 hL hF
          go_wp2
          go_roundw
          case rel => exact ⟨k + 1, l6, b6, A6, n6, c6, by omega, by go_num, hr7, hk7, hq7, hb7, by omega⟩
          case measure => simp [intOf]; omega
        · go_wp2_with fail
          go_fit (rRaw_any lo g lr bad o.n wr hr (by omega))
          rintro e w4 ⟨As, ns, cs, rfl, hs4, hr4, hg4⟩
          have hgqs := blk_lt hkq
          have hsz4 := hg4.size
          have hb4 : Below w.heap.size w w4 := hb.grown hg4 hb.size (fun k hk => by injection hk with hk; omega); have hkq4 := (hg4.block gq (blk_lt hkq) (by intro e; injection e with e; omega)).trans hkq; have hq4 := hq.grown hg4 hwg (by have := blk_lt hkq; omega); obtain ⟨go', off', o', hgo', _, hx', c1, c2, c3, c4, c5, c6⟩ := (ho.up hb4).at_ hlt; injection hgo' with hgo'; injection hgo' with e1 e2 _; subst e1; subst e2; rw [hx] at hx'; injection hx' with hx'; subst hx'; clear c1 c3 c4 c5 c6 hr hkq hq hb hg4 h1 h2
          go_wp2_with fail
          refine Ord.region_ (fun _ => True) true [50, 55] (by kernel_rfl) (by kernel_rfl) trivial ?_
          have hs5 := hs4.drew
          have hsz5 : wr.heap.size ≤ w4.drew.heap.size := hsz4
          replace hr4 := hr4.keep (row := none) (w' := w4.drew) ⟨rfl, rfl, rfl, Nat.le_refl _, fun _ _ _ => rfl⟩ (fun _ h => by cases h); replace hkq4 : w4.drew.heap[gq]? = _ := hkq4; replace hq4 := hq4.drew; replace hb4 := hb4.drew; replace c2 : w4.drew.cell? _ = _ := c2; generalize w4.drew = w5 at *; have hrow4 : w5.rangeAt gq 0 [.slice Aq nq cq, .bool bad] := own_range hkq4 0 (fun j v hv => by simpa using hv)
          repeat (first | (refine Ord.e_p (v := ?_) rfl (by rfl) ?_ ?_; rotate_left; · (intro w2; go_simp; try with_reducible rfl)) | (refine Ord.e_u (by rfl) ?_)); (try simp only [Act.put, List.setIfInBounds_toArray, List.set_cons_zero, List.set_cons_succ])
          refine Ord.e_row Try.underlying29 rfl (by kernel_rfl) rfl hrow4 (by rfl) (by rfl) ?_
          (try simp only [Act.put, List.setIfInBounds_toArray, List.set_cons_zero, List.set_cons_succ])
          repeat (first | (refine Ord.e_p (v := ?_) rfl (by rfl) ?_ ?_; rotate_left; · (intro w2; go_simp; try with_reducible rfl)) | (refine Ord.e_u (by rfl) ?_)); (try simp only [Act.put, List.setIfInBounds_toArray, List.set_cons_zero, List.set_cons_succ])
          refine Ord.e_load Try.underlying3 rfl c2 rfl (by rfl) (by rfl) ?_
          (try simp only [Act.put, List.setIfInBounds_toArray, List.set_cons_zero, List.set_cons_succ])
          repeat (first | (refine Ord.e_p (v := ?_) rfl (by rfl) ?_ ?_; rotate_left; · (intro w2; go_simp; try with_reducible rfl)) | (refine Ord.e_u (by rfl) ?_)); (try simp only [Act.put, List.setIfInBounds_toArray, List.set_cons_zero, List.set_cons_succ])
          refine Ord.e_x rfl (by rfl) ?_
          go_wp2_with fail
          go_fit (qRaw_any Aq nq cq w.heap.size lr bad o.n w5 hq4 hb4.size (by omega))
          rintro e w6 ⟨A6, n6, c6, At, nt, ct, rfl, hq6, ht6, hb56⟩
          have hl6 := hrl o.n
          generalize rdF o.n lr bad = b6 at *
          generalize rdL o.n lr bad = l6 at *
          generalize rdB o.n lr bad = v6 at *
          have hs6 := own_up hs5 hb56 (Nat.le_refl _)
          have hs7 := Rd.own (own_set (own_set hs6 hgqs (i := 0) (.slice A6 n6 c6)) hgqs (i := 1) (.bool b6))
          have ht7 := Rd.own (own_set (own_set ht6 (show gq < w5.heap.size by omega) (i := 0) (.slice A6 n6 c6)) (show gq < w5.heap.size by omega) (i := 1) (.bool b6))
          clear hs5 hs6 ht6 hs4 hsz4
          go_wp2_with fail
          refine Ord.Seg.go trivial (fun _ => hb56) ?_
          (try simp only [Act.put, List.setIfInBounds_toArray, List.set_cons_zero, List.set_cons_succ])
          repeat (first | (refine Ord.e_p (v := ?_) rfl (by rfl) ?_ ?_; rotate_left; · (intro w2; go_simp; try with_reducible rfl)) | (refine Ord.e_u (by rfl) ?_)); (try simp only [Act.put, List.setIfInBounds_toArray, List.set_cons_zero, List.set_cons_succ])
          have hr6 := hr4.keep (grownBy_of hb56 none) (fun _ h => by cases h)
          have hkq6 := blk_old hkq4 hb56 (blk_lt hkq4)
          have hb6 : Below w.heap.size w w6 := bnx hb4 hb56
          clear hr4 hkq4 hb4 hb56 hq4 hrow4 c2
          have hk1 := blk_set (i := 0) hkq6 (.slice A6 n6 c6)
          have hk2 := blk_set (i := 1) hk1 (.bool b6)
          have s1 : w6.cell? ⟨gq, 0, none⟩ = _ := blk_cell hkq6 rfl
          have s2 : w6.frozen? ⟨gq, 0, none⟩ = false := blk_free (i := 0) hkq6
          have s3 : (w6.setCell ⟨gq, 0, none⟩ (.slice A6 n6 c6)).cell? ⟨gq, 1, none⟩ = some (.bool bad) := blk_cell hk1 rfl
          have s4 := blk_free (i := 1) hk1
          refine Ord.e_x rfl (by rfl) ?_
          go_wp2
          have hA7 : w6.grownBy ((w6.setCell ⟨gq, 0, none⟩ (.slice A6 n6 c6)).setCell ⟨gq, 1, none⟩ (.bool b6)) (some gq) := grownBy_set (grownBy_set (grownBy_self _ _) 0 _) 1 _
          have hr7 : Rdr lo ((w6.setCell ⟨gq, 0, none⟩ (.slice A6 n6 c6)).setCell ⟨gq, 1, none⟩ (.bool b6)) g l6 b6 := hr6.keep hA7 (fun k hk => by injection hk with hk; omega)
          have hq7 := hq6.grown hA7 (by omega) (blk_lt hkq6)
          have hb7 : Below w.heap.size w ((w6.setCell ⟨gq, 0, none⟩ (.slice A6 n6 c6)).setCell ⟨gq, 1, none⟩ (.bool b6)) := hb6.grown hA7 hb6.size (fun k hk => by injection hk with hk; omega)
          have hk7 : ((w6.setCell ⟨gq, 0, none⟩ (.slice A6 n6 c6)).setCell ⟨gq, 1, none⟩ (.bool b6)).heap[gq]? = some (.cells #[.slice A6 n6 c6, .bool b6] 29) := hk2
          generalize ((w6.setCell ⟨gq, 0, none⟩ (.slice A6 n6 c6)).setCell ⟨gq, 1, none⟩ (.bool b6)) = w7 at *
          clear hr6 hkq6 hb6 hq6 hk1 hk2 s1 s2 s3 s4 hA7
          refine Ord.Seg.go trivial (fun h => by cases h) ?_
          (try simp only [Act.put, List.setIfInBounds_toArray, List.set_cons_zero, List.set_cons_succ])
          repeat (first | (refine Ord.e_p (v := ?_) rfl (by rfl) ?_ ?_; rotate_left; · (intro w2; go_simp; try with_reducible rfl)) | (refine Ord.e_u (by rfl) ?_)); (try simp only [Act.put, List.setIfInBounds_toArray, List.set_cons_zero, List.set_cons_succ])
          refine Ord.e_nil ?_
          go_wp2_with fail
          refine Ord.region_at [0, 1, 2, 3, 4, 5, 6, 7, 8, 9, 10, 11, 12, 13, 14, 15, 18, 19, 20, 16, 17, 21, 22, 23, 26, 27, 24, 25, 28, 29] (fun _ => True) true [107, 109, 116, 124] (by kernel_rfl) (by kernel_rfl) rfl trivial ?_
          simp only [Ord.lst, List.filterMap_cons, List.filterMap_nil, List.getElem?_toArray, List.getElem?_cons_succ, List.getElem?_cons_zero]
          replace hr7 := hr7.keep (row := none) (w' := w7.drew) ⟨rfl, rfl, rfl, Nat.le_refl _, fun _ _ _ => rfl⟩ (fun _ h => by cases h)
          replace hk7 : w7.drew.heap[gq]? = _ := hk7
          replace hq7 := hq7.drew
          replace hb7 := hb7.drew
          replace hs7 : Rd w7.drew w7.drew.heap.size 1 _ _ _ _ := hs7.drew
          replace ht7 : Rd w7.drew w7.drew.heap.size 1 _ _ _ _ := ht7.drew
          generalize w7.drew = w8 at *
          have hL := rLeft_any lo g l6 b6 w8 hr7
          rw [hq7.blen] at hL
          have hF := rFail_any lo g l6 b6 w8 hr7
          have c0 := blk_cell (i := 0) (v := .slice A6 n6 c6) hk7 rfl
          have c1 := blk_cell (i := 1) (v := .bool b6) hk7 rfl
          repeat (first | (refine Ord.e_p (v := ?_) rfl (by rfl) ?_ ?_; rotate_left; · (intro w2; go_simp; try with_reducible rfl)) | (refine Ord.e_u (by rfl) ?_)); (try simp only [Act.put, List.setIfInBounds_toArray, List.set_cons_zero, List.set_cons_succ])
          refine Ord.e_str Try.underlying22 Try.underlying5 Try.underlying9 hs7 rfl (by rfl) (by rfl) ?_
          (try simp only [Act.put, List.setIfInBounds_toArray, List.set_cons_zero, List.set_cons_succ])
          repeat (first | (refine Ord.e_p (v := ?_) rfl (by rfl) ?_ ?_; rotate_left; · (intro w2; go_simp; try with_reducible rfl)) | (refine Ord.e_u (by rfl) ?_)); (try simp only [Act.put, List.setIfInBounds_toArray, List.set_cons_zero, List.set_cons_succ])
          refine Ord.e_str Try.underlying22 Try.underlying5 Try.underlying9 ht7 rfl (by rfl) (by rfl) ?_
          (try simp only [Act.put, List.setIfInBounds_toArray, List.set_cons_zero, List.set_cons_succ])
          repeat (first | (refine Ord.e_p (v := ?_) rfl (by rfl) ?_ ?_; rotate_left; · (intro w2; go_simp; try with_reducible rfl)) | (refine Ord.e_u (by rfl) ?_)); (try simp only [Act.put, List.setIfInBounds_toArray, List.set_cons_zero, List.set_cons_succ])
          refine Ord.e_load Try.underlying22 rfl c0 rfl (by rfl) (by rfl) ?_
          (try simp only [Act.put, List.setIfInBounds_toArray, List.set_cons_zero, List.set_cons_succ])
          repeat (first | (refine Ord.e_p (v := ?_) rfl (by rfl) ?_ ?_; rotate_left; · (intro w2; go_simp; try with_reducible rfl)) | (refine Ord.e_u (by rfl) ?_)); (try simp only [Act.put, List.setIfInBounds_toArray, List.set_cons_zero, List.set_cons_succ])
          refine Ord.e_x rfl (by rfl) ?_
          go_wp2_with fail
          go_fit hL
          rintro e w9 ⟨rfl, rfl⟩
          go_wp2_with fail
          refine Ord.Seg.go trivial (fun _ => Below.refl _ _) ?_
          (try simp only [Act.put, List.setIfInBounds_toArray, List.set_cons_zero, List.set_cons_succ])
          repeat (first | (refine Ord.e_p (v := ?_) rfl (by rfl) ?_ ?_; rotate_left; · (intro w2; go_simp; try with_reducible rfl)) | (refine Ord.e_u (by rfl) ?_)); (try simp only [Act.put, List.setIfInBounds_toArray, List.set_cons_zero, List.set_cons_succ])
          refine Ord.e_load Try.underlying4 rfl c1 rfl (by rfl) (by rfl) ?_
          (try simp only [Act.put, List.setIfInBounds_toArray, List.set_cons_zero, List.set_cons_succ])
          repeat (first | (refine Ord.e_p (v := ?_) rfl (by rfl) ?_ ?_; rotate_left; · (intro w2; go_simp; try with_reducible rfl)) | (refine Ord.e_u (by rfl) ?_)); (try simp only [Act.put, List.setIfInBounds_toArray, List.set_cons_zero, List.set_cons_succ])
          refine Ord.e_x rfl (by rfl) ?_
          go_wp2_with fail
          go_fit hF
          rintro e w9 ⟨rfl, rfl⟩
          go_wp2_with fail
          refine Ord.Seg.go trivial (fun _ => Below.refl _ _) ?_
          (try simp only [Act.put, List.setIfInBounds_toArray, List.set_cons_zero, List.set_cons_succ])
          repeat (first | (refine Ord.e_p (v := ?_) rfl (by rfl) ?_ ?_; rotate_left; · (intro w2; go_simp; try with_reducible rfl)) | (refine Ord.e_u (by rfl) ?_)); (try simp only [Act.put, List.setIfInBounds_toArray, List.set_cons_zero, List.set_cons_succ])
          refine Ord.e_nil ?_
          clear c0 c1 hL hF
          go_wp2
          go_roundw
          case rel => exact ⟨k + 1, l6, b6, A6, n6, c6, by omega, by go_num, hr7, hk7, hq7, hb7, by omega⟩
          case measure => simp [intOf]; omega
    · go_wp2
      go_ret
      exact ⟨rfl, hb⟩

set_option maxHeartbeats 400000 in
theorem reads_any (A : Option Addr) (n c : Nat) (l : List UInt8) (Ao : Option Addr) (no co : Nat) (ops : List OpV) (w : World) (h : Rd w w.heap.size 1 A n c (bv l)) (ho : RdOps w w.heap.size Ao no co ops) :
    Calls Try.prog 3 #[.slice A n c, .slice Ao no co] w fun e w' => e = .returned (.bool true) ∧ Below w.heap.size w w' := by
  by_cases hn : n ≤ 1000
  · cases hf : fewN ops with
    | true => exact reads_go A n c l Ao no co ops w h ho hn hf
    | false =>
      go_enter Try.func3, Try.ntmps3
      go_wp2_with fail
      go_fit (few_any Ao no co w.heap.size ops w ho)
      rintro e w1 ⟨rfl, rfl⟩
      rw [hf]
      go_wp2_with fail
      go_fit (knows04 w)
      rintro e w1 ⟨rfl, hb1⟩
      go_wp2
      go_ret
      exact ⟨rfl, hb1⟩
  · go_enter Try.func3, Try.ntmps3
    go_wp2_with fail
    go_fit (knows04 w)
    rintro e w1 ⟨rfl, hb1⟩
    go_wp2
    go_ret
    exact ⟨rfl, hb1⟩

end Go.Proofs.Ytglfhdkknhdphaa
