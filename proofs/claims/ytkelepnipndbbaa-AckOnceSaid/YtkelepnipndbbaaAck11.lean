/-
  The document's Hear walked (printed by gen_ack11.py).
-/
import Derived.Test.YtkelepnipndbbaaAck10
set_option linter.unusedSimpArgs false
set_option linter.unusedVariables false
namespace Go.Proofs.Ytkelepnipndbbaa
open Go.RowKit NumLaw
attribute [local go_sem] Addr.add_mid

theorem RdA.take {w : World} {B n c : Nat} {A : Option Addr} {l : List (Int × Int)} (h : RdA w B A n c l) {k : Nat} (hk : k ≤ n) : RdA w B A k c (l.take k) := by
  obtain ⟨h1, h2, h3, h4⟩ := h
  refine ⟨by rw [List.length_take]; omega, by omega, h3, fun hn => ?_⟩
  obtain ⟨g, off, e, hlt, ho⟩ := h4 (by omega)
  refine ⟨g, off, e, hlt, fun j u hj => ho j u ?_⟩
  rw [acs_take, List.getElem?_take] at hj
  split at hj
  · exact hj
  · cases hj
set_option maxRecDepth 10000 in
set_option maxHeartbeats 8000000 in
theorem qhear_any (A : Option Addr) (n c : Nat) (l : List (Int × Int)) (y no od : Nat) (b : Bool) (cl id : Int) (w : World) (h : RdA w w.heap.size A n c l) (hn : n ≤ 900) (hy : y ≤ 1000000) (hno : no ≤ 1000000) (hod : od ≤ 1000000) :
    Calls Try.prog 25 #[.agg #[.slice A n c, .int .i64 y, .int .i64 no, .int .i64 od], .agg #[.bool b, .int .i64 cl, .int .i64 id]] w (RetQA w A (dropAt l (idxI (cl, id) 0 l)) (if idxI (cl, id) 0 l < 0 then y else if b = true then y + 1 else y) (if idxI (cl, id) 0 l < 0 then no else if b = true then no else no + 1) (if idxI (cl, id) 0 l < 0 then od + 1 else od) (decide (0 ≤ idxI (cl, id) 0 l))) := by
  have hle := h.2.1
  have hmx := h.2.2.1
  unfold maxLen at hmx
  have Hln := Lib.hid h.1
  obtain ⟨t, ht⟩ : ∃ t, t = idxI (cl, id) 0 l := ⟨_, rfl⟩
  rw [← ht]
  have Ht := Lib.hid ht
  clear ht
  obtain ⟨l', hl'⟩ : ∃ x, x = dropAt l t := ⟨_, rfl⟩
  obtain ⟨y', hy'⟩ : ∃ x, x = (if t < 0 then y else if b = true then y + 1 else y) := ⟨_, rfl⟩
  obtain ⟨no', hno'⟩ : ∃ x, x = (if t < 0 then no else if b = true then no else no + 1) := ⟨_, rfl⟩
  obtain ⟨od', hod'⟩ : ∃ x, x = (if t < 0 then od + 1 else od) := ⟨_, rfl⟩
  obtain ⟨v', hv'⟩ : ∃ x, x = decide (0 ≤ t) := ⟨_, rfl⟩
  rw [← hl', ← hy', ← hno', ← hod', ← hv']
  have Hl := Lib.hid hl'
  have Hy := Lib.hid hy'
  have Hno := Lib.hid hno'
  have Hod := Lib.hid hod'
  have Hv := Lib.hid hv'
  clear hl' hy' hno' hod' hv'
  have h0 : Below w.heap.size w (((w.alloc (.cells #[.slice A n c, .int .i64 y, .int .i64 no, .int .i64 od] 28)).alloc (.cells #[.bool b, .int .i64 cl, .int .i64 id] 30)).alloc (.cells #[.slice none 0 0, .int .i64 0, .int .i64 0, .int .i64 0] 28)) := (((Below.refl _ _).alloc (Nat.le_refl _) _).alloc (by simp) _).alloc (by simp; omega) _
  have hk0 := heap_alloc_new w (.cells #[.slice A n c, .int .i64 y, .int .i64 no, .int .i64 od] 28)
  have hk1 := (heap_alloc_old (w.alloc (.cells #[.slice A n c, .int .i64 y, .int .i64 no, .int .i64 od] 28)) (.cells #[.bool b, .int .i64 cl, .int .i64 id] 30) (blk_lt hk0)).trans hk0
  have hkb := (heap_alloc_old ((w.alloc (.cells #[.slice A n c, .int .i64 y, .int .i64 no, .int .i64 od] 28)).alloc (.cells #[.bool b, .int .i64 cl, .int .i64 id] 30)) (.cells #[.slice none 0 0, .int .i64 0, .int .i64 0, .int .i64 0] 28) (blk_lt hk1)).trans hk1
  have ha0 := blk_new2 w (.cells #[.slice A n c, .int .i64 y, .int .i64 no, .int .i64 od] 28) (.cells #[.bool b, .int .i64 cl, .int .i64 id] 30)
  have hab := (heap_alloc_old ((w.alloc (.cells #[.slice A n c, .int .i64 y, .int .i64 no, .int .i64 od] 28)).alloc (.cells #[.bool b, .int .i64 cl, .int .i64 id] 30)) (.cells #[.slice none 0 0, .int .i64 0, .int .i64 0, .int .i64 0] 28) (blk_lt ha0)).trans ha0
  have hrb : (((w.alloc (.cells #[.slice A n c, .int .i64 y, .int .i64 no, .int .i64 od] 28)).alloc (.cells #[.bool b, .int .i64 cl, .int .i64 id] 30)).alloc (.cells #[.slice none 0 0, .int .i64 0, .int .i64 0, .int .i64 0] 28)).heap[w.heap.size + 2]? = some (.cells #[.slice none 0 0, .int .i64 0, .int .i64 0, .int .i64 0] 28) := by
    have := heap_alloc_new ((w.alloc (.cells #[.slice A n c, .int .i64 y, .int .i64 no, .int .i64 od] 28)).alloc (.cells #[.bool b, .int .i64 cl, .int .i64 id] 30)) (.cells #[.slice none 0 0, .int .i64 0, .int .i64 0, .int .i64 0] 28)
    rwa [World.size_alloc, World.size_alloc] at this
  clear hk0 hk1 ha0
  go_enter Try.func25, Try.ntmps25
  go_wp2_with fail
  generalize (((w.alloc (.cells #[.slice A n c, .int .i64 y, .int .i64 no, .int .i64 od] 28)).alloc (.cells #[.bool b, .int .i64 cl, .int .i64 id] 30)).alloc (.cells #[.slice none 0 0, .int .i64 0, .int .i64 0, .int .i64 0] 28)) = w1 at *
  have h1 := h.nx h0
  have b0 := blk_cell (i := 0) (v := .slice A n c) hkb rfl
  have b1 := blk_cell (i := 1) (v := .int .i64 y) hkb rfl
  have b2 := blk_cell (i := 2) (v := .int .i64 no) hkb rfl
  have b3 := blk_cell (i := 3) (v := .int .i64 od) hkb rfl
  have x0 := blk_cell (i := 0) (v := .bool b) hab rfl
  have x1 := blk_cell (i := 1) (v := .int .i64 cl) hab rfl
  have x2 := blk_cell (i := 2) (v := .int .i64 id) hab rfl
  have hlb := blk_lt hkb
  have hlx := blk_lt hab
  have hlr := blk_lt hrb
  have B1 := Lib.hid b1
  have B2 := Lib.hid b2
  have B3 := Lib.hid b3
  have X0 := Lib.hid x0
  clear b1 b2 b3 x0
  go_loopw [6] (fun i wr => ∃ (k : Nat), k ≤ n ∧ i = .int .i64 k ∧ Below w1.heap.size w1 wr ∧ Hid (t = idxI (cl, id) k (l.drop k))) (fun i _ => n - (intOf i).toNat)
  case atStart => exact ⟨0, by omega, rfl, Below.refl _ _, Lib.hid (by rw [Ht.out]; rfl)⟩
  case round =>
    obtain ⟨k, hk, rfl, hb, hid⟩ := hrel
    have b0' := (hb.cell (p := ⟨w.heap.size, 0, none⟩) hlb).trans b0
    by_cases hlt : k < n
    · obtain ⟨g1, off1, q, hA, hg1, hx, a0, a1, a2⟩ := h1.at_ hlt
      have hdr : l.drop k = q :: l.drop (k + 1) := by
        obtain ⟨hkl, he⟩ := List.getElem?_eq_some_iff.1 hx
        rw [List.drop_eq_getElem_cons hkl, he]
      have hstep := hid.out
      rw [hdr] at hstep
      unfold idxI at hstep
      have Hs := Lib.hid hstep
      clear hdr hx hstep hid a0
      obtain ⟨pc, pi⟩ := q
      simp only at a1 a2 Hs
      subst hA
      by_cases e1 : pc = cl
      · have q1 : (pc == cl) = true := by simp [e1]
        by_cases e2 : pi = id
        · have q2 : (pi == id) = true := by simp [e2]
          have HP : Hid (t = (k : Int)) := Lib.hid (by rw [Hs.out, q1, q2]; rfl)
          clear e1 e2 Hs
          go_wp2_with fail
          clear b0'
          refine Ord.region_ (fun w' => Below w1.heap.size w1 w') false [] (by kernel_rfl) (by kernel_rfl) hb.drew ?_
          replace hb := hb.drew
          generalize wr.drew = w2 at *
          ((with_reducible refine Ord.e_p (v := ?_) ?_ ?_ ?_ ?_); rotate_left; (· exact rfl); (· kernel_rfl); (· intro w2; go_simp; try with_reducible rfl))
          (try simp only [Act.put, List.setIfInBounds_toArray, List.set_cons_zero, List.set_cons_succ])
          refine Ord.e_loadS Try.underlying26 rfl (fun w' hS => ((show Below _ w1 w' from hS).cell (p := ⟨w.heap.size, 0, none⟩) hlb).trans b0) hb rfl (by kernel_rfl) ?_
          (try simp only [Act.put, List.setIfInBounds_toArray, List.set_cons_zero, List.set_cons_succ])
          ((with_reducible refine Ord.e_p (v := ?_) ?_ ?_ ?_ ?_); rotate_left; (· exact rfl); (· kernel_rfl); (· intro w2; go_simp; try with_reducible rfl))
          ((with_reducible refine Ord.e_p (v := ?_) ?_ ?_ ?_ ?_); rotate_left; (· exact rfl); (· kernel_rfl); (· intro w2; go_simp; try with_reducible rfl))
          ((with_reducible refine Ord.e_p (v := ?_) ?_ ?_ ?_ ?_); rotate_left; (· exact rfl); (· kernel_rfl); (· intro w2; go_simp; try with_reducible rfl))
          (try simp only [Act.put, List.setIfInBounds_toArray, List.set_cons_zero, List.set_cons_succ])
          refine Ord.e_loadS Try.underlying2 rfl (fun w' hS => ((show Below _ w1 w' from hS).cell (p := ⟨g1, off1 + k * 3 + 1, none⟩) hg1).trans a1) hb rfl (by kernel_rfl) ?_
          (try simp only [Act.put, List.setIfInBounds_toArray, List.set_cons_zero, List.set_cons_succ])
          ((with_reducible refine Ord.e_p (v := ?_) ?_ ?_ ?_ ?_); rotate_left; (· exact rfl); (· kernel_rfl); (· intro w2; go_simp; try with_reducible rfl))
          (try simp only [Act.put, List.setIfInBounds_toArray, List.set_cons_zero, List.set_cons_succ])
          refine Ord.e_loadS Try.underlying2 rfl (fun w' hS => ((show Below _ w1 w' from hS).cell (p := ⟨w.heap.size + 1, 1, none⟩) hlx).trans x1) hb rfl (by kernel_rfl) ?_
          (try simp only [Act.put, List.setIfInBounds_toArray, List.set_cons_zero, List.set_cons_succ])
          ((with_reducible refine Ord.e_p (v := ?_) ?_ ?_ ?_ ?_); rotate_left; (· exact rfl); (· kernel_rfl); (· intro w2; go_simp; try with_reducible rfl))
          (try simp only [Act.put, List.setIfInBounds_toArray, List.set_cons_zero, List.set_cons_succ])
          ((with_reducible refine Ord.e_p (v := ?_) ?_ ?_ ?_ ?_); rotate_left; (· exact rfl); (· kernel_rfl); (· intro w2; go_simp; try with_reducible rfl))
          (try simp only [Act.put, List.setIfInBounds_toArray, List.set_cons_zero, List.set_cons_succ])
          ((with_reducible refine Ord.e_p (v := ?_) ?_ ?_ ?_ ?_); rotate_left; (· exact rfl); (· kernel_rfl); (· intro w2; go_simp; try with_reducible rfl))
          (try simp only [Act.put, List.setIfInBounds_toArray, List.set_cons_zero, List.set_cons_succ])
          refine Ord.e_loadS Try.underlying26 rfl (fun w' hS => ((show Below _ w1 w' from hS).cell (p := ⟨w.heap.size, 0, none⟩) hlb).trans b0) hb rfl (by kernel_rfl) ?_
          (try simp only [Act.put, List.setIfInBounds_toArray, List.set_cons_zero, List.set_cons_succ])
          ((with_reducible refine Ord.e_p (v := ?_) ?_ ?_ ?_ ?_); rotate_left; (· exact rfl); (· kernel_rfl); (· intro w2; go_simp; try with_reducible rfl))
          ((with_reducible refine Ord.e_p (v := ?_) ?_ ?_ ?_ ?_); rotate_left; (· exact rfl); (· kernel_rfl); (· intro w2; go_simp; try with_reducible rfl))
          ((with_reducible refine Ord.e_p (v := ?_) ?_ ?_ ?_ ?_); rotate_left; (· exact rfl); (· kernel_rfl); (· intro w2; go_simp; try with_reducible rfl))
          (try simp only [Act.put, List.setIfInBounds_toArray, List.set_cons_zero, List.set_cons_succ])
          refine Ord.e_loadS Try.underlying2 rfl (fun w' hS => ((show Below _ w1 w' from hS).cell (p := ⟨g1, off1 + k * 3 + 2, none⟩) hg1).trans a2) hb rfl (by kernel_rfl) ?_
          (try simp only [Act.put, List.setIfInBounds_toArray, List.set_cons_zero, List.set_cons_succ])
          ((with_reducible refine Ord.e_p (v := ?_) ?_ ?_ ?_ ?_); rotate_left; (· exact rfl); (· kernel_rfl); (· intro w2; go_simp; try with_reducible rfl))
          (try simp only [Act.put, List.setIfInBounds_toArray, List.set_cons_zero, List.set_cons_succ])
          refine Ord.e_loadS Try.underlying2 rfl (fun w' hS => ((show Below _ w1 w' from hS).cell (p := ⟨w.heap.size + 1, 2, none⟩) hlx).trans x2) hb rfl (by kernel_rfl) ?_
          (try simp only [Act.put, List.setIfInBounds_toArray, List.set_cons_zero, List.set_cons_succ])
          ((with_reducible refine Ord.e_p (v := ?_) ?_ ?_ ?_ ?_); rotate_left; (· exact rfl); (· kernel_rfl); (· intro w2; go_simp; try with_reducible rfl))
          (try simp only [Act.put, List.setIfInBounds_toArray, List.set_cons_zero, List.set_cons_succ])
          ((with_reducible refine Ord.e_p (v := ?_) ?_ ?_ ?_ ?_); rotate_left; (· exact rfl); (· kernel_rfl); (· intro w2; go_simp; try with_reducible rfl))
          (try simp only [Act.put, List.setIfInBounds_toArray, List.set_cons_zero, List.set_cons_succ])
          refine Ord.e_nil ?_
          have hneg : ¬ t < 0 := by rw [HP.out]; omega
          have Hneg := Lib.hid hneg
          obtain rfl : l.take k ++ l.drop (k + 1) = l' := by rw [Hl.out, HP.out]; unfold dropAt; rw [if_neg (by omega)]; simp
          obtain rfl : od = od' := by rw [Hod.out, if_neg hneg]
          obtain rfl : true = v' := by rw [Hv.out, HP.out]; simp
          obtain ⟨i0, hi⟩ := info_parts ack_info
          have Hi := Lib.hid hi
          have hs1 : ∀ w, (Instr.slice 26 (.slice (some ⟨g1, off1, none⟩) n c) none (some (.int .i64 (k : Int))) none).run Try.prog w = .ok (.slice (some ⟨g1, off1, none⟩) k c) w := run_cut_h (P := Try.prog) Try.underlying26 hi.1 (some ⟨g1, off1, none⟩) n c k (by omega)
          have hs2 : ∀ w, (Instr.slice 26 (.slice (some ⟨g1, off1, none⟩) n c) (some (.int .i64 ((k : Int) + 1))) none none).run Try.prog w = .ok (.slice (cutA (some ⟨g1, off1, none⟩) c (k + 1) 3) (n - (k + 1)) (c - (k + 1))) w := fun w => by
            have := run_cut_l (P := Try.prog) Try.underlying26 hi.1 hi.2.2.1 (some ⟨g1, off1, none⟩) n c (k + 1) (by omega) w
            rwa [show ((k + 1 : Nat) : Int) = (k : Int) + 1 from by simp] at this
          have wz : IntKind.i64.wrap ((k : Int) + 1) = (k : Int) + 1 := by rw [IntKind.wrap_i64]; omega
          clear hi a1 a2
          have hbe : Below w1.heap.size w1 (w2.alloc (.cells #[] 30)) := hb.alloc hb.size _
          have hbe2 : Below w2.heap.size w2 (w2.alloc (.cells #[] 30)) := (Below.refl _ _).alloc (Nat.le_refl _) _
          have hre : w2.heap.size ≤ (w2.alloc (.cells #[] 30)).heap.size := by simp
          have b0e := (hbe.cell (p := ⟨w.heap.size, 0, none⟩) hlb).trans b0
          have htk := (h1.take (k := k) (by omega)).up hbe
          go_wp2_with (at_builtin; refine stop_ ?_)
          refine go_ (wpList_app (base := w2.heap.size) (n := 0) (xs := []) Try.underlying26 Hi.out rfl (by omega) (own_empty w2 _ _ (Nat.le_refl _) 3) rfl htk.rd rfl (acs_one _) (k := k) (by omega) (List.nil_append _) (by unfold maxLen; omega) (by omega) hre ?_)
          intro A3 c3 w3 hown3 hup3
          have hb3 := hup3 hbe (Nat.le_trans hb.size hre) hb.size
          have hb23 := hup3 hbe2 hre (Nat.le_refl _)
          clear hup3 hbe hbe2 hre b0e htk
          have b03 := (hb3.cell (p := ⟨w.heap.size, 0, none⟩) hlb).trans b0
          have hdrp : Rd w3 w1.heap.size 3 (cutA (some ⟨g1, off1, none⟩) c (k + 1) 3) (n - (k + 1)) (c - (k + 1)) (acs (l.drop (k + 1))) := by
            rw [acs_drop]
            exact (h1.up hb3).rd.drop' (by omega)
          go_wp2_with (at_builtin; refine stop_ ?_)
          refine go_ (wpList_app (base := w2.heap.size) Try.underlying26 Hi.out rfl (by omega) hown3 rfl hdrp rfl (acs_one _) (k := n - 1) (ys := acs (l.take k ++ l.drop (k + 1))) (by omega) (acs_app _ _).symm (by unfold maxLen; omega) (by omega) hb23.size ?_)
          intro A4 c4 w4 hown4 hup4
          have hb4 := hup4 hb3 (Nat.le_trans hb.size hb23.size) hb.size
          clear hup4 hown3 hb3 hb23 b03 hdrp hs1 hs2
          have hkb4 := blk_old hkb hb4 hlb
          have hab4 := blk_old hab hb4 hlx
          have hrb4 := blk_old hrb hb4 (blk_lt hrb)
          have hw2 := hb.size
          have c0 := blk_cell (i := 0) (v := .slice (some ⟨g1, off1, none⟩) n c) hkb4 rfl
          have f0 := blk_free (i := 0) hkb4
          have hkb5 := blk_set (i := 0) hkb4 (.slice A4 (n - 1) c4)
          have haw : Aw (fun k => k = w.heap.size) w4 (w4.setCell ⟨w.heap.size, 0, none⟩ (.slice A4 (n - 1) c4)) := (Aw.refl _ _).set (p := ⟨w.heap.size, 0, none⟩) _ rfl
          have hab5 := haw.keep hab4 (by omega)
          have hrb5 := haw.keep hrb4 (by omega)
          have hown5 := own_set hown4 (g := w.heap.size) (i := 0) (by omega) (.slice A4 (n - 1) c4)
          have hb5 : Below w.heap.size w (w4.setCell ⟨w.heap.size, 0, none⟩ (.slice A4 (n - 1) c4)) := (h0.trans (hb4.mono h0.size)).setCell (p := ⟨w.heap.size, 0, none⟩) (Nat.le_refl _) _
          have y0 := blk_cell (i := 0) (v := .bool b) hab5 rfl
          clear hown4 hkb4 hab4 hrb4 haw hb4
          rcases b with _ | _
          · obtain rfl : y = y' := by rw [Hy.out, if_neg (by have := Hneg.out; omega)]; simp
            obtain rfl : no + 1 = no' := by rw [Hno.out, if_neg (by have := Hneg.out; omega)]; simp
            have cj := blk_cell (i := 2) (v := .int .i64 no) hkb5 rfl
            have fj := blk_free (i := 2) hkb5
            have hkb7 := blk_set (i := 2) hkb5 (.int .i64 ((no : Int) + 1))
            have haw : Aw (fun k => k = w.heap.size) (w4.setCell ⟨w.heap.size, 0, none⟩ (.slice A4 (n - 1) c4)) ((w4.setCell ⟨w.heap.size, 0, none⟩ (.slice A4 (n - 1) c4)).setCell ⟨w.heap.size, 2, none⟩ (.int .i64 ((no : Int) + 1))) := (Aw.refl _ _).set (p := ⟨w.heap.size, 2, none⟩) _ rfl
            have hrb7 := haw.keep hrb5 (by omega)
            have hown7 := own_set hown5 (g := w.heap.size) (i := 2) (by omega) (.int .i64 ((no : Int) + 1))
            have hb7 := hb5.setCell (p := ⟨w.heap.size, 2, none⟩) (Nat.le_refl _) (.int .i64 ((no : Int) + 1))
            have e0 := blk_cell (i := 0) (v := .slice A4 (n - 1) c4) hkb7 rfl
            have e1 := blk_cell (i := 1) (v := .int .i64 y) hkb7 rfl
            have e2 := blk_cell (i := 2) (v := .int .i64 ((no : Int) + 1)) hkb7 rfl
            have e3 := blk_cell (i := 3) (v := .int .i64 od) hkb7 rfl
            clear haw
            go_wp2_with (with_reducible refine stop_store (t := 28) ?_)
            refine go_ (wpList_store_row rfl _ _ _ rfl (w.heap.size + 2) #[.slice A4 (n - 1) c4, .int .i64 y, .int .i64 ((no : Int) + 1), .int .i64 od] rfl rfl _ _ hrb7 (by kernel_rfl) rfl (by kernel_rfl) ?_)
            have hb6 := below_setRow hb7 (show w.heap.size ≤ w.heap.size + 2 by omega) (#[.slice A4 (n - 1) c4, .int .i64 y, .int .i64 ((no : Int) + 1), .int .i64 od] : Array Value)
            have hres6 := setRow_heap _ _ _ (#[.slice A4 (n - 1) c4, .int .i64 y, .int .i64 ((no : Int) + 1), .int .i64 od] : Array Value) _ _ hrb7
            have z0 := blk_cell (i := 0) (v := .slice A4 (n - 1) c4) hres6 rfl
            have z1 := blk_cell (i := 1) (v := .int .i64 y) hres6 rfl
            have z2 := blk_cell (i := 2) (v := .int .i64 ((no : Int) + 1)) hres6 rfl
            have z3 := blk_cell (i := 3) (v := .int .i64 od) hres6 rfl
            have hsz6 := setRow_size ((w4.setCell ⟨w.heap.size, 0, none⟩ (.slice A4 (n - 1) c4)).setCell ⟨w.heap.size, 2, none⟩ (.int .i64 ((no : Int) + 1))) (w.heap.size + 2) (#[.slice A4 (n - 1) c4, .int .i64 y, .int .i64 ((no : Int) + 1), .int .i64 od] : Array Value)
            have hoth := fun kk (hk : kk ≠ w.heap.size + 2) => setRow_other ((w4.setCell ⟨w.heap.size, 0, none⟩ (.slice A4 (n - 1) c4)).setCell ⟨w.heap.size, 2, none⟩ (.int .i64 ((no : Int) + 1))) (w.heap.size + 2) kk (#[.slice A4 (n - 1) c4, .int .i64 y, .int .i64 ((no : Int) + 1), .int .i64 od] : Array Value) hk
            have Hoth := Lib.hid hoth
            have Hsz6 := Lib.hid hsz6
            clear hoth hsz6 e0 e1 e2 e3 c0 f0 cj fj y0 hkb5 hkb7 hab5 hrb5 hown5 hb5
            generalize (((w4.setCell ⟨w.heap.size, 0, none⟩ (.slice A4 (n - 1) c4)).setCell ⟨w.heap.size, 2, none⟩ (.int .i64 ((no : Int) + 1))).setRow (w.heap.size + 2) #[.slice A4 (n - 1) c4, .int .i64 y, .int .i64 ((no : Int) + 1), .int .i64 od]) = w6 at *
            go_wp2
            refine bodyPost_ret (v := .tuple #[.agg #[.slice A4 (n - 1) c4, .int .i64 y, .int .i64 ((no : Int) + 1), .int .i64 od], .bool true]) (by simp [results, go_sem, z0, z1, z2, z3]) rfl ?_
            refine ⟨A4, n - 1, c4, by simp, ?_, hb6, fun a ha => .inr (by have := own_blk hown7 (k := a.block) (by rw [ha]; rfl); have := h0.size; have := Hsz6.out; omega)⟩
            refine (rdA_own hown7).keep fun g' off e hlt => ⟨by rw [Hsz6.out]; exact hlt, fun j => ?_⟩
            have hk := own_blk hown7 (k := g') (by rw [e]; rfl)
            have := Hoth.out g' (by omega)
            rw [World.cell?, World.cell?, show (⟨g', j, none⟩ : Addr).block = g' from rfl, this]
          · obtain rfl : y + 1 = y' := by rw [Hy.out, if_neg (by have := Hneg.out; omega)]; simp
            obtain rfl : no = no' := by rw [Hno.out, if_neg (by have := Hneg.out; omega)]; simp
            have cj := blk_cell (i := 1) (v := .int .i64 y) hkb5 rfl
            have fj := blk_free (i := 1) hkb5
            have hkb7 := blk_set (i := 1) hkb5 (.int .i64 ((y : Int) + 1))
            have haw : Aw (fun k => k = w.heap.size) (w4.setCell ⟨w.heap.size, 0, none⟩ (.slice A4 (n - 1) c4)) ((w4.setCell ⟨w.heap.size, 0, none⟩ (.slice A4 (n - 1) c4)).setCell ⟨w.heap.size, 1, none⟩ (.int .i64 ((y : Int) + 1))) := (Aw.refl _ _).set (p := ⟨w.heap.size, 1, none⟩) _ rfl
            have hrb7 := haw.keep hrb5 (by omega)
            have hown7 := own_set hown5 (g := w.heap.size) (i := 1) (by omega) (.int .i64 ((y : Int) + 1))
            have hb7 := hb5.setCell (p := ⟨w.heap.size, 1, none⟩) (Nat.le_refl _) (.int .i64 ((y : Int) + 1))
            have e0 := blk_cell (i := 0) (v := .slice A4 (n - 1) c4) hkb7 rfl
            have e1 := blk_cell (i := 1) (v := .int .i64 ((y : Int) + 1)) hkb7 rfl
            have e2 := blk_cell (i := 2) (v := .int .i64 no) hkb7 rfl
            have e3 := blk_cell (i := 3) (v := .int .i64 od) hkb7 rfl
            clear haw
            go_wp2_with (with_reducible refine stop_store (t := 28) ?_)
            refine go_ (wpList_store_row rfl _ _ _ rfl (w.heap.size + 2) #[.slice A4 (n - 1) c4, .int .i64 ((y : Int) + 1), .int .i64 no, .int .i64 od] rfl rfl _ _ hrb7 (by kernel_rfl) rfl (by kernel_rfl) ?_)
            have hb6 := below_setRow hb7 (show w.heap.size ≤ w.heap.size + 2 by omega) (#[.slice A4 (n - 1) c4, .int .i64 ((y : Int) + 1), .int .i64 no, .int .i64 od] : Array Value)
            have hres6 := setRow_heap _ _ _ (#[.slice A4 (n - 1) c4, .int .i64 ((y : Int) + 1), .int .i64 no, .int .i64 od] : Array Value) _ _ hrb7
            have z0 := blk_cell (i := 0) (v := .slice A4 (n - 1) c4) hres6 rfl
            have z1 := blk_cell (i := 1) (v := .int .i64 ((y : Int) + 1)) hres6 rfl
            have z2 := blk_cell (i := 2) (v := .int .i64 no) hres6 rfl
            have z3 := blk_cell (i := 3) (v := .int .i64 od) hres6 rfl
            have hsz6 := setRow_size ((w4.setCell ⟨w.heap.size, 0, none⟩ (.slice A4 (n - 1) c4)).setCell ⟨w.heap.size, 1, none⟩ (.int .i64 ((y : Int) + 1))) (w.heap.size + 2) (#[.slice A4 (n - 1) c4, .int .i64 ((y : Int) + 1), .int .i64 no, .int .i64 od] : Array Value)
            have hoth := fun kk (hk : kk ≠ w.heap.size + 2) => setRow_other ((w4.setCell ⟨w.heap.size, 0, none⟩ (.slice A4 (n - 1) c4)).setCell ⟨w.heap.size, 1, none⟩ (.int .i64 ((y : Int) + 1))) (w.heap.size + 2) kk (#[.slice A4 (n - 1) c4, .int .i64 ((y : Int) + 1), .int .i64 no, .int .i64 od] : Array Value) hk
            have Hoth := Lib.hid hoth
            have Hsz6 := Lib.hid hsz6
            clear hoth hsz6 e0 e1 e2 e3 c0 f0 cj fj y0 hkb5 hkb7 hab5 hrb5 hown5 hb5
            generalize (((w4.setCell ⟨w.heap.size, 0, none⟩ (.slice A4 (n - 1) c4)).setCell ⟨w.heap.size, 1, none⟩ (.int .i64 ((y : Int) + 1))).setRow (w.heap.size + 2) #[.slice A4 (n - 1) c4, .int .i64 ((y : Int) + 1), .int .i64 no, .int .i64 od]) = w6 at *
            go_wp2
            refine bodyPost_ret (v := .tuple #[.agg #[.slice A4 (n - 1) c4, .int .i64 ((y : Int) + 1), .int .i64 no, .int .i64 od], .bool true]) (by simp [results, go_sem, z0, z1, z2, z3]) rfl ?_
            refine ⟨A4, n - 1, c4, by simp, ?_, hb6, fun a ha => .inr (by have := own_blk hown7 (k := a.block) (by rw [ha]; rfl); have := h0.size; have := Hsz6.out; omega)⟩
            refine (rdA_own hown7).keep fun g' off e hlt => ⟨by rw [Hsz6.out]; exact hlt, fun j => ?_⟩
            have hk := own_blk hown7 (k := g') (by rw [e]; rfl)
            have := Hoth.out g' (by omega)
            rw [World.cell?, World.cell?, show (⟨g', j, none⟩ : Addr).block = g' from rfl, this]
        · have q2 : (pi == id) = false := by simp [e2]
          have HP : Hid (t = idxI (cl, id) (k + 1) (l.drop (k + 1))) := Lib.hid (by rw [Hs.out, q1, q2]; rfl)
          clear e1 e2 Hs
          go_wp2_with fail
          clear b0'
          refine Ord.region_ (fun w' => Below w1.heap.size w1 w') false [] (by kernel_rfl) (by kernel_rfl) hb.drew ?_
          replace hb := hb.drew
          generalize wr.drew = w2 at *
          ((with_reducible refine Ord.e_p (v := ?_) ?_ ?_ ?_ ?_); rotate_left; (· exact rfl); (· kernel_rfl); (· intro w2; go_simp; try with_reducible rfl))
          (try simp only [Act.put, List.setIfInBounds_toArray, List.set_cons_zero, List.set_cons_succ])
          refine Ord.e_loadS Try.underlying26 rfl (fun w' hS => ((show Below _ w1 w' from hS).cell (p := ⟨w.heap.size, 0, none⟩) hlb).trans b0) hb rfl (by kernel_rfl) ?_
          (try simp only [Act.put, List.setIfInBounds_toArray, List.set_cons_zero, List.set_cons_succ])
          ((with_reducible refine Ord.e_p (v := ?_) ?_ ?_ ?_ ?_); rotate_left; (· exact rfl); (· kernel_rfl); (· intro w2; go_simp; try with_reducible rfl))
          ((with_reducible refine Ord.e_p (v := ?_) ?_ ?_ ?_ ?_); rotate_left; (· exact rfl); (· kernel_rfl); (· intro w2; go_simp; try with_reducible rfl))
          ((with_reducible refine Ord.e_p (v := ?_) ?_ ?_ ?_ ?_); rotate_left; (· exact rfl); (· kernel_rfl); (· intro w2; go_simp; try with_reducible rfl))
          (try simp only [Act.put, List.setIfInBounds_toArray, List.set_cons_zero, List.set_cons_succ])
          refine Ord.e_loadS Try.underlying2 rfl (fun w' hS => ((show Below _ w1 w' from hS).cell (p := ⟨g1, off1 + k * 3 + 1, none⟩) hg1).trans a1) hb rfl (by kernel_rfl) ?_
          (try simp only [Act.put, List.setIfInBounds_toArray, List.set_cons_zero, List.set_cons_succ])
          ((with_reducible refine Ord.e_p (v := ?_) ?_ ?_ ?_ ?_); rotate_left; (· exact rfl); (· kernel_rfl); (· intro w2; go_simp; try with_reducible rfl))
          (try simp only [Act.put, List.setIfInBounds_toArray, List.set_cons_zero, List.set_cons_succ])
          refine Ord.e_loadS Try.underlying2 rfl (fun w' hS => ((show Below _ w1 w' from hS).cell (p := ⟨w.heap.size + 1, 1, none⟩) hlx).trans x1) hb rfl (by kernel_rfl) ?_
          (try simp only [Act.put, List.setIfInBounds_toArray, List.set_cons_zero, List.set_cons_succ])
          ((with_reducible refine Ord.e_p (v := ?_) ?_ ?_ ?_ ?_); rotate_left; (· exact rfl); (· kernel_rfl); (· intro w2; go_simp; try with_reducible rfl))
          (try simp only [Act.put, List.setIfInBounds_toArray, List.set_cons_zero, List.set_cons_succ])
          ((with_reducible refine Ord.e_p (v := ?_) ?_ ?_ ?_ ?_); rotate_left; (· exact rfl); (· kernel_rfl); (· intro w2; go_simp; try with_reducible rfl))
          (try simp only [Act.put, List.setIfInBounds_toArray, List.set_cons_zero, List.set_cons_succ])
          ((with_reducible refine Ord.e_p (v := ?_) ?_ ?_ ?_ ?_); rotate_left; (· exact rfl); (· kernel_rfl); (· intro w2; go_simp; try with_reducible rfl))
          (try simp only [Act.put, List.setIfInBounds_toArray, List.set_cons_zero, List.set_cons_succ])
          refine Ord.e_loadS Try.underlying26 rfl (fun w' hS => ((show Below _ w1 w' from hS).cell (p := ⟨w.heap.size, 0, none⟩) hlb).trans b0) hb rfl (by kernel_rfl) ?_
          (try simp only [Act.put, List.setIfInBounds_toArray, List.set_cons_zero, List.set_cons_succ])
          ((with_reducible refine Ord.e_p (v := ?_) ?_ ?_ ?_ ?_); rotate_left; (· exact rfl); (· kernel_rfl); (· intro w2; go_simp; try with_reducible rfl))
          ((with_reducible refine Ord.e_p (v := ?_) ?_ ?_ ?_ ?_); rotate_left; (· exact rfl); (· kernel_rfl); (· intro w2; go_simp; try with_reducible rfl))
          ((with_reducible refine Ord.e_p (v := ?_) ?_ ?_ ?_ ?_); rotate_left; (· exact rfl); (· kernel_rfl); (· intro w2; go_simp; try with_reducible rfl))
          (try simp only [Act.put, List.setIfInBounds_toArray, List.set_cons_zero, List.set_cons_succ])
          refine Ord.e_loadS Try.underlying2 rfl (fun w' hS => ((show Below _ w1 w' from hS).cell (p := ⟨g1, off1 + k * 3 + 2, none⟩) hg1).trans a2) hb rfl (by kernel_rfl) ?_
          (try simp only [Act.put, List.setIfInBounds_toArray, List.set_cons_zero, List.set_cons_succ])
          ((with_reducible refine Ord.e_p (v := ?_) ?_ ?_ ?_ ?_); rotate_left; (· exact rfl); (· kernel_rfl); (· intro w2; go_simp; try with_reducible rfl))
          (try simp only [Act.put, List.setIfInBounds_toArray, List.set_cons_zero, List.set_cons_succ])
          refine Ord.e_loadS Try.underlying2 rfl (fun w' hS => ((show Below _ w1 w' from hS).cell (p := ⟨w.heap.size + 1, 2, none⟩) hlx).trans x2) hb rfl (by kernel_rfl) ?_
          (try simp only [Act.put, List.setIfInBounds_toArray, List.set_cons_zero, List.set_cons_succ])
          ((with_reducible refine Ord.e_p (v := ?_) ?_ ?_ ?_ ?_); rotate_left; (· exact rfl); (· kernel_rfl); (· intro w2; go_simp; try with_reducible rfl))
          (try simp only [Act.put, List.setIfInBounds_toArray, List.set_cons_zero, List.set_cons_succ])
          ((with_reducible refine Ord.e_p (v := ?_) ?_ ?_ ?_ ?_); rotate_left; (· exact rfl); (· kernel_rfl); (· intro w2; go_simp; try with_reducible rfl))
          (try simp only [Act.put, List.setIfInBounds_toArray, List.set_cons_zero, List.set_cons_succ])
          refine Ord.e_nil ?_
          go_wp2
          go_roundw
          case rel => exact ⟨k + 1, by omega, by go_num, hb, HP⟩
          case measure => simp [intOf]; omega
      · have q1 : (pc == cl) = false := by simp [e1]
        have HP : Hid (t = idxI (cl, id) (k + 1) (l.drop (k + 1))) := Lib.hid (by rw [Hs.out, q1]; rfl)
        clear e1 Hs
        go_wp2_with fail
        clear b0'
        refine Ord.region_ (fun w' => Below w1.heap.size w1 w') false [] (by kernel_rfl) (by kernel_rfl) hb.drew ?_
        replace hb := hb.drew
        generalize wr.drew = w2 at *
        ((with_reducible refine Ord.e_p (v := ?_) ?_ ?_ ?_ ?_); rotate_left; (· exact rfl); (· kernel_rfl); (· intro w2; go_simp; try with_reducible rfl))
        (try simp only [Act.put, List.setIfInBounds_toArray, List.set_cons_zero, List.set_cons_succ])
        refine Ord.e_loadS Try.underlying26 rfl (fun w' hS => ((show Below _ w1 w' from hS).cell (p := ⟨w.heap.size, 0, none⟩) hlb).trans b0) hb rfl (by kernel_rfl) ?_
        (try simp only [Act.put, List.setIfInBounds_toArray, List.set_cons_zero, List.set_cons_succ])
        ((with_reducible refine Ord.e_p (v := ?_) ?_ ?_ ?_ ?_); rotate_left; (· exact rfl); (· kernel_rfl); (· intro w2; go_simp; try with_reducible rfl))
        ((with_reducible refine Ord.e_p (v := ?_) ?_ ?_ ?_ ?_); rotate_left; (· exact rfl); (· kernel_rfl); (· intro w2; go_simp; try with_reducible rfl))
        ((with_reducible refine Ord.e_p (v := ?_) ?_ ?_ ?_ ?_); rotate_left; (· exact rfl); (· kernel_rfl); (· intro w2; go_simp; try with_reducible rfl))
        (try simp only [Act.put, List.setIfInBounds_toArray, List.set_cons_zero, List.set_cons_succ])
        refine Ord.e_loadS Try.underlying2 rfl (fun w' hS => ((show Below _ w1 w' from hS).cell (p := ⟨g1, off1 + k * 3 + 1, none⟩) hg1).trans a1) hb rfl (by kernel_rfl) ?_
        (try simp only [Act.put, List.setIfInBounds_toArray, List.set_cons_zero, List.set_cons_succ])
        ((with_reducible refine Ord.e_p (v := ?_) ?_ ?_ ?_ ?_); rotate_left; (· exact rfl); (· kernel_rfl); (· intro w2; go_simp; try with_reducible rfl))
        (try simp only [Act.put, List.setIfInBounds_toArray, List.set_cons_zero, List.set_cons_succ])
        refine Ord.e_loadS Try.underlying2 rfl (fun w' hS => ((show Below _ w1 w' from hS).cell (p := ⟨w.heap.size + 1, 1, none⟩) hlx).trans x1) hb rfl (by kernel_rfl) ?_
        (try simp only [Act.put, List.setIfInBounds_toArray, List.set_cons_zero, List.set_cons_succ])
        ((with_reducible refine Ord.e_p (v := ?_) ?_ ?_ ?_ ?_); rotate_left; (· exact rfl); (· kernel_rfl); (· intro w2; go_simp; try with_reducible rfl))
        (try simp only [Act.put, List.setIfInBounds_toArray, List.set_cons_zero, List.set_cons_succ])
        ((with_reducible refine Ord.e_p (v := ?_) ?_ ?_ ?_ ?_); rotate_left; (· exact rfl); (· kernel_rfl); (· intro w2; go_simp; try with_reducible rfl))
        (try simp only [Act.put, List.setIfInBounds_toArray, List.set_cons_zero, List.set_cons_succ])
        ((with_reducible refine Ord.e_u ?_ ?_); (· kernel_rfl))
        ((with_reducible refine Ord.e_u ?_ ?_); (· kernel_rfl))
        ((with_reducible refine Ord.e_u ?_ ?_); (· kernel_rfl))
        ((with_reducible refine Ord.e_u ?_ ?_); (· kernel_rfl))
        ((with_reducible refine Ord.e_u ?_ ?_); (· kernel_rfl))
        ((with_reducible refine Ord.e_u ?_ ?_); (· kernel_rfl))
        ((with_reducible refine Ord.e_u ?_ ?_); (· kernel_rfl))
        ((with_reducible refine Ord.e_u ?_ ?_); (· kernel_rfl))
        ((with_reducible refine Ord.e_u ?_ ?_); (· kernel_rfl))
        (try simp only [Act.put, List.setIfInBounds_toArray, List.set_cons_zero, List.set_cons_succ])
        ((with_reducible refine Ord.e_p (v := ?_) ?_ ?_ ?_ ?_); rotate_left; (· exact rfl); (· kernel_rfl); (· intro w2; go_simp; try with_reducible rfl))
        (try simp only [Act.put, List.setIfInBounds_toArray, List.set_cons_zero, List.set_cons_succ])
        refine Ord.e_nil ?_
        go_wp2
        go_roundw
        case rel => exact ⟨k + 1, by omega, by go_num, hb, HP⟩
        case measure => simp [intOf]; omega
    · obtain rfl : k = n := by omega
      have ht1 : t = -1 := by rw [hid.out, List.drop_of_length_le (by rw [Hln.out]; omega)]; rfl
      have Ht1 := Lib.hid ht1
      clear ht1 hid
      obtain rfl : l = l' := by rw [Hl.out, Ht1.out]; rfl
      obtain rfl : y = y' := by rw [Hy.out, Ht1.out]; rfl
      obtain rfl : no = no' := by rw [Hno.out, Ht1.out]; rfl
      obtain rfl : od + 1 = od' := by rw [Hod.out, Ht1.out]; rfl
      obtain rfl : false = v' := by rw [Hv.out, Ht1.out]; rfl
      have hkb4 := blk_old hkb hb hlb
      have hrb4 := blk_old hrb hb (blk_lt hrb)
      have c3 := blk_cell (i := 3) (v := .int .i64 od) hkb4 rfl
      have f3 := blk_free (i := 3) hkb4
      have hkb7 := blk_set (i := 3) hkb4 (.int .i64 ((od : Int) + 1))
      have haw : Aw (fun k => k = w.heap.size) wr (wr.setCell ⟨w.heap.size, 3, none⟩ (.int .i64 ((od : Int) + 1))) := (Aw.refl _ _).set (p := ⟨w.heap.size, 3, none⟩) _ rfl
      have hrb7 := haw.keep hrb4 (by omega)
      have hb7 : Below w.heap.size w (wr.setCell ⟨w.heap.size, 3, none⟩ (.int .i64 ((od : Int) + 1))) := (h0.trans (hb.mono h0.size)).setCell (p := ⟨w.heap.size, 3, none⟩) (Nat.le_refl _) _
      have e0 := blk_cell (i := 0) (v := .slice A k c) hkb7 rfl
      have e1 := blk_cell (i := 1) (v := .int .i64 y) hkb7 rfl
      have e2 := blk_cell (i := 2) (v := .int .i64 no) hkb7 rfl
      have e3 := blk_cell (i := 3) (v := .int .i64 ((od : Int) + 1)) hkb7 rfl
      clear haw
      go_wp2_with (with_reducible refine stop_store (t := 28) ?_)
      refine go_ (wpList_store_row rfl _ _ _ rfl (w.heap.size + 2) #[.slice A k c, .int .i64 y, .int .i64 no, .int .i64 ((od : Int) + 1)] rfl rfl _ _ hrb7 (by kernel_rfl) rfl (by kernel_rfl) ?_)
      have hb6 := below_setRow hb7 (show w.heap.size ≤ w.heap.size + 2 by omega) (#[.slice A k c, .int .i64 y, .int .i64 no, .int .i64 ((od : Int) + 1)] : Array Value)
      have hres6 := setRow_heap _ _ _ (#[.slice A k c, .int .i64 y, .int .i64 no, .int .i64 ((od : Int) + 1)] : Array Value) _ _ hrb7
      have z0 := blk_cell (i := 0) (v := .slice A k c) hres6 rfl
      have z1 := blk_cell (i := 1) (v := .int .i64 y) hres6 rfl
      have z2 := blk_cell (i := 2) (v := .int .i64 no) hres6 rfl
      have z3 := blk_cell (i := 3) (v := .int .i64 ((od : Int) + 1)) hres6 rfl
      have hsz6 := setRow_size (wr.setCell ⟨w.heap.size, 3, none⟩ (.int .i64 ((od : Int) + 1))) (w.heap.size + 2) (#[.slice A k c, .int .i64 y, .int .i64 no, .int .i64 ((od : Int) + 1)] : Array Value)
      have hoth := fun kk (hk : kk ≠ w.heap.size + 2) => setRow_other (wr.setCell ⟨w.heap.size, 3, none⟩ (.int .i64 ((od : Int) + 1))) (w.heap.size + 2) kk (#[.slice A k c, .int .i64 y, .int .i64 no, .int .i64 ((od : Int) + 1)] : Array Value) hk
      have Hoth := Lib.hid hoth
      have Hsz6 := Lib.hid hsz6
      clear hoth hsz6 e0 e1 e2 e3 c3 f3 b0' hkb4 hkb7 hrb4
      generalize ((wr.setCell ⟨w.heap.size, 3, none⟩ (.int .i64 ((od : Int) + 1))).setRow (w.heap.size + 2) #[.slice A k c, .int .i64 y, .int .i64 no, .int .i64 ((od : Int) + 1)]) = w6 at *
      go_wp2
      refine bodyPost_ret (v := .tuple #[.agg #[.slice A k c, .int .i64 y, .int .i64 no, .int .i64 ((od : Int) + 1)], .bool false]) (by simp [results, go_sem, z0, z1, z2, z3]) rfl ?_
      refine ⟨A, k, c, by simp, ?_, hb6, fun a ha => .inl ha⟩
      refine h.keep fun g' off e hlt => ⟨by rw [Hsz6.out]; exact Nat.lt_of_lt_of_le hlt (Below.size hb7), fun j => ?_⟩
      have := (Hoth.out g' (by omega)).trans ((Below.block hb7) g' hlt)
      rw [World.cell?, World.cell?, show (⟨g', j, none⟩ : Addr).block = g' from rfl, this]

end Go.Proofs.Ytkelepnipndbbaa
