/-
  The document's Same, the law's count, the document's Hear walked (printed by gen_ack10.py).
-/
import Derived.Test.YtkelepnipndbbaaAck9
set_option linter.unusedSimpArgs false
set_option linter.unusedVariables false
namespace Go.Proofs.Ytkelepnipndbbaa
open Go.RowKit NumLaw
attribute [local go_sem] Addr.add_mid

set_option maxRecDepth 10000 in
set_option maxHeartbeats 2000000 in
theorem qsame19_any (A1 : Option Addr) (n1 c1 : Nat) (A2 : Option Addr) (n2 c2 : Nat) (l : List (Int × Int)) (w : World) (h1 : RdA w w.heap.size A1 n1 c1 l) (h2 : RdA w w.heap.size A2 n2 c2 l) :
    Calls Try.prog 27 #[.slice A1 n1 c1, .slice A2 n2 c2] w fun e w' => e = .returned (.bool true) ∧ Below w.heap.size w w' := by
  have hle1 := h1.2.1
  have hle2 := h2.2.1
  have hmx := h1.2.2.1
  unfold maxLen at hmx
  obtain rfl : n1 = n2 := h1.1.symm.trans h2.1
  go_enter Try.func27, Try.ntmps27
  go_wp2_with fail
  go_loopw [5] (fun i wr => ∃ (k : Nat), k ≤ n1 ∧ i = .int .i64 k ∧ Below w.heap.size w wr) (fun i _ => n1 - (intOf i).toNat)
  case atStart => exact ⟨0, by omega, rfl, Below.refl _ _⟩
  case round =>
    obtain ⟨k, hk, rfl, hb⟩ := hrel
    by_cases hlt : k < n1
    · obtain ⟨g1, off1, p, rfl, hg1, hx, a0, a1, a2⟩ := h1.at_ hlt
      obtain ⟨g2, off2, p2, rfl, hg2, hx2, b0, b1, b2⟩ := h2.at_ hlt
      rw [hx] at hx2
      injection hx2 with hx2
      subst hx2
      clear hx
      obtain ⟨pc, pi⟩ := p
      simp only at a1 a2 b1 b2
      have hns := ack_nsame false pc pi
      have r1 : w.rangeAt g1 (off1 + k * 3) [.bool false, .int .i64 pc, .int .i64 pi] := fun j v hv => by
        match j, hv with
        | 0, hv => simp at hv; subst hv; exact a0
        | 1, hv => simp at hv; subst hv; exact a1
        | 2, hv => simp at hv; subst hv; exact a2
      have r2 : w.rangeAt g2 (off2 + k * 3) [.bool false, .int .i64 pc, .int .i64 pi] := fun j v hv => by
        match j, hv with
        | 0, hv => simp at hv; subst hv; exact b0
        | 1, hv => simp at hv; subst hv; exact b1
        | 2, hv => simp at hv; subst hv; exact b2
      have R1 := Lib.hid r1
      have R2 := Lib.hid r2
      clear a0 a1 a2 b0 b1 b2 r1 r2
      go_wp2_with fail
      refine Ord.region_ (fun w' => Below w.heap.size w w') false [] (by kernel_rfl) (by kernel_rfl) hb.drew ?_
      replace hb := hb.drew
      generalize wr.drew = w2 at *
      ((with_reducible refine Ord.e_p (v := ?_) ?_ ?_ ?_ ?_); rotate_left; (· exact rfl); (· kernel_rfl); (· intro w2; go_simp; try with_reducible rfl))
      ((with_reducible refine Ord.e_p (v := ?_) ?_ ?_ ?_ ?_); rotate_left; (· exact rfl); (· kernel_rfl); (· intro w2; go_simp; try with_reducible rfl))
      ((with_reducible refine Ord.e_p (v := ?_) ?_ ?_ ?_ ?_); rotate_left; (· exact rfl); (· kernel_rfl); (· intro w2; go_simp; try with_reducible rfl))
      (try simp only [Act.put, List.setIfInBounds_toArray, List.set_cons_zero, List.set_cons_succ])
      refine Ord.e_rowS Try.underlying30 rfl (by kernel_rfl) rfl (by simp) (fun w' hS j v hv => ((show Below _ w w' from hS).cell (p := ⟨g1, off1 + k * 3 + j, none⟩) hg1).trans (R1.out j v hv)) hb (by kernel_rfl) ?_
      (try simp only [Act.put, List.setIfInBounds_toArray, List.set_cons_zero, List.set_cons_succ])
      ((with_reducible refine Ord.e_p (v := ?_) ?_ ?_ ?_ ?_); rotate_left; (· exact rfl); (· kernel_rfl); (· intro w2; go_simp; try with_reducible rfl))
      ((with_reducible refine Ord.e_p (v := ?_) ?_ ?_ ?_ ?_); rotate_left; (· exact rfl); (· kernel_rfl); (· intro w2; go_simp; try with_reducible rfl))
      ((with_reducible refine Ord.e_p (v := ?_) ?_ ?_ ?_ ?_); rotate_left; (· exact rfl); (· kernel_rfl); (· intro w2; go_simp; try with_reducible rfl))
      (try simp only [Act.put, List.setIfInBounds_toArray, List.set_cons_zero, List.set_cons_succ])
      refine Ord.e_rowS Try.underlying30 rfl (by kernel_rfl) rfl (by simp) (fun w' hS j v hv => ((show Below _ w w' from hS).cell (p := ⟨g2, off2 + k * 3 + j, none⟩) hg2).trans (R2.out j v hv)) hb (by kernel_rfl) ?_
      (try simp only [Act.put, List.setIfInBounds_toArray, List.set_cons_zero, List.set_cons_succ])
      ((with_reducible refine Ord.e_p (v := ?_) ?_ ?_ ?_ ?_); rotate_left; (· exact rfl); (· kernel_rfl); (· intro w2; go_simp; try with_reducible rfl))
      (try simp only [Act.put, List.setIfInBounds_toArray, List.set_cons_zero, List.set_cons_succ])
      refine Ord.e_nil ?_
      clear hns
      go_wp2
      go_roundw
      case rel => exact ⟨k + 1, by omega, by go_num, hb⟩
      case measure => simp [intOf]; omega
    · obtain rfl : k = n1 := by omega
      go_wp2
      go_ret
      exact ⟨rfl, hb⟩
def cntA (q : Int × Int) (l : List (Int × Int)) : Nat := (l.filter fun p => p.1 == q.1 && p.2 == q.2).length
theorem cntA_snoc (q : Int × Int) (l : List (Int × Int)) (p : Int × Int) : cntA q (l ++ [p]) = cntA q l + if (p.1 == q.1 && p.2 == q.2) = true then 1 else 0 := by
  unfold cntA
  rw [List.filter_append, List.length_append]
  congr 1
  by_cases h : (p.1 == q.1 && p.2 == q.2) = true <;> simp [h]
theorem cntA_le (q : Int × Int) (l : List (Int × Int)) : cntA q l ≤ l.length := List.length_filter_le _ _
set_option maxRecDepth 10000 in
set_option maxHeartbeats 4000000 in
theorem of19_any (A : Option Addr) (n c : Nat) (l : List (Int × Int)) (y : Bool) (cl id : Int) (w : World) (h : RdA w w.heap.size A n c l) (hn : n ≤ 1000) :
    Calls Try.prog 29 #[.slice A n c, .agg #[.bool y, .int .i64 cl, .int .i64 id]] w fun e w' => e = .returned (.int .i64 (cntA (cl, id) l : Int)) ∧ Below w.heap.size w w' := by
  have hle := h.2.1
  have Hl := Lib.hid h.1
  obtain ⟨t, ht⟩ : ∃ t, t = cntA (cl, id) l := ⟨_, rfl⟩
  rw [← ht]
  have Ht := Lib.hid ht
  clear ht
  have hb1 : Below w.heap.size w (w.alloc (.cells #[.bool y, .int .i64 cl, .int .i64 id] 30)) := (Below.refl _ _).alloc (Nat.le_refl _) _
  have hbox := heap_alloc_new w (.cells #[.bool y, .int .i64 cl, .int .i64 id] 30)
  have x1 := blk_cell (i := 1) (v := .int .i64 cl) hbox rfl
  have x2 := blk_cell (i := 2) (v := .int .i64 id) hbox rfl
  have hlx := blk_lt hbox
  go_enter Try.func29, Try.ntmps29
  go_wp2_with fail
  generalize (w.alloc (.cells #[.bool y, .int .i64 cl, .int .i64 id] 30)) = w1 at *
  have h1 := h.nx hb1
  clear hbox h
  go_loopw [5, 6] (fun s i wr => ∃ (k p : Nat), k ≤ n ∧ i = .int .i64 k ∧ s = .int .i64 p ∧ p ≤ k ∧ Below w1.heap.size w1 wr ∧ Hid (p = cntA (cl, id) (l.take k))) (fun _ i _ => n - (intOf i).toNat)
  case atStart => exact ⟨0, 0, by omega, rfl, rfl, by omega, Below.refl _ _, Lib.hid rfl⟩
  case round =>
    obtain ⟨k, p, hk, rfl, rfl, hpk, hb, hp⟩ := hrel
    by_cases hlt : k < n
    · obtain ⟨g1, off1, q, rfl, hg1, hx, a0, a1, a2⟩ := h1.at_ hlt
      have hs := cntA_snoc (cl, id) (l.take k) q
      rw [← take_succ hx, ← hp.out] at hs
      have Hs := Lib.hid hs
      clear hs hx a0
      obtain ⟨pc, pi⟩ := q
      simp only at a1 a2 Hs
      by_cases e1 : pc = cl
      · have q1 : (pc == cl) = true := by simp [e1]
        by_cases e2 : pi = id
        · have q2 : (pi == id) = true := by simp [e2]
          have HP : Hid (cntA (cl, id) (l.take (k + 1)) = p + 1) := Lib.hid (by rw [Hs.out, q1, q2]; rfl)
          clear e1 e2 Hs
          go_wp2_with fail
          refine Ord.region_ (fun w' => Below w1.heap.size w1 w') false [] (by kernel_rfl) (by kernel_rfl) hb.drew ?_
          replace hb := hb.drew
          generalize wr.drew = w2 at *
          ((with_reducible refine Ord.e_p (v := ?_) ?_ ?_ ?_ ?_); rotate_left; (· exact rfl); (· kernel_rfl); (· intro w2; go_simp; try with_reducible rfl))
          ((with_reducible refine Ord.e_p (v := ?_) ?_ ?_ ?_ ?_); rotate_left; (· exact rfl); (· kernel_rfl); (· intro w2; go_simp; try with_reducible rfl))
          ((with_reducible refine Ord.e_p (v := ?_) ?_ ?_ ?_ ?_); rotate_left; (· exact rfl); (· kernel_rfl); (· intro w2; go_simp; try with_reducible rfl))
          ((with_reducible refine Ord.e_p (v := ?_) ?_ ?_ ?_ ?_); rotate_left; (· exact rfl); (· kernel_rfl); (· intro w2; go_simp; try with_reducible rfl))
          (try simp only [Act.put, List.setIfInBounds_toArray, List.set_cons_zero, List.set_cons_succ])
          refine Ord.e_loadS Try.underlying2 rfl (fun w' hS => ((show Below _ w1 w' from hS).cell (p := ⟨g1, off1 + k * 3 + 1, none⟩) hg1).trans a1) hb rfl (by kernel_rfl) ?_
          (try simp only [Act.put, List.setIfInBounds_toArray, List.set_cons_zero, List.set_cons_succ])
          ((with_reducible refine Ord.e_p (v := ?_) ?_ ?_ ?_ ?_); rotate_left; (· exact rfl); (· kernel_rfl); (· intro w2; go_simp; try with_reducible rfl))
          (try simp only [Act.put, List.setIfInBounds_toArray, List.set_cons_zero, List.set_cons_succ])
          refine Ord.e_loadS Try.underlying2 rfl (fun w' hS => ((show Below _ w1 w' from hS).cell (p := ⟨w.heap.size, 1, none⟩) hlx).trans x1) hb rfl (by kernel_rfl) ?_
          (try simp only [Act.put, List.setIfInBounds_toArray, List.set_cons_zero, List.set_cons_succ])
          ((with_reducible refine Ord.e_p (v := ?_) ?_ ?_ ?_ ?_); rotate_left; (· exact rfl); (· kernel_rfl); (· intro w2; go_simp; try with_reducible rfl))
          (try simp only [Act.put, List.setIfInBounds_toArray, List.set_cons_zero, List.set_cons_succ])
          ((with_reducible refine Ord.e_p (v := ?_) ?_ ?_ ?_ ?_); rotate_left; (· exact rfl); (· kernel_rfl); (· intro w2; go_simp; try with_reducible rfl))
          (try simp only [Act.put, List.setIfInBounds_toArray, List.set_cons_zero, List.set_cons_succ])
          ((with_reducible refine Ord.e_p (v := ?_) ?_ ?_ ?_ ?_); rotate_left; (· exact rfl); (· kernel_rfl); (· intro w2; go_simp; try with_reducible rfl))
          ((with_reducible refine Ord.e_p (v := ?_) ?_ ?_ ?_ ?_); rotate_left; (· exact rfl); (· kernel_rfl); (· intro w2; go_simp; try with_reducible rfl))
          ((with_reducible refine Ord.e_p (v := ?_) ?_ ?_ ?_ ?_); rotate_left; (· exact rfl); (· kernel_rfl); (· intro w2; go_simp; try with_reducible rfl))
          ((with_reducible refine Ord.e_p (v := ?_) ?_ ?_ ?_ ?_); rotate_left; (· exact rfl); (· kernel_rfl); (· intro w2; go_simp; try with_reducible rfl))
          (try simp only [Act.put, List.setIfInBounds_toArray, List.set_cons_zero, List.set_cons_succ])
          refine Ord.e_loadS Try.underlying2 rfl (fun w' hS => ((show Below _ w1 w' from hS).cell (p := ⟨g1, off1 + k * 3 + 2, none⟩) hg1).trans a2) hb rfl (by kernel_rfl) ?_
          (try simp only [Act.put, List.setIfInBounds_toArray, List.set_cons_zero, List.set_cons_succ])
          ((with_reducible refine Ord.e_p (v := ?_) ?_ ?_ ?_ ?_); rotate_left; (· exact rfl); (· kernel_rfl); (· intro w2; go_simp; try with_reducible rfl))
          (try simp only [Act.put, List.setIfInBounds_toArray, List.set_cons_zero, List.set_cons_succ])
          refine Ord.e_loadS Try.underlying2 rfl (fun w' hS => ((show Below _ w1 w' from hS).cell (p := ⟨w.heap.size, 2, none⟩) hlx).trans x2) hb rfl (by kernel_rfl) ?_
          (try simp only [Act.put, List.setIfInBounds_toArray, List.set_cons_zero, List.set_cons_succ])
          ((with_reducible refine Ord.e_p (v := ?_) ?_ ?_ ?_ ?_); rotate_left; (· exact rfl); (· kernel_rfl); (· intro w2; go_simp; try with_reducible rfl))
          (try simp only [Act.put, List.setIfInBounds_toArray, List.set_cons_zero, List.set_cons_succ])
          ((with_reducible refine Ord.e_p (v := ?_) ?_ ?_ ?_ ?_); rotate_left; (· exact rfl); (· kernel_rfl); (· intro w2; go_simp; try with_reducible rfl))
          (try simp only [Act.put, List.setIfInBounds_toArray, List.set_cons_zero, List.set_cons_succ])
          refine Ord.e_nil ?_
          go_wp2
          go_roundw
          case rel => exact ⟨k + 1, p + 1, by omega, by go_num, by go_num, by omega, hb, Lib.hid HP.out.symm⟩
          case measure => simp [intOf]; omega
        · have q2 : (pi == id) = false := by simp [e2]
          have HP : Hid (cntA (cl, id) (l.take (k + 1)) = p) := Lib.hid (by rw [Hs.out, q1, q2]; rfl)
          clear e1 e2 Hs
          go_wp2_with fail
          refine Ord.region_ (fun w' => Below w1.heap.size w1 w') false [] (by kernel_rfl) (by kernel_rfl) hb.drew ?_
          replace hb := hb.drew
          generalize wr.drew = w2 at *
          ((with_reducible refine Ord.e_p (v := ?_) ?_ ?_ ?_ ?_); rotate_left; (· exact rfl); (· kernel_rfl); (· intro w2; go_simp; try with_reducible rfl))
          ((with_reducible refine Ord.e_p (v := ?_) ?_ ?_ ?_ ?_); rotate_left; (· exact rfl); (· kernel_rfl); (· intro w2; go_simp; try with_reducible rfl))
          ((with_reducible refine Ord.e_p (v := ?_) ?_ ?_ ?_ ?_); rotate_left; (· exact rfl); (· kernel_rfl); (· intro w2; go_simp; try with_reducible rfl))
          ((with_reducible refine Ord.e_p (v := ?_) ?_ ?_ ?_ ?_); rotate_left; (· exact rfl); (· kernel_rfl); (· intro w2; go_simp; try with_reducible rfl))
          (try simp only [Act.put, List.setIfInBounds_toArray, List.set_cons_zero, List.set_cons_succ])
          refine Ord.e_loadS Try.underlying2 rfl (fun w' hS => ((show Below _ w1 w' from hS).cell (p := ⟨g1, off1 + k * 3 + 1, none⟩) hg1).trans a1) hb rfl (by kernel_rfl) ?_
          (try simp only [Act.put, List.setIfInBounds_toArray, List.set_cons_zero, List.set_cons_succ])
          ((with_reducible refine Ord.e_p (v := ?_) ?_ ?_ ?_ ?_); rotate_left; (· exact rfl); (· kernel_rfl); (· intro w2; go_simp; try with_reducible rfl))
          (try simp only [Act.put, List.setIfInBounds_toArray, List.set_cons_zero, List.set_cons_succ])
          refine Ord.e_loadS Try.underlying2 rfl (fun w' hS => ((show Below _ w1 w' from hS).cell (p := ⟨w.heap.size, 1, none⟩) hlx).trans x1) hb rfl (by kernel_rfl) ?_
          (try simp only [Act.put, List.setIfInBounds_toArray, List.set_cons_zero, List.set_cons_succ])
          ((with_reducible refine Ord.e_p (v := ?_) ?_ ?_ ?_ ?_); rotate_left; (· exact rfl); (· kernel_rfl); (· intro w2; go_simp; try with_reducible rfl))
          (try simp only [Act.put, List.setIfInBounds_toArray, List.set_cons_zero, List.set_cons_succ])
          ((with_reducible refine Ord.e_p (v := ?_) ?_ ?_ ?_ ?_); rotate_left; (· exact rfl); (· kernel_rfl); (· intro w2; go_simp; try with_reducible rfl))
          (try simp only [Act.put, List.setIfInBounds_toArray, List.set_cons_zero, List.set_cons_succ])
          ((with_reducible refine Ord.e_p (v := ?_) ?_ ?_ ?_ ?_); rotate_left; (· exact rfl); (· kernel_rfl); (· intro w2; go_simp; try with_reducible rfl))
          ((with_reducible refine Ord.e_p (v := ?_) ?_ ?_ ?_ ?_); rotate_left; (· exact rfl); (· kernel_rfl); (· intro w2; go_simp; try with_reducible rfl))
          ((with_reducible refine Ord.e_p (v := ?_) ?_ ?_ ?_ ?_); rotate_left; (· exact rfl); (· kernel_rfl); (· intro w2; go_simp; try with_reducible rfl))
          ((with_reducible refine Ord.e_p (v := ?_) ?_ ?_ ?_ ?_); rotate_left; (· exact rfl); (· kernel_rfl); (· intro w2; go_simp; try with_reducible rfl))
          (try simp only [Act.put, List.setIfInBounds_toArray, List.set_cons_zero, List.set_cons_succ])
          refine Ord.e_loadS Try.underlying2 rfl (fun w' hS => ((show Below _ w1 w' from hS).cell (p := ⟨g1, off1 + k * 3 + 2, none⟩) hg1).trans a2) hb rfl (by kernel_rfl) ?_
          (try simp only [Act.put, List.setIfInBounds_toArray, List.set_cons_zero, List.set_cons_succ])
          ((with_reducible refine Ord.e_p (v := ?_) ?_ ?_ ?_ ?_); rotate_left; (· exact rfl); (· kernel_rfl); (· intro w2; go_simp; try with_reducible rfl))
          (try simp only [Act.put, List.setIfInBounds_toArray, List.set_cons_zero, List.set_cons_succ])
          refine Ord.e_loadS Try.underlying2 rfl (fun w' hS => ((show Below _ w1 w' from hS).cell (p := ⟨w.heap.size, 2, none⟩) hlx).trans x2) hb rfl (by kernel_rfl) ?_
          (try simp only [Act.put, List.setIfInBounds_toArray, List.set_cons_zero, List.set_cons_succ])
          ((with_reducible refine Ord.e_p (v := ?_) ?_ ?_ ?_ ?_); rotate_left; (· exact rfl); (· kernel_rfl); (· intro w2; go_simp; try with_reducible rfl))
          (try simp only [Act.put, List.setIfInBounds_toArray, List.set_cons_zero, List.set_cons_succ])
          ((with_reducible refine Ord.e_p (v := ?_) ?_ ?_ ?_ ?_); rotate_left; (· exact rfl); (· kernel_rfl); (· intro w2; go_simp; try with_reducible rfl))
          (try simp only [Act.put, List.setIfInBounds_toArray, List.set_cons_zero, List.set_cons_succ])
          refine Ord.e_nil ?_
          go_wp2
          go_roundw
          case rel => exact ⟨k + 1, p, by omega, by go_num, rfl, by omega, hb, Lib.hid HP.out.symm⟩
          case measure => simp [intOf]; omega
      · have q1 : (pc == cl) = false := by simp [e1]
        have HP : Hid (cntA (cl, id) (l.take (k + 1)) = p) := Lib.hid (by rw [Hs.out, q1]; rfl)
        clear e1 Hs
        go_wp2_with fail
        refine Ord.region_ (fun w' => Below w1.heap.size w1 w') false [] (by kernel_rfl) (by kernel_rfl) hb.drew ?_
        replace hb := hb.drew
        generalize wr.drew = w2 at *
        ((with_reducible refine Ord.e_p (v := ?_) ?_ ?_ ?_ ?_); rotate_left; (· exact rfl); (· kernel_rfl); (· intro w2; go_simp; try with_reducible rfl))
        ((with_reducible refine Ord.e_p (v := ?_) ?_ ?_ ?_ ?_); rotate_left; (· exact rfl); (· kernel_rfl); (· intro w2; go_simp; try with_reducible rfl))
        ((with_reducible refine Ord.e_p (v := ?_) ?_ ?_ ?_ ?_); rotate_left; (· exact rfl); (· kernel_rfl); (· intro w2; go_simp; try with_reducible rfl))
        ((with_reducible refine Ord.e_p (v := ?_) ?_ ?_ ?_ ?_); rotate_left; (· exact rfl); (· kernel_rfl); (· intro w2; go_simp; try with_reducible rfl))
        (try simp only [Act.put, List.setIfInBounds_toArray, List.set_cons_zero, List.set_cons_succ])
        refine Ord.e_loadS Try.underlying2 rfl (fun w' hS => ((show Below _ w1 w' from hS).cell (p := ⟨g1, off1 + k * 3 + 1, none⟩) hg1).trans a1) hb rfl (by kernel_rfl) ?_
        (try simp only [Act.put, List.setIfInBounds_toArray, List.set_cons_zero, List.set_cons_succ])
        ((with_reducible refine Ord.e_p (v := ?_) ?_ ?_ ?_ ?_); rotate_left; (· exact rfl); (· kernel_rfl); (· intro w2; go_simp; try with_reducible rfl))
        (try simp only [Act.put, List.setIfInBounds_toArray, List.set_cons_zero, List.set_cons_succ])
        refine Ord.e_loadS Try.underlying2 rfl (fun w' hS => ((show Below _ w1 w' from hS).cell (p := ⟨w.heap.size, 1, none⟩) hlx).trans x1) hb rfl (by kernel_rfl) ?_
        (try simp only [Act.put, List.setIfInBounds_toArray, List.set_cons_zero, List.set_cons_succ])
        ((with_reducible refine Ord.e_p (v := ?_) ?_ ?_ ?_ ?_); rotate_left; (· exact rfl); (· kernel_rfl); (· intro w2; go_simp; try with_reducible rfl))
        (try simp only [Act.put, List.setIfInBounds_toArray, List.set_cons_zero, List.set_cons_succ])
        ((with_reducible refine Ord.e_p (v := ?_) ?_ ?_ ?_ ?_); rotate_left; (· exact rfl); (· kernel_rfl); (· intro w2; go_simp; try with_reducible rfl))
        (try simp only [Act.put, List.setIfInBounds_toArray, List.set_cons_zero, List.set_cons_succ])
        ((with_reducible refine Ord.e_u ?_ ?_); (· kernel_rfl))
        ((with_reducible refine Ord.e_u ?_ ?_); (· kernel_rfl))
        ((with_reducible refine Ord.e_u ?_ ?_); (· kernel_rfl))
        ((with_reducible refine Ord.e_u ?_ ?_); (· kernel_rfl))
        ((with_reducible refine Ord.e_u ?_ ?_); (· kernel_rfl))
        ((with_reducible refine Ord.e_u ?_ ?_); (· kernel_rfl))
        ((with_reducible refine Ord.e_u ?_ ?_); (· kernel_rfl))
        ((with_reducible refine Ord.e_u ?_ ?_); (· kernel_rfl))
        (try simp only [Act.put, List.setIfInBounds_toArray, List.set_cons_zero, List.set_cons_succ])
        ((with_reducible refine Ord.e_p (v := ?_) ?_ ?_ ?_ ?_); rotate_left; (· exact rfl); (· kernel_rfl); (· intro w2; go_simp; try with_reducible rfl))
        (try simp only [Act.put, List.setIfInBounds_toArray, List.set_cons_zero, List.set_cons_succ])
        refine Ord.e_nil ?_
        go_wp2
        go_roundw
        case rel => exact ⟨k + 1, p, by omega, by go_num, rfl, by omega, hb, Lib.hid HP.out.symm⟩
        case measure => simp [intOf]; omega
    · obtain rfl : k = n := by omega
      have e : l.take k = l := List.take_of_length_le (by rw [Hl.out]; omega)
      obtain rfl : p = t := by rw [hp.out, e, Ht.out]
      go_wp2
      go_ret
      exact ⟨rfl, bnx hb1 hb⟩

end Go.Proofs.Ytkelepnipndbbaa
