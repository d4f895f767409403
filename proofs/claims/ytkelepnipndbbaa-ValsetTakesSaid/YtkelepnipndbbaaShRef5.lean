/-
  The document's shapes: Take walked.
-/
import Derived.Test.YtkelepnipndbbaaShRef4
set_option linter.unusedSimpArgs false
set_option linter.unusedVariables false
namespace Go.Proofs.Ytkelepnipndbbaa
open Go.RowKit NumLaw
attribute [local go_sem] Addr.add_mid

set_option maxRecDepth 10000 in
set_option maxHeartbeats 4000000 in
theorem qTake14_go (A : Option Addr) (n c B : Nat) (l : List FieldV) (A' : Option Addr) (n' c' B' : Nat) (b : List UInt8) (w : World) (h : RdF w B A n c l) (hB : B ≤ w.heap.size) (h' : Rd w B' 1 A' n' c' (bv b)) (hB' : B' ≤ w.heap.size) (hn : n ≤ 100000) (hr : rightL l = true) (hlen : n' = sumL l) :
    Calls Try.prog 96 #[.slice A n c, .slice A' n' c'] w (RetTS w (shT l b) (shTE l b)) := by
  have hle := h.2.1
  have hle' := h'.le
  have hmx' := h'.max
  unfold maxLen at hmx'
  have hlb := h'.blen
  have Hl := Lib.hid h.1
  have Hr := Lib.hid hr
  have hright := qRight_any A n c B l w h hB
  rw [hr] at hright
  have hwidth := fun w' h' hB' => qWidth_any A n c B l w' h' hB' hn
  rw [show widthL l = n' by unfold widthL; rw [if_pos hr, hlen]] at hwidth
  have hE : shTE l b = if inAll l (takeV l b) = true then 0 else 5 := by unfold shTE; rw [if_pos hr, if_neg (by omega), if_neg (by omega)]
  have HE := Lib.hid hE
  obtain ⟨oE, hoE⟩ : ∃ oE, oE = shTE l b := ⟨_, rfl⟩
  obtain ⟨oP, hoP⟩ : ∃ oP, oP = shT l b := ⟨_, rfl⟩
  rw [← hoE, ← hoP]
  have HoE := Lib.hid hoE
  have HoP := Lib.hid hoP
  have Hlen := Lib.hid hlen
  have Hlb := Lib.hid hlb
  have hnb : n' ≤ 800000 := by
    have := sumL_take hr l.length
    rw [List.take_length, h.1] at this
    omega
  have Hwidth := Lib.hid hwidth
  obtain ⟨i0, hi0⟩ := info_parts u8_info
  have Hi := Lib.hid hi0
  obtain ⟨i1, hi1⟩ := info_parts i64_info
  have Hi1 := Lib.hid hi1
  clear hr hE hoE hoP hlen hlb hwidth hi0 hi1
  go_enter Try.func96, Try.ntmps96
  go_wp2_with fail
  go_fit hright
  rintro e w1 ⟨rfl, hb1⟩
  go_wp2_with fail
  go_fit (Hwidth.out w1 (h.up (hb1.mono hB)) (Nat.le_trans hB hb1.size))
  rintro e w2 ⟨rfl, hb12⟩
  have hb2 := bnx hb1 hb12
  go_wp2_with fail
  go_fit (Hwidth.out w2 (h.up (hb2.mono hB)) (Nat.le_trans hB hb2.size))
  rintro e w3 ⟨rfl, hb23⟩
  have hb3 := bnx hb2 hb23
  clear hb1 hb12 hb2 hb23 hright
  go_wp2_with fail
  go_loopw [6, 7, 8] (fun s a i wr => ∃ (k : Nat) (A6 : Option Addr) (c6 : Nat), k ≤ n ∧ i = .int .i64 k ∧ s = .slice A6 k c6 ∧ a = .int .i64 (sumL (l.take k) : Int) ∧ wr.ownsRow w.heap.size 2 1 (.slice A6 k c6) k (((takeV l b).take k).map (Value.int .i64)) ∧ Below w.heap.size w wr ∧ Hid (((l.zip (takeV l b)).take k).all (fun p => inF p.1 p.2) = true)) (fun _ _ i _ => n - (intOf i).toNat)
  case atStart => exact ⟨0, none, 0, by omega, rfl, rfl, rfl, World.ownsRow_nil _ _ _ _, hb3, Lib.hid rfl⟩
  case round =>
    clear hb3 w3
    obtain ⟨k, A6, c6, hk, rfl, rfl, rfl, hown, hb, hall⟩ := hrel
    by_cases hlt : k < n
    · obtain ⟨gf, off, f, rfl, hgf, hx, h1, h2, h3, h4, _⟩ := h.at_ hlt
      have hgw : gf < w.heap.size := by omega
      have hrf := List.all_eq_true.1 Hr.out _ (List.mem_of_getElem? hx)
      have hvx := takeV_at l b k f hx
      have hsl := sumL_le hx
      have hst := sumL_step hx
      have hfit := right_fits hrf
      have hzs := zip_take_succ hx hvx
      have hm : (f, fieldV f ((b.drop (sumL (l.take k))).take f.size.toNat)) ∈ l.zip (takeV l b) := List.mem_of_getElem? (i := k) (by rw [List.getElem?_zip_eq_some]; exact ⟨hx, hvx⟩)
      obtain ⟨at_, hat⟩ : ∃ a, a = sumL (l.take k) := ⟨_, rfl⟩
      rw [← hat] at hvx hsl hst hzs hm ⊢
      rw [← Hlen.out] at hsl
      have hbl : ((b.drop at_).take f.size.toNat).length = f.size.toNat := by rw [List.length_take, List.length_drop, Hlb.out]; omega
      have hni := num_in hrf hbl
      have hnumb := fun w' hcut hB'' => qnumber_any f (cutA A' c' at_ 1) f.size.toNat (c' - at_) B' ((b.drop at_).take f.size.toNat) w' hcut hB'' hfit.1 hfit.2 rfl
      have hcut : Rd w B' 1 (cutA A' c' at_ 1) f.size.toNat (c' - at_) (bv ((b.drop at_).take f.size.toNat)) := (h'.bdrop (k := at_) (by omega)).btake (by omega)
      obtain ⟨x, hxe⟩ : ∃ x, x = fieldV f ((b.drop at_).take f.size.toNat) := ⟨_, rfl⟩
      obtain ⟨nv, hnv⟩ : ∃ nv, nv = numV f ((b.drop at_).take f.size.toNat) := ⟨_, rfl⟩
      obtain ⟨nk, hnk⟩ : ∃ nk, nk = numK f ((b.drop at_).take f.size.toNat) := ⟨_, rfl⟩
      rw [← hxe] at hvx hzs hm hni
      rw [← hnv, ← hnk] at hni hnumb
      have Hvx := Lib.hid hvx
      have Hs := Lib.hid hzs
      have Hm := Lib.hid hm
      have Hni := Lib.hid hni
      have Hst := Lib.hid hst
      clear hx hzs hm hxe hvx hst hrf hnv hnk hni hat hbl
      obtain ⟨size, sg, lo, hi⟩ := f
      simp only at h1 h2 h3 h4 hfit hnumb hcut hsl Hst
      obtain ⟨sz, rfl⟩ : ∃ sz : Nat, size = sz := ⟨size.toNat, by omega⟩
      simp only [Int.toNat_natCast] at hnumb hcut hsl Hst
      generalize (b.drop at_).take sz = bk at *
      unfold fv at hnumb
      simp only at hnumb
      have Hnumb := Lib.hid hnumb
      clear hnumb
      have hrow : ∀ w', Below w.heap.size w w' → w'.rangeAt gf (off + k * 4) [.int .i64 sz, .bool sg, .int .i64 lo, .int .i64 hi] := fun w' hS j v hv => by
        have hc : ∀ j, w'.cell? ⟨gf, j, none⟩ = w.cell? ⟨gf, j, none⟩ := fun j => hS.cell (p := ⟨gf, j, none⟩) hgw
        rw [hc]
        match j, hv with
        | 0, hv => simp at hv; subst hv; exact h1
        | 1, hv => simp at hv; subst hv; exact h2
        | 2, hv => simp at hv; subst hv; exact h3
        | 3, hv => simp at hv; subst hv; exact h4
      have Hrow := Lib.hid hrow
      have Hbad : Hid (inF ⟨(sz : Int), sg, lo, hi⟩ x = false → oE = 5 ∧ oP = []) := Lib.hid (fun hin => by
        have hna : inAll l (takeV l b) = false := by
          unfold inAll
          rw [List.all_eq_false]
          exact ⟨_, Hm.out, by rw [hin]; simp⟩
        have h5 : oE = 5 := by rw [HoE.out, HE.out, if_neg (by rw [hna]; simp)]
        refine ⟨h5, ?_⟩
        rw [HoP.out]; unfold shT; rw [if_neg (by rw [← HoE.out, h5]; simp)])
      have wz : IntKind.i64.wrap ((at_ : Int) + (sz : Int)) = (at_ : Int) + (sz : Int) := by rw [IntKind.wrap_i64]; omega
      have hrun : ∀ w, (Instr.slice 46 (.slice A' n' c') (some (.int .i64 (at_ : Int))) (some (.int .i64 ((at_ : Int) + (sz : Int)))) none).run Try.prog w = .ok (.slice (cutA A' c' at_ 1) sz (c' - at_)) w := fun w => by
        have := run_cut_lh (P := Try.prog) Try.underlying46 Hi.out.1 Hi.out.2.2.1 A' n' c' at_ (at_ + sz) (by omega) (by omega) w
        rw [show ((at_ + sz : Nat) : Int) = (at_ : Int) + (sz : Int) by omega, Nat.add_sub_cancel_left] at this
        exact this
      clear hrow
      go_wp2_with fail
      refine Ord.region_ (fun w' => Below w.heap.size w w') false [] (by kernel_rfl) (by kernel_rfl) hb.drew ?_
      replace hb := hb.drew
      replace hown := hown.drew
      generalize wr.drew = w3 at *
      repeat (first | (refine Ord.e_p (v := ?_) rfl (by rfl) ?_ ?_; rotate_left; · (intro w2; go_simp; try with_reducible rfl)) | (refine Ord.e_u (by rfl) ?_)); (try simp only [Act.put, List.setIfInBounds_toArray, List.set_cons_zero, List.set_cons_succ])
      refine Ord.e_rowS Try.underlying80 rfl (by kernel_rfl) rfl (by simp) (fun w' hS => Hrow.out w' hS) hb (by rfl) ?_
      (try simp only [Act.put, List.setIfInBounds_toArray, List.set_cons_zero, List.set_cons_succ])
      repeat (first | (refine Ord.e_p (v := ?_) rfl (by rfl) ?_ ?_; rotate_left; · (intro w2; go_simp; try with_reducible rfl)) | (refine Ord.e_u (by rfl) ?_)); (try simp only [Act.put, List.setIfInBounds_toArray, List.set_cons_zero, List.set_cons_succ])
      refine Ord.e_loadS Try.underlying3 rfl (fun w' hS => ((show Below _ w w' from hS).cell (p := ⟨gf, off + k * 4, none⟩) hgw).trans h1) hb rfl (by rfl) ?_
      (try simp only [Act.put, List.setIfInBounds_toArray, List.set_cons_zero, List.set_cons_succ])
      repeat (first | (refine Ord.e_p (v := ?_) rfl (by rfl) ?_ ?_; rotate_left; · (intro w2; go_simp; try with_reducible rfl)) | (refine Ord.e_u (by rfl) ?_)); (try simp only [Act.put, List.setIfInBounds_toArray, List.set_cons_zero, List.set_cons_succ])
      refine Ord.e_x rfl (by rfl) ?_
      go_wp2_with fail
      go_fit (Hnumb.out w3 (hcut.up (hb.mono hB')) (Nat.le_trans hB' hb.size))
      rintro e w4 ⟨rfl, hb34⟩
      have hb4 := bnx hb hb34
      have hown4 := own_up hown hb34 (Nat.le_refl _)
      go_wp2_with fail
      refine Ord.Seg.go hb4 (fun h => by cases h) ?_
      (try simp only [Act.put, List.setIfInBounds_toArray, List.set_cons_zero, List.set_cons_succ])
      repeat (first | (refine Ord.e_p (v := ?_) rfl (by rfl) ?_ ?_; rotate_left; · (intro w2; go_simp; try with_reducible rfl)) | (refine Ord.e_u (by rfl) ?_)); (try simp only [Act.put, List.setIfInBounds_toArray, List.set_cons_zero, List.set_cons_succ])
      refine Ord.e_nil ?_
      have e0 := (hb4.cell (p := ⟨gf, off + k * 4, none⟩) hgw).trans h1
      have e2 := (hb4.cell (p := ⟨gf, off + k * 4 + 2, none⟩) hgw).trans h3
      have e3 := (hb4.cell (p := ⟨gf, off + k * 4 + 3, none⟩) hgw).trans h4
      clear hb hb34 hown hrun wz
      cases nk with
      | false =>
        obtain ⟨rfl, rfl⟩ := Hbad.out (Hni.out.2 rfl)
        clear Hbad
        go_wp2
        go_ret2
        exact ⟨none, 0, 0, rfl, World.ownsRow_nil _ _ _ _, hb4⟩
      | true =>
        obtain rfl : nv = x := Hni.out.1 rfl
        rcases (by omega : nv < lo ∨ (¬ nv < lo ∧ hi < nv) ∨ (¬ nv < lo ∧ ¬ hi < nv)) with g1 | ⟨g1, g2⟩ | ⟨g1, g2⟩
        · obtain ⟨rfl, rfl⟩ := Hbad.out (decide_eq_false (by simp only; omega))
          clear Hbad
          go_wp2
          go_ret2
          exact ⟨none, 0, 0, rfl, World.ownsRow_nil _ _ _ _, hb4⟩
        · obtain ⟨rfl, rfl⟩ := Hbad.out (decide_eq_false (by simp only; omega))
          clear Hbad
          go_wp2
          go_ret2
          exact ⟨none, 0, 0, rfl, World.ownsRow_nil _ _ _ _, hb4⟩
        · have HIN : Hid (inF ⟨(sz : Int), sg, lo, hi⟩ nv = true) := Lib.hid (decide_eq_true (by simp only; omega))
          clear Hbad
          have hnew : Rd (w4.alloc (.cells #[.int .i64 nv] 2)) (w4.heap.size + 1) 1 (some ⟨w4.heap.size, 0, none⟩) 1 1 ([nv].map (Value.int .i64)) := rd_lit' w4 2 [.int .i64 nv] (by simp [maxLen])
          have hb5 := hb4.alloc hb4.size (.cells #[.int .i64 nv] 2)
          have hown5 := own_up hown4 (w' := w4.alloc (.cells #[.int .i64 nv] 2)) ((Below.refl _ _).alloc (Nat.le_refl _) _) (Nat.le_refl _)
          go_wp2_with (at_builtin; refine stop_ ?_)
          refine go_ (wpList_app Try.underlying75 Hi1.out rfl (by omega) hown5 rfl hnew rfl (fun u hu => by simp at hu; subst hu; rfl) (k := k + 1) rfl (List.map_append).symm (by unfold maxLen; omega) (by omega) hb5.size ?_)
          intro A7 c7 w7 hown7 hB7
          have hb7 := hB7 hb5 hb5.size (Nat.le_refl _)
          rw [← take_succ Hvx.out] at hown7
          have e7 := (hb7.cell (p := ⟨gf, off + k * 4, none⟩) hgw).trans h1
          clear hB7 hown5 hown4 hb5 hb4 e0 e2 e3 hnew
          go_wp2
          go_roundw
          case rel =>
            refine ⟨k + 1, A7, c7, by omega, by go_num, rfl, val_int (by rw [Hst.out]; omega), hown7, hb7, Lib.hid ?_⟩
            rw [Hs.out, List.all_append, hall.out]; simp [HIN.out]
          case measure => simp [intOf]; omega
    · obtain rfl : k = n := by omega
      have ht : (l.zip (takeV l b)).take k = l.zip (takeV l b) := List.take_of_length_le (by rw [List.length_zip, takeV_len, Hl.out]; omega)
      have ht2 : (takeV l b).take k = takeV l b := List.take_of_length_le (by rw [takeV_len, Hl.out]; exact Nat.le_refl _)
      rw [ht] at hall
      rw [ht2] at hown
      have hall2 : inAll l (takeV l b) = true := hall.out
      obtain rfl : oE = 0 := by rw [HoE.out, HE.out, if_pos hall2]
      obtain rfl : oP = takeV l b := by rw [HoP.out]; unfold shT; rw [if_pos HoE.out.symm]
      clear ht ht2 hall2
      go_wp2
      go_ret2
      exact ⟨A6, k, c6, rfl, hown, hb⟩

end Go.Proofs.Ytkelepnipndbbaa
