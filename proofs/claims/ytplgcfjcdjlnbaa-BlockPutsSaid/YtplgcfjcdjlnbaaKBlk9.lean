/-
  BlockPuts walked (printed by gen_blk9.py).
-/
import Derived.Test.YtplgcfjcdjlnbaaKGR
import Derived.Test.YtplgcfjcdjlnbaaKGA
set_option linter.unusedSimpArgs false
set_option linter.unusedVariables false
namespace Go.Proofs.Ytplgcfjcdjlnbaa
open Go.RowKit NumLaw CrcLaw
attribute [local go_sem] Addr.add_mid

set_option maxRecDepth 10000 in
set_option maxHeartbeats 8000000 in
theorem blockputs_any (no : Nat) (A : Option Addr) (n c : Nat) (L : List En) (t : Nat) (V : List Int) (w : World) (h : RdE w w.heap.size A n c L) (hno : no < 4294967296) (hq : ∀ x ∈ L, EnQ x) (ht : t < 4294967296) (hV : V.length = 12) (h32 : ∀ z ∈ V, in32 z) :
    Calls Try.prog 7 #[.agg #[.int .u32 (no : Int), .slice A n c], .agg (rcC t V).toArray] w fun e w' => e = .returned (.bool true) ∧ Below w.heap.size w w' := by
  obtain ⟨a0, a1, hs, hb⟩ := al2 w (.cells #[.int .u32 (no : Int), .slice A n c] 41) (.cells (rcC t V).toArray 25)
  have hmx := h.2.2.2.1
  have hle := h.2.2.1
  unfold maxLen at hmx
  by_cases hn : 100 < n
  · have hn' : (100 : Int) < (n : Int) := by omega
    go_enter Try.func7, Try.ntmps7
    go_wp2_with (with_reducible refine stop_loadT 39 ?_)
    (try rw [hs])
    generalize ((w.alloc (.cells #[.int .u32 (no : Int), .slice A n c] 41)).alloc (.cells (rcC t V).toArray 25)) = w1 at *
    have c1 := blk_cell (i := 1) (v := .slice A n c) a0 rfl
    refine go_ ?_
    go_wp2_with fail
    go_fit (knows35 w1)
    rintro e w2 ⟨rfl, hb2⟩
    go_wp2
    go_ret
    exact ⟨rfl, bnx hb hb2⟩
  have hn' : ¬ (100 : Int) < (n : Int) := by omega
  have HV := Lib.hid hV
  have Hput := Lib.hid (fun w1 (h1 : RdE w1 w.heap.size A n c L) (hB1 : w.heap.size ≤ w1.heap.size) => blkPut_any no A n c w.heap.size L w1 hno h1 hB1 hq (by omega))
  have Hqput := Lib.hid (fun w1 (h1 : RdE w1 w.heap.size A n c L) (hB1 : w.heap.size ≤ w1.heap.size) => qblkPut_any no A n c w.heap.size L w1 hno h1 hB1 hq (by omega))
  have Hsz := Lib.hid (fun w1 (h1 : RdE w1 w.heap.size A n c L) (hB1 : w.heap.size ≤ w1.heap.size) => bsize_any A n c w.heap.size L w1 h1 hB1 hq (by omega))
  have Hqsz := Lib.hid (fun w1 (h1 : RdE w1 w.heap.size A n c L) (hB1 : w.heap.size ≤ w1.heap.size) => qbsize_any A n c w.heap.size L w1 h1 hB1 hq (by omega))
  have Hlay := Lib.hid (fun x (hx : x ∈ L) w1 => lay_any t V x w1 ht hV h32 (hq x hx))
  have Hqlay := Lib.hid (fun x (hx : x ∈ L) w1 => qlay_any t V x w1 ht hV h32 (hq x hx))
  have HxQ := Lib.hid (fun x (hx : x ∈ L) => (hq x hx).2.1)
  have Hlen := Lib.hid h.len
  generalize putB no L = pB at *
  generalize putE L = pE at *
  generalize (entB L).length = sz at *
  clear hq hV h32
  go_enter Try.func7, Try.ntmps7
  go_wp2_with (with_reducible refine stop_loadT 39 ?_)
  (try rw [hs])
  generalize ((w.alloc (.cells #[.int .u32 (no : Int), .slice A n c] 41)).alloc (.cells (rcC t V).toArray 25)) = w1 at *
  replace a1 : RcB w1 (w.heap.size + 1) t V := a1
  have c1 := blk_cell (i := 1) (v := .slice A n c) a0 rfl
  refine go_ ?_
  go_wp2_with fail
  go_fit (knows35 w1)
  rintro e w2 ⟨rfl, hbx⟩
  replace a0 := blk_old a0 hbx (blk_lt a0)
  replace a1 : RcB w2 (w.heap.size + 1) t V := blk_old a1 hbx (blk_lt a1)
  replace hb := bnx hb hbx
  clear hbx c1 hs w1
  go_wp2_with (first | (with_reducible refine stop_loadT 41 ?_) | (with_reducible refine stop_storeT 41 ?_))
  refine go_ (wpList_load_row rfl _ _ rfl w.heap.size rfl _ _ _ _ a0 Try.underlying41 rfl (by kernel_rfl) ?_)
  go_wp2_with fail
  go_fit (Hput.out w2 (h.up hb) hb.size)
  rintro e w3 ⟨A3, c3, n3, rfl, own3, hbx⟩
  have hr3 := Rd.own own3
  replace a0 := blk_old a0 hbx (blk_lt a0)
  replace a1 : RcB w3 (w.heap.size + 1) t V := blk_old a1 hbx (blk_lt a1)
  replace hb := bnx hb hbx
  clear hbx own3 w2
  go_wp2_with (first | (with_reducible refine stop_loadT 41 ?_) | (with_reducible refine stop_storeT 41 ?_))
  refine go_ (wpList_load_row rfl _ _ rfl w.heap.size rfl _ _ _ _ a0 Try.underlying41 rfl (by kernel_rfl) ?_)
  go_wp2_with fail
  go_fit (Hqput.out w3 (h.up hb) hb.size)
  rintro e w4 ⟨A4, c4, n4, rfl, own4, hbx⟩
  have hr4 := Rd.own own4
  replace hr3 := hr3.nx hbx
  replace a0 := blk_old a0 hbx (blk_lt a0)
  replace a1 : RcB w4 (w.heap.size + 1) t V := blk_old a1 hbx (blk_lt a1)
  replace hb := bnx hb hbx
  clear hbx own4 w3
  have lt1 : w.heap.size + 1 < w4.heap.size := blk_lt a1
  have c1 := blk_cell (i := 1) (v := .slice A n c) a0 rfl
  have C1 := Lib.hid c1
  clear c1
  go_wp2_with fail
  go_loopw [9] (fun i wr => ∃ k : Nat, k ≤ n ∧ i = .int .i64 k ∧ Below w4.heap.size w4 wr) (fun i _ => n - (intOf i).toNat)
  case atStart => exact ⟨0, by omega, rfl, Below.refl _ _⟩
  case round =>
    obtain ⟨k, hk, rfl, hbr⟩ := hrel
    have c1 := (hbr.cell (p := ⟨w.heap.size, 1, none⟩) (by show w.heap.size < _; omega)).trans C1.out
    by_cases hlt : k < n
    · have hlt' : (k : Int) < (n : Int) := by omega
      obtain ⟨g, off, x, hA, hg, hx, hr⟩ := h.at_ hlt
      subst hA
      have hxm := List.mem_of_getElem? hx
      have HL := Lib.hid (Hlay.out x hxm)
      have HQL := Lib.hid (Hqlay.out x hxm)
      have HxV := Lib.hid (HxQ.out x hxm)
      have Hr := Lib.hid (show ∀ wq, Below w4.heap.size w4 wq → wq.rangeAt g (off + k * 14) (enC x) from fun wq hbq j v hv => ((bnx hb hbq).cell (p := ⟨g, off + k * 14 + j, none⟩) (show g < w.heap.size by omega)).trans (hr j v hv))
      clear hx hxm hr
      generalize layB t V x = lB at *
      go_wp2_with fail
      refine Ord.region_ (fun w' => Below w4.heap.size w4 w') true [43, 51] (by kernel_rfl) (by kernel_rfl) hbr.drew ?_
      have hS := hbr.drew
      generalize wr.drew = wd at *
      clear hbr c1
      refine Ord.e_rowS Try.underlying25 rfl (by rw [rcC_size t V HV.out]; kernel_rfl) rfl (by unfold rcC; simp) (fun w' hS => (show RcB w' (w.heap.size + 1) t V from blk_old a1 (show Below _ w4 w' from hS) (blk_lt a1)).all) hS (by kernel_rfl) ?_
      (try simp only [Act.put, List.setIfInBounds_toArray, List.set_cons_zero, List.set_cons_succ])
      ((with_reducible refine Ord.e_p (v := ?_) ?_ ?_ ?_ ?_); rotate_left; (· exact rfl); (· kernel_rfl); (· intro w2; go_simp; try with_reducible rfl))
      (try simp only [Act.put, List.setIfInBounds_toArray, List.set_cons_zero, List.set_cons_succ])
      refine Ord.e_loadS Try.underlying39 rfl (fun w' hS => ((show Below _ w4 w' from hS).cell (p := ⟨w.heap.size, 1, none⟩) (by show w.heap.size < _; omega)).trans C1.out) hS rfl (by kernel_rfl) ?_
      (try simp only [Act.put, List.setIfInBounds_toArray, List.set_cons_zero, List.set_cons_succ])
      ((with_reducible refine Ord.e_p (v := ?_) ?_ ?_ ?_ ?_); rotate_left; (· exact rfl); (· kernel_rfl); (· intro w2; go_simp; try with_reducible rfl))
      (try simp only [Act.put, List.setIfInBounds_toArray, List.set_cons_zero, List.set_cons_succ])
      ((with_reducible refine Ord.e_p (v := ?_) ?_ ?_ ?_ ?_); rotate_left; (· exact rfl); (· kernel_rfl); (· intro w2; go_simp; try with_reducible rfl))
      (try simp only [Act.put, List.setIfInBounds_toArray, List.set_cons_zero, List.set_cons_succ])
      refine Ord.e_rowS (b := g) (o := off + k * 14) Try.underlying46 rfl (by rw [enC_len x HxV.out]; kernel_rfl) rfl (by unfold enC; simp) (fun w' hS => Hr.out w' hS) hS (by kernel_rfl) ?_
      (try simp only [Act.put, List.setIfInBounds_toArray, List.set_cons_zero, List.set_cons_succ])
      refine Ord.e_x rfl (by kernel_rfl) ?_
      go_wp2_with fail
      go_fit (HL.out wd)
      rintro e we ⟨Ae, ce, ne, rfl, owne, hbx⟩
      replace hS := bnx hS hbx
      go_wp2_with fail
      refine Ord.Seg.go hS (fun _ => hbx) ?_
      (try simp only [Act.put, List.setIfInBounds_toArray, List.set_cons_zero, List.set_cons_succ])
      clear hbx
      refine Ord.e_str Try.underlying26 Try.underlying5 Try.underlying9 (Rd.own owne) rfl (by kernel_rfl) (by kernel_rfl) ?_
      (try simp only [Act.put, List.setIfInBounds_toArray, List.set_cons_zero, List.set_cons_succ])
      clear owne
      refine Ord.e_rowS Try.underlying25 rfl (by rw [rcC_size t V HV.out]; kernel_rfl) rfl (by unfold rcC; simp) (fun w' hS => (show RcB w' (w.heap.size + 1) t V from blk_old a1 (show Below _ w4 w' from hS) (blk_lt a1)).all) hS (by kernel_rfl) ?_
      (try simp only [Act.put, List.setIfInBounds_toArray, List.set_cons_zero, List.set_cons_succ])
      ((with_reducible refine Ord.e_p (v := ?_) ?_ ?_ ?_ ?_); rotate_left; (· exact rfl); (· kernel_rfl); (· intro w2; go_simp; try with_reducible rfl))
      (try simp only [Act.put, List.setIfInBounds_toArray, List.set_cons_zero, List.set_cons_succ])
      refine Ord.e_loadS Try.underlying39 rfl (fun w' hS => ((show Below _ w4 w' from hS).cell (p := ⟨w.heap.size, 1, none⟩) (by show w.heap.size < _; omega)).trans C1.out) hS rfl (by kernel_rfl) ?_
      (try simp only [Act.put, List.setIfInBounds_toArray, List.set_cons_zero, List.set_cons_succ])
      ((with_reducible refine Ord.e_p (v := ?_) ?_ ?_ ?_ ?_); rotate_left; (· exact rfl); (· kernel_rfl); (· intro w2; go_simp; try with_reducible rfl))
      (try simp only [Act.put, List.setIfInBounds_toArray, List.set_cons_zero, List.set_cons_succ])
      ((with_reducible refine Ord.e_p (v := ?_) ?_ ?_ ?_ ?_); rotate_left; (· exact rfl); (· kernel_rfl); (· intro w2; go_simp; try with_reducible rfl))
      (try simp only [Act.put, List.setIfInBounds_toArray, List.set_cons_zero, List.set_cons_succ])
      refine Ord.e_rowS (b := g) (o := off + k * 14) Try.underlying46 rfl (by rw [enC_len x HxV.out]; kernel_rfl) rfl (by unfold enC; simp) (fun w' hS => Hr.out w' hS) hS (by kernel_rfl) ?_
      (try simp only [Act.put, List.setIfInBounds_toArray, List.set_cons_zero, List.set_cons_succ])
      refine Ord.e_x rfl (by kernel_rfl) ?_
      go_wp2_with fail
      go_fit (HQL.out we)
      rintro e wf ⟨Af, cf, nf, rfl, ownf, hbx⟩
      replace hS := bnx hS hbx
      go_wp2_with fail
      refine Ord.Seg.go hS (fun _ => hbx) ?_
      (try simp only [Act.put, List.setIfInBounds_toArray, List.set_cons_zero, List.set_cons_succ])
      clear hbx
      refine Ord.e_str Try.underlying26 Try.underlying5 Try.underlying9 (Rd.own ownf) rfl (by kernel_rfl) (by kernel_rfl) ?_
      (try simp only [Act.put, List.setIfInBounds_toArray, List.set_cons_zero, List.set_cons_succ])
      clear ownf
      ((with_reducible refine Ord.e_p (v := ?_) ?_ ?_ ?_ ?_); rotate_left; (· exact rfl); (· kernel_rfl); (· intro w2; go_simp; try with_reducible rfl))
      (try simp only [Act.put, List.setIfInBounds_toArray, List.set_cons_zero, List.set_cons_succ])
      refine Ord.e_nil ?_
      go_wp2
      go_roundw
      case rel => exact ⟨k + 1, by omega, by go_num, hS⟩
      case measure => simp [intOf]; omega
    · obtain rfl : k = n := by omega
      go_wp2_with fail
      refine Ord.region_ (fun w' => Below w4.heap.size w4 w') false [] (by kernel_rfl) (by kernel_rfl) hbr.drew ?_
      have hS := hbr.drew
      generalize wr.drew = wd at *
      clear hbr c1
      ((with_reducible refine Ord.e_p (v := ?_) ?_ ?_ ?_ ?_); rotate_left; (· exact rfl); (· kernel_rfl); (· intro w2; go_simp; try with_reducible rfl))
      (try simp only [Act.put, List.setIfInBounds_toArray, List.set_cons_zero, List.set_cons_succ])
      refine Ord.e_strS Try.underlying26 Try.underlying5 Try.underlying9 (fun w' hS => hr3.up (show Below _ w4 w' from hS)) hS hS.size rfl (by kernel_rfl) ?_
      (try simp only [Act.put, List.setIfInBounds_toArray, List.set_cons_zero, List.set_cons_succ])
      ((with_reducible refine Ord.e_p (v := ?_) ?_ ?_ ?_ ?_); rotate_left; (· exact rfl); (· kernel_rfl); (· intro w2; go_simp; try with_reducible rfl))
      (try simp only [Act.put, List.setIfInBounds_toArray, List.set_cons_zero, List.set_cons_succ])
      refine Ord.e_strS Try.underlying26 Try.underlying5 Try.underlying9 (fun w' hS => hr4.up (show Below _ w4 w' from hS)) hS hS.size rfl (by kernel_rfl) ?_
      (try simp only [Act.put, List.setIfInBounds_toArray, List.set_cons_zero, List.set_cons_succ])
      ((with_reducible refine Ord.e_p (v := ?_) ?_ ?_ ?_ ?_); rotate_left; (· exact rfl); (· kernel_rfl); (· intro w2; go_simp; try with_reducible rfl))
      (try simp only [Act.put, List.setIfInBounds_toArray, List.set_cons_zero, List.set_cons_succ])
      ((with_reducible refine Ord.e_p (v := ?_) ?_ ?_ ?_ ?_); rotate_left; (· exact rfl); (· kernel_rfl); (· intro w2; go_simp; try with_reducible rfl))
      (try simp only [Act.put, List.setIfInBounds_toArray, List.set_cons_zero, List.set_cons_succ])
      ((with_reducible refine Ord.e_p (v := ?_) ?_ ?_ ?_ ?_); rotate_left; (· exact rfl); (· kernel_rfl); (· intro w2; go_simp; try with_reducible rfl))
      (try simp only [Act.put, List.setIfInBounds_toArray, List.set_cons_zero, List.set_cons_succ])
      refine Ord.e_x rfl (by kernel_rfl) ?_
      go_wp2_with fail
      go_fit (num35_any (pE : Int) wd)
      rintro e we ⟨rfl, rfl⟩
      go_wp2_with fail
      refine Ord.Seg.go hS (fun h => by cases h) ?_
      (try simp only [Act.put, List.setIfInBounds_toArray, List.set_cons_zero, List.set_cons_succ])
      ((with_reducible refine Ord.e_p (v := ?_) ?_ ?_ ?_ ?_); rotate_left; (· exact rfl); (· kernel_rfl); (· intro w2; go_simp; try with_reducible rfl))
      (try simp only [Act.put, List.setIfInBounds_toArray, List.set_cons_zero, List.set_cons_succ])
      refine Ord.e_x rfl (by kernel_rfl) ?_
      go_wp2_with fail
      go_fit (num35_any (pE : Int) wd)
      rintro e we ⟨rfl, rfl⟩
      go_wp2_with fail
      refine Ord.Seg.go hS (fun h => by cases h) ?_
      (try simp only [Act.put, List.setIfInBounds_toArray, List.set_cons_zero, List.set_cons_succ])
      ((with_reducible refine Ord.e_p (v := ?_) ?_ ?_ ?_ ?_); rotate_left; (· exact rfl); (· kernel_rfl); (· intro w2; go_simp; try with_reducible rfl))
      (try simp only [Act.put, List.setIfInBounds_toArray, List.set_cons_zero, List.set_cons_succ])
      ((with_reducible refine Ord.e_p (v := ?_) ?_ ?_ ?_ ?_); rotate_left; (· exact rfl); (· kernel_rfl); (· intro w2; go_simp; try with_reducible rfl))
      (try simp only [Act.put, List.setIfInBounds_toArray, List.set_cons_zero, List.set_cons_succ])
      ((with_reducible refine Ord.e_p (v := ?_) ?_ ?_ ?_ ?_); rotate_left; (· exact rfl); (· kernel_rfl); (· intro w2; go_simp; try with_reducible rfl))
      (try simp only [Act.put, List.setIfInBounds_toArray, List.set_cons_zero, List.set_cons_succ])
      ((with_reducible refine Ord.e_p (v := ?_) ?_ ?_ ?_ ?_); rotate_left; (· exact rfl); (· kernel_rfl); (· intro w2; go_simp; try with_reducible rfl))
      (try simp only [Act.put, List.setIfInBounds_toArray, List.set_cons_zero, List.set_cons_succ])
      refine Ord.e_loadS Try.underlying39 rfl (fun w' hS => ((show Below _ w4 w' from hS).cell (p := ⟨w.heap.size, 1, none⟩) (by show w.heap.size < _; omega)).trans C1.out) hS rfl (by kernel_rfl) ?_
      (try simp only [Act.put, List.setIfInBounds_toArray, List.set_cons_zero, List.set_cons_succ])
      refine Ord.e_x rfl (by kernel_rfl) ?_
      go_wp2_with fail
      go_fit (Hsz.out wd (h.up (bnx hb hS)) (bnx hb hS).size)
      rintro e we ⟨rfl, hbx⟩
      replace hS := bnx hS hbx
      go_wp2_with fail
      refine Ord.Seg.go hS (fun h => by cases h) ?_
      (try simp only [Act.put, List.setIfInBounds_toArray, List.set_cons_zero, List.set_cons_succ])
      clear hbx
      ((with_reducible refine Ord.e_p (v := ?_) ?_ ?_ ?_ ?_); rotate_left; (· exact rfl); (· kernel_rfl); (· intro w2; go_simp; try with_reducible rfl))
      (try simp only [Act.put, List.setIfInBounds_toArray, List.set_cons_zero, List.set_cons_succ])
      refine Ord.e_loadS Try.underlying39 rfl (fun w' hS => ((show Below _ w4 w' from hS).cell (p := ⟨w.heap.size, 1, none⟩) (by show w.heap.size < _; omega)).trans C1.out) hS rfl (by kernel_rfl) ?_
      (try simp only [Act.put, List.setIfInBounds_toArray, List.set_cons_zero, List.set_cons_succ])
      refine Ord.e_x rfl (by kernel_rfl) ?_
      go_wp2_with fail
      go_fit (Hqsz.out we (h.up (bnx hb hS)) (bnx hb hS).size)
      rintro e wf ⟨rfl, hbx⟩
      replace hS := bnx hS hbx
      go_wp2_with fail
      refine Ord.Seg.go hS (fun h => by cases h) ?_
      (try simp only [Act.put, List.setIfInBounds_toArray, List.set_cons_zero, List.set_cons_succ])
      clear hbx
      ((with_reducible refine Ord.e_p (v := ?_) ?_ ?_ ?_ ?_); rotate_left; (· exact rfl); (· kernel_rfl); (· intro w2; go_simp; try with_reducible rfl))
      (try simp only [Act.put, List.setIfInBounds_toArray, List.set_cons_zero, List.set_cons_succ])
      ((with_reducible refine Ord.e_p (v := ?_) ?_ ?_ ?_ ?_); rotate_left; (· exact rfl); (· kernel_rfl); (· intro w2; go_simp; try with_reducible rfl))
      (try simp only [Act.put, List.setIfInBounds_toArray, List.set_cons_zero, List.set_cons_succ])
      ((with_reducible refine Ord.e_p (v := ?_) ?_ ?_ ?_ ?_); rotate_left; (· exact rfl); (· kernel_rfl); (· intro w2; go_simp; try with_reducible rfl))
      (try simp only [Act.put, List.setIfInBounds_toArray, List.set_cons_zero, List.set_cons_succ])
      refine Ord.e_nil ?_
      go_wp2
      go_ret
      exact ⟨rfl, bnx hb hS⟩

end Go.Proofs.Ytplgcfjcdjlnbaa
