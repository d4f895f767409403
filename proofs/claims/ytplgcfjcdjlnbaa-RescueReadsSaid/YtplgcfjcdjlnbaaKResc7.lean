/-
  RescueReads walked (printed by gen_resc7.py).
-/
import Derived.Test.YtplgcfjcdjlnbaaKGU
import Derived.Test.YtplgcfjcdjlnbaaKGR
set_option linter.unusedSimpArgs false
set_option linter.unusedVariables false
namespace Go.Proofs.Ytplgcfjcdjlnbaa
open Go.RowKit NumLaw CrcLaw
attribute [local go_sem] Addr.add_mid

set_option maxRecDepth 10000 in
set_option maxHeartbeats 8000000 in
theorem rescuereads_any (A : Option Addr) (n c : Nat) (l : List UInt8) (no : Nat) (A' : Option Addr) (n' c' : Nat) (L : List En) (w : World) (h : Rd w w.heap.size 1 A n c (bv l)) (hx : RdE w w.heap.size A' n' c' L) (hno : no < 4294967296) (hq : ∀ x ∈ L, EnQ x) :
    Calls Try.prog 15 #[.slice A n c, .agg #[.int .u32 (no : Int), .slice A' n' c']] w fun e w' => e = .returned (.bool true) ∧ Below w.heap.size w w' := by
  have hle := h.le
  have hmx := h.max
  unfold maxLen at hmx
  have hle' := hx.2.2.1
  have hmx' := hx.2.2.2.1
  unfold maxLen at hmx'
  have hb1 : Below w.heap.size w (w.alloc (.cells #[.int .u32 (no : Int), .slice A' n' c'] 41)) := (Below.refl _ _).alloc (Nat.le_refl _) _
  have hbox := heap_alloc_new w (.cells #[.int .u32 (no : Int), .slice A' n' c'] 41)
  have c1 := blk_cell (i := 1) (v := .slice A' n' c') hbox rfl
  by_cases hn : 4096 < n
  · have hn' : (4096 : Int) < (n : Int) := by omega
    go_enter Try.func15, Try.ntmps15
    go_wp2_with fail
    go_fit (knows37 _)
    rintro e w1 ⟨rfl, hbx⟩
    have hb2 := bnx hb1 hbx
    go_wp2
    go_ret
    exact ⟨rfl, hb2⟩
  have hn' : ¬ (4096 : Int) < (n : Int) := by omega
  by_cases hm : 100 < n'
  · have hm' : (100 : Int) < (n' : Int) := by omega
    go_enter Try.func15, Try.ntmps15
    go_wp2_with fail
    go_fit (knows37 _)
    rintro e w1 ⟨rfl, hbx⟩
    have hb2 := bnx hb1 hbx
    go_wp2
    go_ret
    exact ⟨rfl, hb2⟩
  have hm' : ¬ (100 : Int) < (n' : Int) := by omega
  go_enter Try.func15, Try.ntmps15
  go_wp2_with fail
  generalize (w.alloc (.cells #[.int .u32 (no : Int), .slice A' n' c'] 41)) = w1 at *
  go_fit (knows37 w1)
  rintro e w2 ⟨rfl, hbx⟩
  have hbox2 := blk_old hbox hbx (blk_lt hbox)
  have hb2 := bnx hb1 hbx
  clear hbox hb1 hbx c1 w1
  go_wp2_with fail
  go_fit (read37_any A n c w.heap.size l w2 (h.up hb2) hb2.size (by omega))
  unfold RetRd
  rintro e w3 ⟨A1, n1, c1, A2, n2, c2, rfl, hr1, hi1, hbx⟩
  have hbox3 := blk_old hbox2 hbx (blk_lt hbox2)
  have hb3 := bnx hb2 hbx
  clear hbox2 hb2 hbx w2
  go_wp2_with fail
  go_fit (qread37_any A n c w.heap.size l w3 (h.up hb3) hb3.size (by omega))
  unfold RetRd
  rintro e w4 ⟨A3, n3, c3, A4, n4, c4, rfl, hr3, hi3, hbx⟩
  have hr1' : RdC _ _ A1 n1 c1 _ := RdR.nx hr1 hbx
  have hi1' : RdI _ _ A2 n2 c2 _ := RdR.nx hi1 hbx
  have hbox4 := blk_old hbox3 hbx (blk_lt hbox3)
  have hb4 := bnx hb3 hbx
  have hgl := blk_lt hbox4
  have Hbox := Lib.hid (show w4.rangeAt w.heap.size 0 [.int .u32 (no : Int), .slice A' n' c'] from own_range hbox4 0 (fun j v hv => by rw [Nat.zero_add]; simpa using hv))
  clear hbox3 hb3 hbx hr1 hi1 w3 hbox4
  generalize readS l (n / 256) = RS at *
  have hx4 : RdE w4 w.heap.size A' n' c' L := RdR.up hx hb4
  clear hx
  go_wp2_with fail
  refine Ord.region_ (fun w' => Below w4.heap.size w4 w') true [] (by kernel_rfl) (by kernel_rfl) (Below.refl _ _).drew ?_
  have hS : Below w4.heap.size w4 w4.drew := (Below.refl _ _).drew
  generalize w4.drew = v0 at *
  ((with_reducible refine Ord.e_p (v := ?_) ?_ ?_ ?_ ?_); rotate_left; (· exact rfl); (· kernel_rfl); (· intro w2; go_simp; try with_reducible rfl))
  (try simp only [Act.put, List.setIfInBounds_toArray, List.set_cons_zero, List.set_cons_succ])
  ((with_reducible refine Ord.e_p (v := ?_) ?_ ?_ ?_ ?_); rotate_left; (· exact rfl); (· kernel_rfl); (· intro w2; go_simp; try with_reducible rfl))
  (try simp only [Act.put, List.setIfInBounds_toArray, List.set_cons_zero, List.set_cons_succ])
  refine Ord.e_x rfl (by kernel_rfl) ?_
  go_wp2_with fail
  go_fit (recs37_any A1 n1 c1 A3 n3 c3 RS.1 RS.1 w4.heap.size v0 (RdR.up hr1' hS) (RdR.up hr3 hS) hS.size)
  rintro e v1 ⟨rfl, hbx⟩
  rw [show decide (RS.1 = RS.1) = true from decide_eq_true rfl]
  go_wp2_with fail
  refine Ord.Seg.go (show Below w4.heap.size w4 _ from bnx hS hbx) (fun _ => hbx) ?_
  (try simp only [Act.put, List.setIfInBounds_toArray, List.set_cons_zero, List.set_cons_succ])
  replace hS := bnx hS hbx
  clear hbx
  ((with_reducible refine Ord.e_p (v := ?_) ?_ ?_ ?_ ?_); rotate_left; (· exact rfl); (· kernel_rfl); (· intro w2; go_simp; try with_reducible rfl))
  (try simp only [Act.put, List.setIfInBounds_toArray, List.set_cons_zero, List.set_cons_succ])
  ((with_reducible refine Ord.e_p (v := ?_) ?_ ?_ ?_ ?_); rotate_left; (· exact rfl); (· kernel_rfl); (· intro w2; go_simp; try with_reducible rfl))
  (try simp only [Act.put, List.setIfInBounds_toArray, List.set_cons_zero, List.set_cons_succ])
  ((with_reducible refine Ord.e_p (v := ?_) ?_ ?_ ?_ ?_); rotate_left; (· exact rfl); (· kernel_rfl); (· intro w2; go_simp; try with_reducible rfl))
  (try simp only [Act.put, List.setIfInBounds_toArray, List.set_cons_zero, List.set_cons_succ])
  refine Ord.e_x rfl (by kernel_rfl) ?_
  go_wp2_with fail
  go_fit (ints37_any A2 n2 c2 A4 n4 c4 RS.2 RS.2 w4.heap.size v1 (RdR.up hi1' hS) (RdR.up hi3 hS) hS.size)
  rintro e v2 ⟨rfl, hbx⟩
  rw [show decide (RS.2 = RS.2) = true from decide_eq_true rfl]
  go_wp2_with fail
  refine Ord.Seg.go (show Below w4.heap.size w4 _ from bnx hS hbx) (fun _ => hbx) ?_
  (try simp only [Act.put, List.setIfInBounds_toArray, List.set_cons_zero, List.set_cons_succ])
  replace hS := bnx hS hbx
  clear hbx
  ((with_reducible refine Ord.e_p (v := ?_) ?_ ?_ ?_ ?_); rotate_left; (· exact rfl); (· kernel_rfl); (· intro w2; go_simp; try with_reducible rfl))
  (try simp only [Act.put, List.setIfInBounds_toArray, List.set_cons_zero, List.set_cons_succ])
  ((with_reducible refine Ord.e_p (v := ?_) ?_ ?_ ?_ ?_); rotate_left; (· exact rfl); (· kernel_rfl); (· intro w2; go_simp; try with_reducible rfl))
  (try simp only [Act.put, List.setIfInBounds_toArray, List.set_cons_zero, List.set_cons_succ])
  refine Ord.e_rowS (cs := [.int .u32 (no : Int), .slice A' n' c']) (b := w.heap.size) (o := 0) Try.underlying41 rfl (by kernel_rfl) rfl (by simp) (fun w' hS j v hv => ((show Below _ w4 w' from hS).cell (p := ⟨w.heap.size, 0 + j, none⟩) (by show w.heap.size < _; omega)).trans (Hbox.out j v hv)) hS (by kernel_rfl) ?_
  (try simp only [Act.put, List.setIfInBounds_toArray, List.set_cons_zero, List.set_cons_succ])
  have hx5 := RdR.up hx4 (hS.mono hb4.size)
  refine Ord.e_x rfl (by kernel_rfl) ?_
  go_wp2_with fail
  go_fit (records_any no A' n' c' w.heap.size L v2 hx5 (Nat.le_trans hb4.size hS.size) (by omega))
  unfold RetRs
  rintro e v3 ⟨A5, n5, c5, rfl, hn5, own5, hbx⟩
  replace hn5 := Lib.hid hn5
  go_wp2_with fail
  refine Ord.Seg.go (show Below w4.heap.size w4 _ from bnx hS hbx) (fun _ => hbx) ?_
  (try simp only [Act.put, List.setIfInBounds_toArray, List.set_cons_zero, List.set_cons_succ])
  replace hS := bnx hS hbx
  have h12 : ∀ p ∈ L.map recE, p.2.length = 12 := fun p hp => by obtain ⟨x, hx, rfl⟩ := List.mem_map.1 hp; exact RdE.v12 hx4 x hx
  have hrc5 := RdC.own own5 hn5.out.symm h12
  clear hbx hx5 own5 hn5
  refine Ord.e_rowS (cs := [.int .u32 (no : Int), .slice A' n' c']) (b := w.heap.size) (o := 0) Try.underlying41 rfl (by kernel_rfl) rfl (by simp) (fun w' hS j v hv => ((show Below _ w4 w' from hS).cell (p := ⟨w.heap.size, 0 + j, none⟩) (by show w.heap.size < _; omega)).trans (Hbox.out j v hv)) hS (by kernel_rfl) ?_
  (try simp only [Act.put, List.setIfInBounds_toArray, List.set_cons_zero, List.set_cons_succ])
  have hx6 := RdR.up hx4 (hS.mono hb4.size)
  refine Ord.e_x rfl (by kernel_rfl) ?_
  go_wp2_with fail
  go_fit (qrecords_any no A' n' c' w.heap.size L v3 hx6 (Nat.le_trans hb4.size hS.size) (by omega))
  unfold RetRs
  rintro e v4 ⟨A6, n6, c6, rfl, hn6, own6, hbx⟩
  replace hn6 := Lib.hid hn6
  go_wp2_with fail
  refine Ord.Seg.go (show Below w4.heap.size w4 _ from bnx hS hbx) (fun _ => hbx) ?_
  (try simp only [Act.put, List.setIfInBounds_toArray, List.set_cons_zero, List.set_cons_succ])
  replace hS := bnx hS hbx
  have hrc6 := RdC.own own6 hn6.out.symm h12
  have hrc7 : RdC _ _ A5 n5 c5 _ := RdR.nx hrc5 hbx
  clear hbx hx6 own6 hrc5 hn6
  refine Ord.e_x rfl (by kernel_rfl) ?_
  go_wp2_with fail
  go_fit (recs37_any A5 n5 c5 A6 n6 c6 (L.map recE) (L.map recE) v4.heap.size v4 hrc7 hrc6 (Nat.le_refl _))
  rintro e v5 ⟨rfl, hbx⟩
  rw [show decide (L.map recE = L.map recE) = true from decide_eq_true rfl]
  go_wp2_with fail
  refine Ord.Seg.go (show Below w4.heap.size w4 _ from bnx hS hbx) (fun _ => hbx) ?_
  (try simp only [Act.put, List.setIfInBounds_toArray, List.set_cons_zero, List.set_cons_succ])
  replace hS := bnx hS hbx
  clear hbx
  ((with_reducible refine Ord.e_p (v := ?_) ?_ ?_ ?_ ?_); rotate_left; (· exact rfl); (· kernel_rfl); (· intro w2; go_simp; try with_reducible rfl))
  (try simp only [Act.put, List.setIfInBounds_toArray, List.set_cons_zero, List.set_cons_succ])
  ((with_reducible refine Ord.e_p (v := ?_) ?_ ?_ ?_ ?_); rotate_left; (· exact rfl); (· kernel_rfl); (· intro w2; go_simp; try with_reducible rfl))
  (try simp only [Act.put, List.setIfInBounds_toArray, List.set_cons_zero, List.set_cons_succ])
  refine Ord.e_nil ?_
  have hbf := bnx hb4 hS
  go_wp2
  go_ret
  exact ⟨rfl, hbf⟩

end Go.Proofs.Ytplgcfjcdjlnbaa
