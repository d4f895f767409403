/-
  RecPuts and RecSize walked; knows, num of layer 34's law.
-/
import Derived.Test.YtplgcfjcdjlnbaaRec4
set_option linter.unusedSimpArgs false
set_option linter.unusedVariables false
namespace Go.Proofs.Ytplgcfjcdjlnbaa
open Go.RowKit NumLaw
attribute [local go_sem] Addr.add_mid

theorem num34_any (n : Int) (w : World) : Calls Try.prog 30 #[.int .i64 n] w fun e w' => e = .returned (.int .i64 n) ∧ w = w' := by
  go_enter Try.func30, Try.ntmps30
  go_wp2
  go_ret
  exact ⟨rfl, rfl⟩
def z12 : List Int := List.replicate 12 0
theorem z12_32 : ∀ x ∈ z12, in32 x := fun x hx => by
  rw [(List.mem_replicate.1 hx).2]
  unfold in32
  omega
theorem rcC_zero (t : Nat) : (rcC t z12).toArray = #[.int .u32 t, .int .i32 0, .int .i32 0, .int .i32 0, .int .i32 0, .int .i32 0, .int .i32 0, .int .i32 0, .int .i32 0, .int .i32 0, .int .i32 0, .int .i32 0, .int .i32 0] := rfl
theorem recK_len (t : Nat) (V : List Int) (hV : V.length = 12) : (recK t V).length = 52 := by
  have : ∀ l : List Int, (l.flatMap fun x => bytesN 4 (un x)).length = 4 * l.length := by
    intro l
    induction l with
    | nil => rfl
    | cons x l ih => rw [List.flatMap_cons, List.length_append, ih, bytesN_len, List.length_cons]; omega
  unfold recK
  rw [List.length_append, bytesN_len, this, hV]
set_option maxRecDepth 10000 in
set_option maxHeartbeats 2000000 in
theorem knows34 (w : World) : Calls Try.prog 25 #[] w fun e w' => e = .returned (.bool true) ∧ Below w.heap.size w w' := by
  have hbox : RcB (w.alloc (.cells (rcC 5 z12).toArray 25)) w.heap.size 5 z12 := heap_alloc_new w _
  have hb : Below w.heap.size w (w.alloc (.cells (rcC 5 z12).toArray 25)) := (Below.refl _ _).alloc (Nat.le_refl _) _
  have hd := fun w => recDelta_any 5 z12 5 z12 w (by omega) rfl z12_32 (by omega) rfl z12_32
  rw [show recD 5 z12 5 z12 = [0, 0] by decide] at hd
  have hk := fun w => recKey_any 5 z12 w (by omega) rfl z12_32
  have hkl := recK_len 5 z12 rfl
  generalize recK 5 z12 = K at *
  have Hkl := Lib.hid hkl
  clear hkl
  rw [rcC_zero] at hbox hb
  go_enter Try.func25, Try.ntmps25
  go_wp2_with fail
  rw [show (5 : Int) = ((5 : Nat) : Int) from rfl, ← rcC_zero] at *
  generalize (w.alloc (.cells (rcC 5 z12).toArray 25)) = w1 at *
  refine Ord.region_m [2, 3, 4, 5] [[0, 1, 2, 3, 4, 5, 6, 7, 8, 9, 10, 11, 12, 13], [0, 1, 2, 4, 3, 5, 6, 7, 8, 9, 10, 11, 12, 13], [0, 1, 2, 4, 5, 3, 6, 7, 8, 9, 10, 11, 12, 13], [0, 1, 4, 2, 3, 5, 6, 7, 8, 9, 10, 11, 12, 13], [0, 1, 4, 2, 5, 3, 6, 7, 8, 9, 10, 11, 12, 13], [0, 1, 4, 5, 2, 3, 6, 7, 8, 9, 10, 11, 12, 13]] (fun w' => RcB w' w.heap.size 5 z12) true [6, 8] (by kernel_rfl) (by kernel_rfl) hbox ?_
  have hS : RcB w1.drew w.heap.size 5 z12 := hbox
  replace hb := hb.drew
  generalize w1.drew = x0 at *
  clear hbox w1
  intro L hL
  simp only [List.mem_cons, List.not_mem_nil, or_false] at hL
  rcases hL with rfl | rfl | rfl | rfl | rfl | rfl
  · simp only [Ord.lst, List.filterMap_cons, List.filterMap_nil, List.getElem?_toArray, List.getElem?_cons_succ, List.getElem?_cons_zero]
    refine Ord.e_rowS Try.underlying25 rfl (by kernel_rfl) rfl (by intro e; cases e) (fun w' hS => (show RcB w' w.heap.size 5 z12 from hS).all) hS (by kernel_rfl) ?_
    (try simp only [Act.put, List.setIfInBounds_toArray, List.set_cons_zero, List.set_cons_succ])
    refine Ord.e_rowS Try.underlying25 rfl (by kernel_rfl) rfl (by intro e; cases e) (fun w' hS => (show RcB w' w.heap.size 5 z12 from hS).all) hS (by kernel_rfl) ?_
    (try simp only [Act.put, List.setIfInBounds_toArray, List.set_cons_zero, List.set_cons_succ])
    refine Ord.e_x rfl (by kernel_rfl) ?_
    go_wp2_with fail
    go_fit (hd x0)
    rintro e x1 ⟨A5, c5, n5, rfl, own5, hbx⟩
    replace hb := bnx hb hbx
    replace hS : RcB _ w.heap.size 5 z12 := (hbx.block _ (blk_lt hS)).trans hS
    go_wp2_with fail
    refine Ord.Seg.go hS (fun _ => hbx) ?_
    (try simp only [Act.put, List.setIfInBounds_toArray, List.set_cons_zero, List.set_cons_succ])
    have r5 := Rd.own own5
    clear own5 hbx
    refine Ord.e_str Try.underlying26 Try.underlying5 Try.underlying9 r5 rfl (by kernel_rfl) (by kernel_rfl) ?_
    (try simp only [Act.put, List.setIfInBounds_toArray, List.set_cons_zero, List.set_cons_succ])
    clear r5
    refine Ord.e_x rfl (by kernel_rfl) ?_
    go_wp2
    have r7 : Rd (x1.alloc (.cells #[.int .u8 0, .int .u8 0] 5)) (x1.heap.size + 1) 1 (some ⟨x1.heap.size, 0, none⟩) 2 2 (bv [0, 0]) := rd_const x1 5 [0, 0] (0, 0) (by simp [maxLen])
    have hbx : Below x1.heap.size x1 (x1.alloc (.cells #[.int .u8 0, .int .u8 0] 5)) := (Below.refl _ _).alloc (Nat.le_refl _) _
    have hsx : (x1.alloc (.cells #[.int .u8 0, .int .u8 0] 5)).heap.size = x1.heap.size + 1 := World.size_alloc _ _
    rw [← hsx] at r7
    replace hb := bnx hb hbx
    replace hS : RcB _ w.heap.size 5 z12 := (hbx.block _ (blk_lt hS)).trans hS
    refine Ord.Seg.go hS (fun _ => hbx) ?_
    (try simp only [Act.put, List.setIfInBounds_toArray, List.set_cons_zero, List.set_cons_succ])
    have Hsx := Lib.hid hsx
    clear hsx hbx
    generalize (x1.alloc (.cells #[.int .u8 0, .int .u8 0] 5)) = x2 at *
    refine Ord.e_str Try.underlying26 Try.underlying5 Try.underlying9 r7 rfl (by kernel_rfl) (by kernel_rfl) ?_
    (try simp only [Act.put, List.setIfInBounds_toArray, List.set_cons_zero, List.set_cons_succ])
    clear r7
    ((with_reducible refine Ord.e_p (v := ?_) ?_ ?_ ?_ ?_); rotate_left; (· exact rfl); (· kernel_rfl); (· intro w2; go_simp; try with_reducible rfl))
    (try simp only [Act.put, List.setIfInBounds_toArray, List.set_cons_zero, List.set_cons_succ])
    ((with_reducible refine Ord.e_p (v := ?_) ?_ ?_ ?_ ?_); rotate_left; (· exact rfl); (· kernel_rfl); (· intro w2; go_simp; try with_reducible rfl))
    (try simp only [Act.put, List.setIfInBounds_toArray, List.set_cons_zero, List.set_cons_succ])
    refine Ord.e_rowS Try.underlying25 rfl (by kernel_rfl) rfl (by intro e; cases e) (fun w' hS => (show RcB w' w.heap.size 5 z12 from hS).all) hS (by kernel_rfl) ?_
    (try simp only [Act.put, List.setIfInBounds_toArray, List.set_cons_zero, List.set_cons_succ])
    refine Ord.e_x rfl (by kernel_rfl) ?_
    go_wp2_with fail
    go_fit (hk x2)
    rintro e x3 ⟨A9, c9, n9, rfl, own9, hbx9⟩
    replace hb := bnx hb hbx9
    replace hS : RcB _ w.heap.size 5 z12 := (hbx9.block _ (blk_lt hS)).trans hS
    have hl9 := own_len own9
    rw [Hkl.out] at hl9
    subst hl9
    go_wp2_with fail
    refine Ord.Seg.go hS (fun _ => hbx9) ?_
    (try simp only [Act.put, List.setIfInBounds_toArray, List.set_cons_zero, List.set_cons_succ])
    ((with_reducible refine Ord.e_p (v := ?_) ?_ ?_ ?_ ?_); rotate_left; (· exact rfl); (· kernel_rfl); (· intro w2; go_simp; try with_reducible rfl))
    (try simp only [Act.put, List.setIfInBounds_toArray, List.set_cons_zero, List.set_cons_succ])
    ((with_reducible refine Ord.e_p (v := ?_) ?_ ?_ ?_ ?_); rotate_left; (· exact rfl); (· kernel_rfl); (· intro w2; go_simp; try with_reducible rfl))
    (try simp only [Act.put, List.setIfInBounds_toArray, List.set_cons_zero, List.set_cons_succ])
    ((with_reducible refine Ord.e_p (v := ?_) ?_ ?_ ?_ ?_); rotate_left; (· exact rfl); (· kernel_rfl); (· intro w2; go_simp; try with_reducible rfl))
    (try simp only [Act.put, List.setIfInBounds_toArray, List.set_cons_zero, List.set_cons_succ])
    ((with_reducible refine Ord.e_p (v := ?_) ?_ ?_ ?_ ?_); rotate_left; (· exact rfl); (· kernel_rfl); (· intro w2; go_simp; try with_reducible rfl))
    (try simp only [Act.put, List.setIfInBounds_toArray, List.set_cons_zero, List.set_cons_succ])
    refine Ord.e_nil ?_
    go_wp2
    go_ret
    exact ⟨rfl, hb⟩
  · simp only [Ord.lst, List.filterMap_cons, List.filterMap_nil, List.getElem?_toArray, List.getElem?_cons_succ, List.getElem?_cons_zero]
    refine Ord.e_rowS Try.underlying25 rfl (by kernel_rfl) rfl (by intro e; cases e) (fun w' hS => (show RcB w' w.heap.size 5 z12 from hS).all) hS (by kernel_rfl) ?_
    (try simp only [Act.put, List.setIfInBounds_toArray, List.set_cons_zero, List.set_cons_succ])
    refine Ord.e_rowS Try.underlying25 rfl (by kernel_rfl) rfl (by intro e; cases e) (fun w' hS => (show RcB w' w.heap.size 5 z12 from hS).all) hS (by kernel_rfl) ?_
    (try simp only [Act.put, List.setIfInBounds_toArray, List.set_cons_zero, List.set_cons_succ])
    refine Ord.e_x rfl (by kernel_rfl) ?_
    go_wp2_with fail
    go_fit (hd x0)
    rintro e x1 ⟨A5, c5, n5, rfl, own5, hbx⟩
    replace hb := bnx hb hbx
    replace hS : RcB _ w.heap.size 5 z12 := (hbx.block _ (blk_lt hS)).trans hS
    go_wp2_with fail
    refine Ord.Seg.go hS (fun _ => hbx) ?_
    (try simp only [Act.put, List.setIfInBounds_toArray, List.set_cons_zero, List.set_cons_succ])
    have r5 := Rd.own own5
    clear own5 hbx
    refine Ord.e_x rfl (by kernel_rfl) ?_
    go_wp2
    have r7 : Rd (x1.alloc (.cells #[.int .u8 0, .int .u8 0] 5)) (x1.heap.size + 1) 1 (some ⟨x1.heap.size, 0, none⟩) 2 2 (bv [0, 0]) := rd_const x1 5 [0, 0] (0, 0) (by simp [maxLen])
    have hbx : Below x1.heap.size x1 (x1.alloc (.cells #[.int .u8 0, .int .u8 0] 5)) := (Below.refl _ _).alloc (Nat.le_refl _) _
    have hsx : (x1.alloc (.cells #[.int .u8 0, .int .u8 0] 5)).heap.size = x1.heap.size + 1 := World.size_alloc _ _
    rw [← hsx] at r7
    replace hb := bnx hb hbx
    replace hS : RcB _ w.heap.size 5 z12 := (hbx.block _ (blk_lt hS)).trans hS
    replace r5 := r5.nx hbx
    refine Ord.Seg.go hS (fun _ => hbx) ?_
    (try simp only [Act.put, List.setIfInBounds_toArray, List.set_cons_zero, List.set_cons_succ])
    have Hsx := Lib.hid hsx
    clear hsx hbx
    generalize (x1.alloc (.cells #[.int .u8 0, .int .u8 0] 5)) = x2 at *
    refine Ord.e_str Try.underlying26 Try.underlying5 Try.underlying9 r5 rfl (by kernel_rfl) (by kernel_rfl) ?_
    (try simp only [Act.put, List.setIfInBounds_toArray, List.set_cons_zero, List.set_cons_succ])
    clear r5
    refine Ord.e_str Try.underlying26 Try.underlying5 Try.underlying9 r7 rfl (by kernel_rfl) (by kernel_rfl) ?_
    (try simp only [Act.put, List.setIfInBounds_toArray, List.set_cons_zero, List.set_cons_succ])
    clear r7
    ((with_reducible refine Ord.e_p (v := ?_) ?_ ?_ ?_ ?_); rotate_left; (· exact rfl); (· kernel_rfl); (· intro w2; go_simp; try with_reducible rfl))
    (try simp only [Act.put, List.setIfInBounds_toArray, List.set_cons_zero, List.set_cons_succ])
    ((with_reducible refine Ord.e_p (v := ?_) ?_ ?_ ?_ ?_); rotate_left; (· exact rfl); (· kernel_rfl); (· intro w2; go_simp; try with_reducible rfl))
    (try simp only [Act.put, List.setIfInBounds_toArray, List.set_cons_zero, List.set_cons_succ])
    refine Ord.e_rowS Try.underlying25 rfl (by kernel_rfl) rfl (by intro e; cases e) (fun w' hS => (show RcB w' w.heap.size 5 z12 from hS).all) hS (by kernel_rfl) ?_
    (try simp only [Act.put, List.setIfInBounds_toArray, List.set_cons_zero, List.set_cons_succ])
    refine Ord.e_x rfl (by kernel_rfl) ?_
    go_wp2_with fail
    go_fit (hk x2)
    rintro e x3 ⟨A9, c9, n9, rfl, own9, hbx9⟩
    replace hb := bnx hb hbx9
    replace hS : RcB _ w.heap.size 5 z12 := (hbx9.block _ (blk_lt hS)).trans hS
    have hl9 := own_len own9
    rw [Hkl.out] at hl9
    subst hl9
    go_wp2_with fail
    refine Ord.Seg.go hS (fun _ => hbx9) ?_
    (try simp only [Act.put, List.setIfInBounds_toArray, List.set_cons_zero, List.set_cons_succ])
    ((with_reducible refine Ord.e_p (v := ?_) ?_ ?_ ?_ ?_); rotate_left; (· exact rfl); (· kernel_rfl); (· intro w2; go_simp; try with_reducible rfl))
    (try simp only [Act.put, List.setIfInBounds_toArray, List.set_cons_zero, List.set_cons_succ])
    ((with_reducible refine Ord.e_p (v := ?_) ?_ ?_ ?_ ?_); rotate_left; (· exact rfl); (· kernel_rfl); (· intro w2; go_simp; try with_reducible rfl))
    (try simp only [Act.put, List.setIfInBounds_toArray, List.set_cons_zero, List.set_cons_succ])
    ((with_reducible refine Ord.e_p (v := ?_) ?_ ?_ ?_ ?_); rotate_left; (· exact rfl); (· kernel_rfl); (· intro w2; go_simp; try with_reducible rfl))
    (try simp only [Act.put, List.setIfInBounds_toArray, List.set_cons_zero, List.set_cons_succ])
    ((with_reducible refine Ord.e_p (v := ?_) ?_ ?_ ?_ ?_); rotate_left; (· exact rfl); (· kernel_rfl); (· intro w2; go_simp; try with_reducible rfl))
    (try simp only [Act.put, List.setIfInBounds_toArray, List.set_cons_zero, List.set_cons_succ])
    refine Ord.e_nil ?_
    go_wp2
    go_ret
    exact ⟨rfl, hb⟩
  · simp only [Ord.lst, List.filterMap_cons, List.filterMap_nil, List.getElem?_toArray, List.getElem?_cons_succ, List.getElem?_cons_zero]
    refine Ord.e_rowS Try.underlying25 rfl (by kernel_rfl) rfl (by intro e; cases e) (fun w' hS => (show RcB w' w.heap.size 5 z12 from hS).all) hS (by kernel_rfl) ?_
    (try simp only [Act.put, List.setIfInBounds_toArray, List.set_cons_zero, List.set_cons_succ])
    refine Ord.e_rowS Try.underlying25 rfl (by kernel_rfl) rfl (by intro e; cases e) (fun w' hS => (show RcB w' w.heap.size 5 z12 from hS).all) hS (by kernel_rfl) ?_
    (try simp only [Act.put, List.setIfInBounds_toArray, List.set_cons_zero, List.set_cons_succ])
    refine Ord.e_x rfl (by kernel_rfl) ?_
    go_wp2_with fail
    go_fit (hd x0)
    rintro e x1 ⟨A5, c5, n5, rfl, own5, hbx⟩
    replace hb := bnx hb hbx
    replace hS : RcB _ w.heap.size 5 z12 := (hbx.block _ (blk_lt hS)).trans hS
    go_wp2_with fail
    refine Ord.Seg.go hS (fun _ => hbx) ?_
    (try simp only [Act.put, List.setIfInBounds_toArray, List.set_cons_zero, List.set_cons_succ])
    have r5 := Rd.own own5
    clear own5 hbx
    refine Ord.e_x rfl (by kernel_rfl) ?_
    go_wp2
    have r7 : Rd (x1.alloc (.cells #[.int .u8 0, .int .u8 0] 5)) (x1.heap.size + 1) 1 (some ⟨x1.heap.size, 0, none⟩) 2 2 (bv [0, 0]) := rd_const x1 5 [0, 0] (0, 0) (by simp [maxLen])
    have hbx : Below x1.heap.size x1 (x1.alloc (.cells #[.int .u8 0, .int .u8 0] 5)) := (Below.refl _ _).alloc (Nat.le_refl _) _
    have hsx : (x1.alloc (.cells #[.int .u8 0, .int .u8 0] 5)).heap.size = x1.heap.size + 1 := World.size_alloc _ _
    rw [← hsx] at r7
    replace hb := bnx hb hbx
    replace hS : RcB _ w.heap.size 5 z12 := (hbx.block _ (blk_lt hS)).trans hS
    replace r5 := r5.nx hbx
    refine Ord.Seg.go hS (fun _ => hbx) ?_
    (try simp only [Act.put, List.setIfInBounds_toArray, List.set_cons_zero, List.set_cons_succ])
    have Hsx := Lib.hid hsx
    clear hsx hbx
    generalize (x1.alloc (.cells #[.int .u8 0, .int .u8 0] 5)) = x2 at *
    refine Ord.e_str Try.underlying26 Try.underlying5 Try.underlying9 r7 rfl (by kernel_rfl) (by kernel_rfl) ?_
    (try simp only [Act.put, List.setIfInBounds_toArray, List.set_cons_zero, List.set_cons_succ])
    clear r7
    refine Ord.e_str Try.underlying26 Try.underlying5 Try.underlying9 r5 rfl (by kernel_rfl) (by kernel_rfl) ?_
    (try simp only [Act.put, List.setIfInBounds_toArray, List.set_cons_zero, List.set_cons_succ])
    clear r5
    ((with_reducible refine Ord.e_p (v := ?_) ?_ ?_ ?_ ?_); rotate_left; (· exact rfl); (· kernel_rfl); (· intro w2; go_simp; try with_reducible rfl))
    (try simp only [Act.put, List.setIfInBounds_toArray, List.set_cons_zero, List.set_cons_succ])
    ((with_reducible refine Ord.e_p (v := ?_) ?_ ?_ ?_ ?_); rotate_left; (· exact rfl); (· kernel_rfl); (· intro w2; go_simp; try with_reducible rfl))
    (try simp only [Act.put, List.setIfInBounds_toArray, List.set_cons_zero, List.set_cons_succ])
    refine Ord.e_rowS Try.underlying25 rfl (by kernel_rfl) rfl (by intro e; cases e) (fun w' hS => (show RcB w' w.heap.size 5 z12 from hS).all) hS (by kernel_rfl) ?_
    (try simp only [Act.put, List.setIfInBounds_toArray, List.set_cons_zero, List.set_cons_succ])
    refine Ord.e_x rfl (by kernel_rfl) ?_
    go_wp2_with fail
    go_fit (hk x2)
    rintro e x3 ⟨A9, c9, n9, rfl, own9, hbx9⟩
    replace hb := bnx hb hbx9
    replace hS : RcB _ w.heap.size 5 z12 := (hbx9.block _ (blk_lt hS)).trans hS
    have hl9 := own_len own9
    rw [Hkl.out] at hl9
    subst hl9
    go_wp2_with fail
    refine Ord.Seg.go hS (fun _ => hbx9) ?_
    (try simp only [Act.put, List.setIfInBounds_toArray, List.set_cons_zero, List.set_cons_succ])
    ((with_reducible refine Ord.e_p (v := ?_) ?_ ?_ ?_ ?_); rotate_left; (· exact rfl); (· kernel_rfl); (· intro w2; go_simp; try with_reducible rfl))
    (try simp only [Act.put, List.setIfInBounds_toArray, List.set_cons_zero, List.set_cons_succ])
    ((with_reducible refine Ord.e_p (v := ?_) ?_ ?_ ?_ ?_); rotate_left; (· exact rfl); (· kernel_rfl); (· intro w2; go_simp; try with_reducible rfl))
    (try simp only [Act.put, List.setIfInBounds_toArray, List.set_cons_zero, List.set_cons_succ])
    ((with_reducible refine Ord.e_p (v := ?_) ?_ ?_ ?_ ?_); rotate_left; (· exact rfl); (· kernel_rfl); (· intro w2; go_simp; try with_reducible rfl))
    (try simp only [Act.put, List.setIfInBounds_toArray, List.set_cons_zero, List.set_cons_succ])
    ((with_reducible refine Ord.e_p (v := ?_) ?_ ?_ ?_ ?_); rotate_left; (· exact rfl); (· kernel_rfl); (· intro w2; go_simp; try with_reducible rfl))
    (try simp only [Act.put, List.setIfInBounds_toArray, List.set_cons_zero, List.set_cons_succ])
    refine Ord.e_nil ?_
    go_wp2
    go_ret
    exact ⟨rfl, hb⟩
  · simp only [Ord.lst, List.filterMap_cons, List.filterMap_nil, List.getElem?_toArray, List.getElem?_cons_succ, List.getElem?_cons_zero]
    refine Ord.e_rowS Try.underlying25 rfl (by kernel_rfl) rfl (by intro e; cases e) (fun w' hS => (show RcB w' w.heap.size 5 z12 from hS).all) hS (by kernel_rfl) ?_
    (try simp only [Act.put, List.setIfInBounds_toArray, List.set_cons_zero, List.set_cons_succ])
    refine Ord.e_rowS Try.underlying25 rfl (by kernel_rfl) rfl (by intro e; cases e) (fun w' hS => (show RcB w' w.heap.size 5 z12 from hS).all) hS (by kernel_rfl) ?_
    (try simp only [Act.put, List.setIfInBounds_toArray, List.set_cons_zero, List.set_cons_succ])
    refine Ord.e_x rfl (by kernel_rfl) ?_
    go_wp2
    have r7 : Rd (x0.alloc (.cells #[.int .u8 0, .int .u8 0] 5)) (x0.heap.size + 1) 1 (some ⟨x0.heap.size, 0, none⟩) 2 2 (bv [0, 0]) := rd_const x0 5 [0, 0] (0, 0) (by simp [maxLen])
    have hbx : Below x0.heap.size x0 (x0.alloc (.cells #[.int .u8 0, .int .u8 0] 5)) := (Below.refl _ _).alloc (Nat.le_refl _) _
    have hsx : (x0.alloc (.cells #[.int .u8 0, .int .u8 0] 5)).heap.size = x0.heap.size + 1 := World.size_alloc _ _
    rw [← hsx] at r7
    replace hb := bnx hb hbx
    replace hS : RcB _ w.heap.size 5 z12 := (hbx.block _ (blk_lt hS)).trans hS
    refine Ord.Seg.go hS (fun _ => hbx) ?_
    (try simp only [Act.put, List.setIfInBounds_toArray, List.set_cons_zero, List.set_cons_succ])
    have Hsx := Lib.hid hsx
    clear hsx hbx
    generalize (x0.alloc (.cells #[.int .u8 0, .int .u8 0] 5)) = x1 at *
    refine Ord.e_x rfl (by kernel_rfl) ?_
    go_wp2_with fail
    go_fit (hd x1)
    rintro e x2 ⟨A5, c5, n5, rfl, own5, hbx⟩
    replace hb := bnx hb hbx
    replace hS : RcB _ w.heap.size 5 z12 := (hbx.block _ (blk_lt hS)).trans hS
    replace r7 := r7.nx hbx
    go_wp2_with fail
    refine Ord.Seg.go hS (fun _ => hbx) ?_
    (try simp only [Act.put, List.setIfInBounds_toArray, List.set_cons_zero, List.set_cons_succ])
    have r5 := Rd.own own5
    clear own5 hbx
    refine Ord.e_str Try.underlying26 Try.underlying5 Try.underlying9 r5 rfl (by kernel_rfl) (by kernel_rfl) ?_
    (try simp only [Act.put, List.setIfInBounds_toArray, List.set_cons_zero, List.set_cons_succ])
    clear r5
    refine Ord.e_str Try.underlying26 Try.underlying5 Try.underlying9 r7 rfl (by kernel_rfl) (by kernel_rfl) ?_
    (try simp only [Act.put, List.setIfInBounds_toArray, List.set_cons_zero, List.set_cons_succ])
    clear r7
    ((with_reducible refine Ord.e_p (v := ?_) ?_ ?_ ?_ ?_); rotate_left; (· exact rfl); (· kernel_rfl); (· intro w2; go_simp; try with_reducible rfl))
    (try simp only [Act.put, List.setIfInBounds_toArray, List.set_cons_zero, List.set_cons_succ])
    ((with_reducible refine Ord.e_p (v := ?_) ?_ ?_ ?_ ?_); rotate_left; (· exact rfl); (· kernel_rfl); (· intro w2; go_simp; try with_reducible rfl))
    (try simp only [Act.put, List.setIfInBounds_toArray, List.set_cons_zero, List.set_cons_succ])
    refine Ord.e_rowS Try.underlying25 rfl (by kernel_rfl) rfl (by intro e; cases e) (fun w' hS => (show RcB w' w.heap.size 5 z12 from hS).all) hS (by kernel_rfl) ?_
    (try simp only [Act.put, List.setIfInBounds_toArray, List.set_cons_zero, List.set_cons_succ])
    refine Ord.e_x rfl (by kernel_rfl) ?_
    go_wp2_with fail
    go_fit (hk x2)
    rintro e x3 ⟨A9, c9, n9, rfl, own9, hbx9⟩
    replace hb := bnx hb hbx9
    replace hS : RcB _ w.heap.size 5 z12 := (hbx9.block _ (blk_lt hS)).trans hS
    have hl9 := own_len own9
    rw [Hkl.out] at hl9
    subst hl9
    go_wp2_with fail
    refine Ord.Seg.go hS (fun _ => hbx9) ?_
    (try simp only [Act.put, List.setIfInBounds_toArray, List.set_cons_zero, List.set_cons_succ])
    ((with_reducible refine Ord.e_p (v := ?_) ?_ ?_ ?_ ?_); rotate_left; (· exact rfl); (· kernel_rfl); (· intro w2; go_simp; try with_reducible rfl))
    (try simp only [Act.put, List.setIfInBounds_toArray, List.set_cons_zero, List.set_cons_succ])
    ((with_reducible refine Ord.e_p (v := ?_) ?_ ?_ ?_ ?_); rotate_left; (· exact rfl); (· kernel_rfl); (· intro w2; go_simp; try with_reducible rfl))
    (try simp only [Act.put, List.setIfInBounds_toArray, List.set_cons_zero, List.set_cons_succ])
    ((with_reducible refine Ord.e_p (v := ?_) ?_ ?_ ?_ ?_); rotate_left; (· exact rfl); (· kernel_rfl); (· intro w2; go_simp; try with_reducible rfl))
    (try simp only [Act.put, List.setIfInBounds_toArray, List.set_cons_zero, List.set_cons_succ])
    ((with_reducible refine Ord.e_p (v := ?_) ?_ ?_ ?_ ?_); rotate_left; (· exact rfl); (· kernel_rfl); (· intro w2; go_simp; try with_reducible rfl))
    (try simp only [Act.put, List.setIfInBounds_toArray, List.set_cons_zero, List.set_cons_succ])
    refine Ord.e_nil ?_
    go_wp2
    go_ret
    exact ⟨rfl, hb⟩
  · simp only [Ord.lst, List.filterMap_cons, List.filterMap_nil, List.getElem?_toArray, List.getElem?_cons_succ, List.getElem?_cons_zero]
    refine Ord.e_rowS Try.underlying25 rfl (by kernel_rfl) rfl (by intro e; cases e) (fun w' hS => (show RcB w' w.heap.size 5 z12 from hS).all) hS (by kernel_rfl) ?_
    (try simp only [Act.put, List.setIfInBounds_toArray, List.set_cons_zero, List.set_cons_succ])
    refine Ord.e_rowS Try.underlying25 rfl (by kernel_rfl) rfl (by intro e; cases e) (fun w' hS => (show RcB w' w.heap.size 5 z12 from hS).all) hS (by kernel_rfl) ?_
    (try simp only [Act.put, List.setIfInBounds_toArray, List.set_cons_zero, List.set_cons_succ])
    refine Ord.e_x rfl (by kernel_rfl) ?_
    go_wp2
    have r7 : Rd (x0.alloc (.cells #[.int .u8 0, .int .u8 0] 5)) (x0.heap.size + 1) 1 (some ⟨x0.heap.size, 0, none⟩) 2 2 (bv [0, 0]) := rd_const x0 5 [0, 0] (0, 0) (by simp [maxLen])
    have hbx : Below x0.heap.size x0 (x0.alloc (.cells #[.int .u8 0, .int .u8 0] 5)) := (Below.refl _ _).alloc (Nat.le_refl _) _
    have hsx : (x0.alloc (.cells #[.int .u8 0, .int .u8 0] 5)).heap.size = x0.heap.size + 1 := World.size_alloc _ _
    rw [← hsx] at r7
    replace hb := bnx hb hbx
    replace hS : RcB _ w.heap.size 5 z12 := (hbx.block _ (blk_lt hS)).trans hS
    refine Ord.Seg.go hS (fun _ => hbx) ?_
    (try simp only [Act.put, List.setIfInBounds_toArray, List.set_cons_zero, List.set_cons_succ])
    have Hsx := Lib.hid hsx
    clear hsx hbx
    generalize (x0.alloc (.cells #[.int .u8 0, .int .u8 0] 5)) = x1 at *
    refine Ord.e_x rfl (by kernel_rfl) ?_
    go_wp2_with fail
    go_fit (hd x1)
    rintro e x2 ⟨A5, c5, n5, rfl, own5, hbx⟩
    replace hb := bnx hb hbx
    replace hS : RcB _ w.heap.size 5 z12 := (hbx.block _ (blk_lt hS)).trans hS
    replace r7 := r7.nx hbx
    go_wp2_with fail
    refine Ord.Seg.go hS (fun _ => hbx) ?_
    (try simp only [Act.put, List.setIfInBounds_toArray, List.set_cons_zero, List.set_cons_succ])
    have r5 := Rd.own own5
    clear own5 hbx
    refine Ord.e_str Try.underlying26 Try.underlying5 Try.underlying9 r7 rfl (by kernel_rfl) (by kernel_rfl) ?_
    (try simp only [Act.put, List.setIfInBounds_toArray, List.set_cons_zero, List.set_cons_succ])
    clear r7
    refine Ord.e_str Try.underlying26 Try.underlying5 Try.underlying9 r5 rfl (by kernel_rfl) (by kernel_rfl) ?_
    (try simp only [Act.put, List.setIfInBounds_toArray, List.set_cons_zero, List.set_cons_succ])
    clear r5
    ((with_reducible refine Ord.e_p (v := ?_) ?_ ?_ ?_ ?_); rotate_left; (· exact rfl); (· kernel_rfl); (· intro w2; go_simp; try with_reducible rfl))
    (try simp only [Act.put, List.setIfInBounds_toArray, List.set_cons_zero, List.set_cons_succ])
    ((with_reducible refine Ord.e_p (v := ?_) ?_ ?_ ?_ ?_); rotate_left; (· exact rfl); (· kernel_rfl); (· intro w2; go_simp; try with_reducible rfl))
    (try simp only [Act.put, List.setIfInBounds_toArray, List.set_cons_zero, List.set_cons_succ])
    refine Ord.e_rowS Try.underlying25 rfl (by kernel_rfl) rfl (by intro e; cases e) (fun w' hS => (show RcB w' w.heap.size 5 z12 from hS).all) hS (by kernel_rfl) ?_
    (try simp only [Act.put, List.setIfInBounds_toArray, List.set_cons_zero, List.set_cons_succ])
    refine Ord.e_x rfl (by kernel_rfl) ?_
    go_wp2_with fail
    go_fit (hk x2)
    rintro e x3 ⟨A9, c9, n9, rfl, own9, hbx9⟩
    replace hb := bnx hb hbx9
    replace hS : RcB _ w.heap.size 5 z12 := (hbx9.block _ (blk_lt hS)).trans hS
    have hl9 := own_len own9
    rw [Hkl.out] at hl9
    subst hl9
    go_wp2_with fail
    refine Ord.Seg.go hS (fun _ => hbx9) ?_
    (try simp only [Act.put, List.setIfInBounds_toArray, List.set_cons_zero, List.set_cons_succ])
    ((with_reducible refine Ord.e_p (v := ?_) ?_ ?_ ?_ ?_); rotate_left; (· exact rfl); (· kernel_rfl); (· intro w2; go_simp; try with_reducible rfl))
    (try simp only [Act.put, List.setIfInBounds_toArray, List.set_cons_zero, List.set_cons_succ])
    ((with_reducible refine Ord.e_p (v := ?_) ?_ ?_ ?_ ?_); rotate_left; (· exact rfl); (· kernel_rfl); (· intro w2; go_simp; try with_reducible rfl))
    (try simp only [Act.put, List.setIfInBounds_toArray, List.set_cons_zero, List.set_cons_succ])
    ((with_reducible refine Ord.e_p (v := ?_) ?_ ?_ ?_ ?_); rotate_left; (· exact rfl); (· kernel_rfl); (· intro w2; go_simp; try with_reducible rfl))
    (try simp only [Act.put, List.setIfInBounds_toArray, List.set_cons_zero, List.set_cons_succ])
    ((with_reducible refine Ord.e_p (v := ?_) ?_ ?_ ?_ ?_); rotate_left; (· exact rfl); (· kernel_rfl); (· intro w2; go_simp; try with_reducible rfl))
    (try simp only [Act.put, List.setIfInBounds_toArray, List.set_cons_zero, List.set_cons_succ])
    refine Ord.e_nil ?_
    go_wp2
    go_ret
    exact ⟨rfl, hb⟩
  · simp only [Ord.lst, List.filterMap_cons, List.filterMap_nil, List.getElem?_toArray, List.getElem?_cons_succ, List.getElem?_cons_zero]
    refine Ord.e_rowS Try.underlying25 rfl (by kernel_rfl) rfl (by intro e; cases e) (fun w' hS => (show RcB w' w.heap.size 5 z12 from hS).all) hS (by kernel_rfl) ?_
    (try simp only [Act.put, List.setIfInBounds_toArray, List.set_cons_zero, List.set_cons_succ])
    refine Ord.e_rowS Try.underlying25 rfl (by kernel_rfl) rfl (by intro e; cases e) (fun w' hS => (show RcB w' w.heap.size 5 z12 from hS).all) hS (by kernel_rfl) ?_
    (try simp only [Act.put, List.setIfInBounds_toArray, List.set_cons_zero, List.set_cons_succ])
    refine Ord.e_x rfl (by kernel_rfl) ?_
    go_wp2
    have r7 : Rd (x0.alloc (.cells #[.int .u8 0, .int .u8 0] 5)) (x0.heap.size + 1) 1 (some ⟨x0.heap.size, 0, none⟩) 2 2 (bv [0, 0]) := rd_const x0 5 [0, 0] (0, 0) (by simp [maxLen])
    have hbx : Below x0.heap.size x0 (x0.alloc (.cells #[.int .u8 0, .int .u8 0] 5)) := (Below.refl _ _).alloc (Nat.le_refl _) _
    have hsx : (x0.alloc (.cells #[.int .u8 0, .int .u8 0] 5)).heap.size = x0.heap.size + 1 := World.size_alloc _ _
    rw [← hsx] at r7
    replace hb := bnx hb hbx
    replace hS : RcB _ w.heap.size 5 z12 := (hbx.block _ (blk_lt hS)).trans hS
    refine Ord.Seg.go hS (fun _ => hbx) ?_
    (try simp only [Act.put, List.setIfInBounds_toArray, List.set_cons_zero, List.set_cons_succ])
    have Hsx := Lib.hid hsx
    clear hsx hbx
    generalize (x0.alloc (.cells #[.int .u8 0, .int .u8 0] 5)) = x1 at *
    refine Ord.e_str Try.underlying26 Try.underlying5 Try.underlying9 r7 rfl (by kernel_rfl) (by kernel_rfl) ?_
    (try simp only [Act.put, List.setIfInBounds_toArray, List.set_cons_zero, List.set_cons_succ])
    clear r7
    refine Ord.e_x rfl (by kernel_rfl) ?_
    go_wp2_with fail
    go_fit (hd x1)
    rintro e x2 ⟨A5, c5, n5, rfl, own5, hbx⟩
    replace hb := bnx hb hbx
    replace hS : RcB _ w.heap.size 5 z12 := (hbx.block _ (blk_lt hS)).trans hS
    go_wp2_with fail
    refine Ord.Seg.go hS (fun _ => hbx) ?_
    (try simp only [Act.put, List.setIfInBounds_toArray, List.set_cons_zero, List.set_cons_succ])
    have r5 := Rd.own own5
    clear own5 hbx
    refine Ord.e_str Try.underlying26 Try.underlying5 Try.underlying9 r5 rfl (by kernel_rfl) (by kernel_rfl) ?_
    (try simp only [Act.put, List.setIfInBounds_toArray, List.set_cons_zero, List.set_cons_succ])
    clear r5
    ((with_reducible refine Ord.e_p (v := ?_) ?_ ?_ ?_ ?_); rotate_left; (· exact rfl); (· kernel_rfl); (· intro w2; go_simp; try with_reducible rfl))
    (try simp only [Act.put, List.setIfInBounds_toArray, List.set_cons_zero, List.set_cons_succ])
    ((with_reducible refine Ord.e_p (v := ?_) ?_ ?_ ?_ ?_); rotate_left; (· exact rfl); (· kernel_rfl); (· intro w2; go_simp; try with_reducible rfl))
    (try simp only [Act.put, List.setIfInBounds_toArray, List.set_cons_zero, List.set_cons_succ])
    refine Ord.e_rowS Try.underlying25 rfl (by kernel_rfl) rfl (by intro e; cases e) (fun w' hS => (show RcB w' w.heap.size 5 z12 from hS).all) hS (by kernel_rfl) ?_
    (try simp only [Act.put, List.setIfInBounds_toArray, List.set_cons_zero, List.set_cons_succ])
    refine Ord.e_x rfl (by kernel_rfl) ?_
    go_wp2_with fail
    go_fit (hk x2)
    rintro e x3 ⟨A9, c9, n9, rfl, own9, hbx9⟩
    replace hb := bnx hb hbx9
    replace hS : RcB _ w.heap.size 5 z12 := (hbx9.block _ (blk_lt hS)).trans hS
    have hl9 := own_len own9
    rw [Hkl.out] at hl9
    subst hl9
    go_wp2_with fail
    refine Ord.Seg.go hS (fun _ => hbx9) ?_
    (try simp only [Act.put, List.setIfInBounds_toArray, List.set_cons_zero, List.set_cons_succ])
    ((with_reducible refine Ord.e_p (v := ?_) ?_ ?_ ?_ ?_); rotate_left; (· exact rfl); (· kernel_rfl); (· intro w2; go_simp; try with_reducible rfl))
    (try simp only [Act.put, List.setIfInBounds_toArray, List.set_cons_zero, List.set_cons_succ])
    ((with_reducible refine Ord.e_p (v := ?_) ?_ ?_ ?_ ?_); rotate_left; (· exact rfl); (· kernel_rfl); (· intro w2; go_simp; try with_reducible rfl))
    (try simp only [Act.put, List.setIfInBounds_toArray, List.set_cons_zero, List.set_cons_succ])
    ((with_reducible refine Ord.e_p (v := ?_) ?_ ?_ ?_ ?_); rotate_left; (· exact rfl); (· kernel_rfl); (· intro w2; go_simp; try with_reducible rfl))
    (try simp only [Act.put, List.setIfInBounds_toArray, List.set_cons_zero, List.set_cons_succ])
    ((with_reducible refine Ord.e_p (v := ?_) ?_ ?_ ?_ ?_); rotate_left; (· exact rfl); (· kernel_rfl); (· intro w2; go_simp; try with_reducible rfl))
    (try simp only [Act.put, List.setIfInBounds_toArray, List.set_cons_zero, List.set_cons_succ])
    refine Ord.e_nil ?_
    go_wp2
    go_ret
    exact ⟨rfl, hb⟩

set_option maxRecDepth 10000 in
set_option maxHeartbeats 4000000 in
theorem recputs_any (t : Nat) (V : List Int) (t' : Nat) (V' : List Int) (w : World) (ht : t < 4294967296) (hV : V.length = 12) (h32 : ∀ x ∈ V, in32 x) (ht' : t' < 4294967296) (hV' : V'.length = 12) (h32' : ∀ x ∈ V', in32 x) :
    Calls Try.prog 3 #[.agg (rcC t V).toArray, .agg (rcC t' V').toArray] w fun e w' => e = .returned (.bool true) ∧ Below w.heap.size w w' := by
  have HV := Lib.hid hV
  have HV' := Lib.hid hV'
  have hk := fun w => recKey_any t' V' w ht' hV' h32'
  have hq := fun w => qrecKey_any t' V' w ht' hV' h32'
  have hd := fun w => recDelta_any t V t' V' w ht hV h32 ht' hV' h32'
  have hqd := fun w => qrecDelta_any t V t' V' w ht hV h32 ht' hV' h32'
  generalize recK t' V' = K at *
  generalize recD t V t' V' = D at *
  have Hk := Lib.hid hk
  have Hq := Lib.hid hq
  have Hd := Lib.hid hd
  have Hqd := Lib.hid hqd
  clear hV hV' h32 h32' hk hq hd hqd ht ht'
  obtain ⟨a0, a1, hs, hb⟩ := al2 w (.cells (rcC t V).toArray 25) (.cells (rcC t' V').toArray 25)
  go_enter Try.func3, Try.ntmps3
  go_wp2_with fail
  generalize ((w.alloc (.cells (rcC t V).toArray 25)).alloc (.cells (rcC t' V').toArray 25)) = w1 at *
  replace a0 : RcB w1 w.heap.size t V := a0
  replace a1 : RcB w1 (w.heap.size + 1) t' V' := a1
  clear hs
  refine Ord.region_ (fun w' => RcB w' w.heap.size t V ∧ RcB w' (w.heap.size + 1) t' V') true [7, 10, 16, 20] (by kernel_rfl) (by kernel_rfl) ⟨a0, a1⟩ ?_
  have hS : RcB w1.drew w.heap.size t V ∧ RcB w1.drew (w.heap.size + 1) t' V' := ⟨a0, a1⟩
  replace hb := hb.drew
  generalize w1.drew = w2 at *
  clear a0 a1 w1
  refine Ord.e_rowS Try.underlying25 rfl (by rw [rcC_size t' V' HV'.out]; kernel_rfl) rfl (by intro e; cases e) (fun w' hS => (show _ ∧ RcB w' (w.heap.size + 1) t' V' from hS).2.all) hS (by kernel_rfl) ?_
  (try simp only [Act.put, List.setIfInBounds_toArray, List.set_cons_zero, List.set_cons_succ])
  refine Ord.e_x rfl (by kernel_rfl) ?_
  go_wp2_with fail
  go_fit (Hk.out w2)
  rintro e w3 ⟨A3, c3, n3, rfl, own3, hbx⟩
  replace hb := bnx hb hbx
  replace hS : RcB w3 w.heap.size t V ∧ RcB w3 (w.heap.size + 1) t' V' := ⟨(hbx.block _ (blk_lt hS.1)).trans hS.1, (hbx.block _ (blk_lt hS.2)).trans hS.2⟩
  go_wp2_with fail
  refine Ord.Seg.go hS (fun _ => hbx) ?_
  (try simp only [Act.put, List.setIfInBounds_toArray, List.set_cons_zero, List.set_cons_succ])
  clear hbx
  refine Ord.e_str Try.underlying26 Try.underlying5 Try.underlying9 (Rd.own own3) rfl (by kernel_rfl) (by kernel_rfl) ?_
  (try simp only [Act.put, List.setIfInBounds_toArray, List.set_cons_zero, List.set_cons_succ])
  clear own3
  refine Ord.e_rowS Try.underlying25 rfl (by rw [rcC_size t' V' HV'.out]; kernel_rfl) rfl (by intro e; cases e) (fun w' hS => (show _ ∧ RcB w' (w.heap.size + 1) t' V' from hS).2.all) hS (by kernel_rfl) ?_
  (try simp only [Act.put, List.setIfInBounds_toArray, List.set_cons_zero, List.set_cons_succ])
  refine Ord.e_x rfl (by kernel_rfl) ?_
  go_wp2_with fail
  go_fit (Hq.out w3)
  rintro e w4 ⟨A4, c4, n4, rfl, own4, hbx⟩
  replace hb := bnx hb hbx
  replace hS : RcB w4 w.heap.size t V ∧ RcB w4 (w.heap.size + 1) t' V' := ⟨(hbx.block _ (blk_lt hS.1)).trans hS.1, (hbx.block _ (blk_lt hS.2)).trans hS.2⟩
  go_wp2_with fail
  refine Ord.Seg.go hS (fun _ => hbx) ?_
  (try simp only [Act.put, List.setIfInBounds_toArray, List.set_cons_zero, List.set_cons_succ])
  clear hbx
  refine Ord.e_str Try.underlying26 Try.underlying5 Try.underlying9 (Rd.own own4) rfl (by kernel_rfl) (by kernel_rfl) ?_
  (try simp only [Act.put, List.setIfInBounds_toArray, List.set_cons_zero, List.set_cons_succ])
  clear own4
  ((with_reducible refine Ord.e_p (v := ?_) ?_ ?_ ?_ ?_); rotate_left; (· exact rfl); (· kernel_rfl); (· intro w2; go_simp; try with_reducible rfl))
  (try simp only [Act.put, List.setIfInBounds_toArray, List.set_cons_zero, List.set_cons_succ])
  ((with_reducible refine Ord.e_p (v := ?_) ?_ ?_ ?_ ?_); rotate_left; (· exact rfl); (· kernel_rfl); (· intro w2; go_simp; try with_reducible rfl))
  (try simp only [Act.put, List.setIfInBounds_toArray, List.set_cons_zero, List.set_cons_succ])
  refine Ord.e_rowS Try.underlying25 rfl (by rw [rcC_size t V HV.out]; kernel_rfl) rfl (by intro e; cases e) (fun w' hS => (show RcB w' w.heap.size t V ∧ _ from hS).1.all) hS (by kernel_rfl) ?_
  (try simp only [Act.put, List.setIfInBounds_toArray, List.set_cons_zero, List.set_cons_succ])
  refine Ord.e_rowS Try.underlying25 rfl (by rw [rcC_size t' V' HV'.out]; kernel_rfl) rfl (by intro e; cases e) (fun w' hS => (show _ ∧ RcB w' (w.heap.size + 1) t' V' from hS).2.all) hS (by kernel_rfl) ?_
  (try simp only [Act.put, List.setIfInBounds_toArray, List.set_cons_zero, List.set_cons_succ])
  refine Ord.e_x rfl (by kernel_rfl) ?_
  go_wp2_with fail
  go_fit (Hd.out w4)
  rintro e w5 ⟨A5, c5, n5, rfl, own5, hbx⟩
  replace hb := bnx hb hbx
  replace hS : RcB w5 w.heap.size t V ∧ RcB w5 (w.heap.size + 1) t' V' := ⟨(hbx.block _ (blk_lt hS.1)).trans hS.1, (hbx.block _ (blk_lt hS.2)).trans hS.2⟩
  go_wp2_with fail
  refine Ord.Seg.go hS (fun _ => hbx) ?_
  (try simp only [Act.put, List.setIfInBounds_toArray, List.set_cons_zero, List.set_cons_succ])
  clear hbx
  refine Ord.e_str Try.underlying26 Try.underlying5 Try.underlying9 (Rd.own own5) rfl (by kernel_rfl) (by kernel_rfl) ?_
  (try simp only [Act.put, List.setIfInBounds_toArray, List.set_cons_zero, List.set_cons_succ])
  clear own5
  refine Ord.e_rowS Try.underlying25 rfl (by rw [rcC_size t V HV.out]; kernel_rfl) rfl (by intro e; cases e) (fun w' hS => (show RcB w' w.heap.size t V ∧ _ from hS).1.all) hS (by kernel_rfl) ?_
  (try simp only [Act.put, List.setIfInBounds_toArray, List.set_cons_zero, List.set_cons_succ])
  refine Ord.e_rowS Try.underlying25 rfl (by rw [rcC_size t' V' HV'.out]; kernel_rfl) rfl (by intro e; cases e) (fun w' hS => (show _ ∧ RcB w' (w.heap.size + 1) t' V' from hS).2.all) hS (by kernel_rfl) ?_
  (try simp only [Act.put, List.setIfInBounds_toArray, List.set_cons_zero, List.set_cons_succ])
  refine Ord.e_x rfl (by kernel_rfl) ?_
  go_wp2_with fail
  go_fit (Hqd.out w5)
  rintro e w6 ⟨A6, c6, n6, rfl, own6, hbx⟩
  replace hb := bnx hb hbx
  replace hS : RcB w6 w.heap.size t V ∧ RcB w6 (w.heap.size + 1) t' V' := ⟨(hbx.block _ (blk_lt hS.1)).trans hS.1, (hbx.block _ (blk_lt hS.2)).trans hS.2⟩
  go_wp2_with fail
  refine Ord.Seg.go hS (fun _ => hbx) ?_
  (try simp only [Act.put, List.setIfInBounds_toArray, List.set_cons_zero, List.set_cons_succ])
  clear hbx
  refine Ord.e_str Try.underlying26 Try.underlying5 Try.underlying9 (Rd.own own6) rfl (by kernel_rfl) (by kernel_rfl) ?_
  (try simp only [Act.put, List.setIfInBounds_toArray, List.set_cons_zero, List.set_cons_succ])
  clear own6
  ((with_reducible refine Ord.e_p (v := ?_) ?_ ?_ ?_ ?_); rotate_left; (· exact rfl); (· kernel_rfl); (· intro w2; go_simp; try with_reducible rfl))
  (try simp only [Act.put, List.setIfInBounds_toArray, List.set_cons_zero, List.set_cons_succ])
  ((with_reducible refine Ord.e_p (v := ?_) ?_ ?_ ?_ ?_); rotate_left; (· exact rfl); (· kernel_rfl); (· intro w2; go_simp; try with_reducible rfl))
  (try simp only [Act.put, List.setIfInBounds_toArray, List.set_cons_zero, List.set_cons_succ])
  ((with_reducible refine Ord.e_p (v := ?_) ?_ ?_ ?_ ?_); rotate_left; (· exact rfl); (· kernel_rfl); (· intro w2; go_simp; try with_reducible rfl))
  (try simp only [Act.put, List.setIfInBounds_toArray, List.set_cons_zero, List.set_cons_succ])
  refine Ord.e_x rfl (by kernel_rfl) ?_
  go_wp2_with fail
  go_fit (knows34 w6)
  rintro e w7 ⟨rfl, hb67⟩
  have hb7 := bnx hb hb67
  go_wp2_with fail
  refine Ord.Seg.go ⟨(hb67.block _ (blk_lt hS.1)).trans hS.1, (hb67.block _ (blk_lt hS.2)).trans hS.2⟩ (fun _ => hb67) ?_
  (try simp only [Act.put, List.setIfInBounds_toArray, List.set_cons_zero, List.set_cons_succ])
  ((with_reducible refine Ord.e_p (v := ?_) ?_ ?_ ?_ ?_); rotate_left; (· exact rfl); (· kernel_rfl); (· intro w2; go_simp; try with_reducible rfl))
  (try simp only [Act.put, List.setIfInBounds_toArray, List.set_cons_zero, List.set_cons_succ])
  ((with_reducible refine Ord.e_p (v := ?_) ?_ ?_ ?_ ?_); rotate_left; (· exact rfl); (· kernel_rfl); (· intro w2; go_simp; try with_reducible rfl))
  (try simp only [Act.put, List.setIfInBounds_toArray, List.set_cons_zero, List.set_cons_succ])
  refine Ord.e_nil ?_
  go_wp2
  go_ret
  exact ⟨rfl, hb7⟩

/-- RecSize walked. -/
theorem rcC_one (t : Nat) (V : List Int) : ∀ v ∈ rcC t V, v.oneCell' = true := fun v hv => by
  rcases List.mem_cons.1 hv with rfl | hv
  · rfl
  · obtain ⟨x, _, rfl⟩ := List.mem_map.1 hv
    rfl
theorem rcC_set (t t2 : Nat) (V : List Int) : (rcC t V).toArray.setIfInBounds 0 (.int .u32 (t2 : Int)) = (rcC t2 V).toArray := by
  unfold rcC
  simp
set_option maxRecDepth 10000 in
set_option maxHeartbeats 4000000 in
theorem recsize_any (t : Nat) (V : List Int) (t' : Nat) (V' : List Int) (d : Nat) (w : World) (ht : t < 4294967296) (hV : V.length = 12) (h32 : ∀ x ∈ V, in32 x) (ht' : t' < 4294967296) (hV' : V'.length = 12) (h32' : ∀ x ∈ V', in32 x) (hd : d < 256) :
    Calls Try.prog 4 #[.agg (rcC t V).toArray, .agg (rcC t' V').toArray, .int .u8 (d : Int)] w fun e w' => e = .returned (.bool true) ∧ Below w.heap.size w w' := by
  have HV := Lib.hid hV
  have HV' := Lib.hid hV'
  obtain ⟨t2, ht2⟩ : ∃ t2, t2 = (t + d % 128) % 4294967296 := ⟨_, rfl⟩
  have hw : IntKind.u32.wrap ((t : Int) + (d : Int) % 128) = (t2 : Int) := by rw [IntKind.wrap_u32, ht2]; omega
  have hd1 := fun w => recDelta_any t V t' V' w ht hV h32 ht' hV' h32'
  have hd2 := fun w => recDelta_any t V t2 V w ht hV h32 (by omega) hV h32
  have hl1 := recD_len (t := t) (t' := t') hV hV' h32 h32'
  have hl2 := recD_two (t := t) (d := d % 128) (V := V) ht (by omega)
  rw [← ht2] at hl2
  generalize recD t V t' V' = D1 at *
  generalize recD t V t2 V = D2 at *
  have Hd1 := Lib.hid hd1
  have Hd2 := Lib.hid hd2
  have Hl1 := Lib.hid hl1
  have Hl2 := Lib.hid hl2
  clear hV hV' h32 h32' hd1 hd2 hl1 hl2 ht ht' ht2
  obtain ⟨a0, a1, hs, hb⟩ := al2 w (.cells (rcC t V).toArray 25) (.cells (rcC t' V').toArray 25)
  go_enter Try.func4, Try.ntmps4
  go_wp2_with (first | (with_reducible refine stop_loadT 25 ?_) | (with_reducible refine stop_storeT 25 ?_))
  generalize ((w.alloc (.cells (rcC t V).toArray 25)).alloc (.cells (rcC t' V').toArray 25)) = w1 at *
  replace a0 : RcB w1 w.heap.size t V := a0
  replace a1 : RcB w1 (w.heap.size + 1) t' V' := a1
  refine go_ (wpList_load_mid rfl _ _ rfl w.heap.size 0 rfl _ _ a0.all Try.underlying25 rfl (by rw [rcC_size t V HV.out]; kernel_rfl) ?_)
  go_wp2_with (first | (with_reducible refine stop_loadT 25 ?_) | (with_reducible refine stop_storeT 25 ?_))
  have a2 := heap_alloc_new w1 (.cells #[.int .u32 0, .int .i32 0, .int .i32 0, .int .i32 0, .int .i32 0, .int .i32 0, .int .i32 0, .int .i32 0, .int .i32 0, .int .i32 0, .int .i32 0, .int .i32 0, .int .i32 0] 25)
  have hbx : Below w1.heap.size w1 (w1.alloc (.cells #[.int .u32 0, .int .i32 0, .int .i32 0, .int .i32 0, .int .i32 0, .int .i32 0, .int .i32 0, .int .i32 0, .int .i32 0, .int .i32 0, .int .i32 0, .int .i32 0, .int .i32 0] 25)) := (Below.refl _ _).alloc (Nat.le_refl _) _
  replace hb := bnx hb hbx
  replace a0 : RcB (w1.alloc (.cells #[.int .u32 0, .int .i32 0, .int .i32 0, .int .i32 0, .int .i32 0, .int .i32 0, .int .i32 0, .int .i32 0, .int .i32 0, .int .i32 0, .int .i32 0, .int .i32 0, .int .i32 0] 25)) w.heap.size t V := blk_old a0 hbx (blk_lt a0)
  replace a1 : RcB (w1.alloc (.cells #[.int .u32 0, .int .i32 0, .int .i32 0, .int .i32 0, .int .i32 0, .int .i32 0, .int .i32 0, .int .i32 0, .int .i32 0, .int .i32 0, .int .i32 0, .int .i32 0, .int .i32 0] 25)) (w.heap.size + 1) t' V' := blk_old a1 hbx (blk_lt a1)
  rw [hs] at a2
  generalize (w1.alloc (.cells #[.int .u32 0, .int .i32 0, .int .i32 0, .int .i32 0, .int .i32 0, .int .i32 0, .int .i32 0, .int .i32 0, .int .i32 0, .int .i32 0, .int .i32 0, .int .i32 0, .int .i32 0] 25)) = w2 at *
  clear hbx hs w1
  refine go_ (wpList_store_row rfl _ _ _ rfl (w.heap.size + 2) (rcC t V).toArray rfl rfl _ _ a2 (by rw [List.size_toArray, rcC_size t V HV.out]; kernel_rfl) (by simp [rcC_size t V HV.out]) (all_oneCell_toArray (rcC_one t V)) ?_)
  have hA : Aw (fun k => k = w.heap.size + 2) w2 (w2.setRow (w.heap.size + 2) (rcC t V).toArray) := ⟨setRow_os w2 _ _, setRow_tape w2 _ _, setRow_output w2 _ _, by rw [setRow_size]; exact Nat.le_refl _, fun k _ hu => setRow_other w2 _ k _ hu⟩
  replace a2 : RcB (w2.setRow (w.heap.size + 2) (rcC t V).toArray) (w.heap.size + 2) t V := setRow_heap _ _ _ _ _ _ a2
  replace a0 : RcB (w2.setRow (w.heap.size + 2) (rcC t V).toArray) w.heap.size t V := hA.keep a0 (by omega)
  replace a1 : RcB (w2.setRow (w.heap.size + 2) (rcC t V).toArray) (w.heap.size + 1) t' V' := hA.keep a1 (by omega)
  replace hb := below_awG hb hA (fun k hk => by omega) hb.size
  generalize w2.setRow (w.heap.size + 2) (rcC t V).toArray = w3 at *
  clear hA
  have c2 := a2.time
  have f2 : w3.frozen? ⟨w.heap.size + 2, 0, none⟩ = false := blk_free (i := 0) a2
  go_wp2_with (first | (with_reducible refine stop_loadT 25 ?_) | (with_reducible refine stop_storeT 25 ?_))
  have hA : Aw (fun k => k = w.heap.size + 2) w3 (w3.setCell ⟨w.heap.size + 2, 0, none⟩ (.int .u32 (t2 : Int))) := (Aw.refl _ _).set _ rfl
  replace a2 := blk_set (i := 0) a2 (.int .u32 (t2 : Int))
  rw [rcC_set] at a2
  replace a2 : RcB (w3.setCell ⟨w.heap.size + 2, 0, none⟩ (.int .u32 (t2 : Int))) (w.heap.size + 2) t2 V := a2
  replace a0 : RcB (w3.setCell ⟨w.heap.size + 2, 0, none⟩ (.int .u32 (t2 : Int))) w.heap.size t V := hA.keep a0 (by omega)
  replace a1 : RcB (w3.setCell ⟨w.heap.size + 2, 0, none⟩ (.int .u32 (t2 : Int))) (w.heap.size + 1) t' V' := hA.keep a1 (by omega)
  replace hb := below_awG hb hA (fun k hk => by omega) hb.size
  generalize (w3.setCell ⟨w.heap.size + 2, 0, none⟩ (.int .u32 (t2 : Int))) = w4 at *
  clear hA c2 f2
  refine go_ (wpList_load_mid rfl _ _ rfl w.heap.size 0 rfl _ _ a0.all Try.underlying25 rfl (by rw [rcC_size t V HV.out]; kernel_rfl) ?_)
  go_wp2_with (first | (with_reducible refine stop_loadT 25 ?_) | (with_reducible refine stop_storeT 25 ?_))
  refine go_ (wpList_load_mid rfl _ _ rfl (w.heap.size + 1) 0 rfl _ _ a1.all Try.underlying25 rfl (by rw [rcC_size t' V' HV'.out]; kernel_rfl) ?_)
  go_wp2_with fail
  go_fit (Hd1.out w4)
  rintro e w5 ⟨A5, c5, n5, rfl, own5, hbx⟩
  have hl5 := own_len own5
  have hL5 := Hl1.out
  rw [hl5] at hL5
  replace a0 : RcB w5 w.heap.size t V := blk_old a0 hbx (blk_lt a0)
  replace a2 : RcB w5 (w.heap.size + 2) t2 V := blk_old a2 hbx (blk_lt a2)
  replace hb := bnx hb hbx
  clear hbx own5 a1 hl5
  go_wp2_with (first | (with_reducible refine stop_loadT 25 ?_) | (with_reducible refine stop_storeT 25 ?_))
  refine go_ (wpList_load_mid rfl _ _ rfl w.heap.size 0 rfl _ _ a0.all Try.underlying25 rfl (by rw [rcC_size t V HV.out]; kernel_rfl) ?_)
  go_wp2_with (first | (with_reducible refine stop_loadT 25 ?_) | (with_reducible refine stop_storeT 25 ?_))
  refine go_ (wpList_load_mid rfl _ _ rfl (w.heap.size + 2) 0 rfl _ _ a2.all Try.underlying25 rfl (by rw [rcC_size t2 V HV.out]; kernel_rfl) ?_)
  go_wp2_with fail
  go_fit (Hd2.out w5)
  rintro e w6 ⟨A6, c6, n6, rfl, own6, hbx⟩
  have hl6 := own_len own6
  rw [Hl2.out] at hl6
  subst hl6
  replace hb := bnx hb hbx
  obtain ⟨hL5a, hL5b⟩ := hL5
  have hi1 : (2 : Int) ≤ (n5 : Int) := by omega
  have hi2 : (n5 : Int) ≤ 67 := by omega
  clear hbx own6 a0 a2
  go_wp2_with fail
  go_fit (knows34 w6)
  rintro e w7 ⟨rfl, hbx⟩
  have hb7 := bnx hb hbx
  go_wp2
  go_ret
  exact ⟨rfl, hb7⟩

end Go.Proofs.Ytplgcfjcdjlnbaa
