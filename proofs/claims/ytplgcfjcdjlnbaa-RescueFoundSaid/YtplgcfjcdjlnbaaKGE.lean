/-
  Several texts in one: Rec5 Rec6 Rec7 Rec8 RecGo Rec9.
-/
import Derived.Test.YtplgcfjcdjlnbaaKGD
import Derived.Test.YtplgcfjcdjlnbaaKGC
import Derived.Test.YtplgcfjcdjlnbaaKGA
/-
  RecPuts and RecSize walked; knows, num of layer 34's law.
-/
set_option linter.unusedSimpArgs false
set_option linter.unusedVariables false
namespace Go.Proofs.Ytplgcfjcdjlnbaa
open Go.RowKit NumLaw
attribute [local go_sem] Addr.add_mid

theorem num34_any (n : Int) (w : World) : Calls Try.prog 30 #[.int .i64 n] w fun e w' => e = .returned (.int .i64 n) ∧ w = w' := by
  go_enter Try.func30, Try.ntmps30
  go_wp2
  go_ret
  exact ⟨rfl, rfl⟩
def z12 : List Int := List.replicate 12 0
theorem z12_32 : ∀ x ∈ z12, in32 x := fun x hx => by
  rw [(List.mem_replicate.1 hx).2]
  unfold in32
  omega
theorem rcC_zero (t : Nat) : (rcC t z12).toArray = #[.int .u32 t, .int .i32 0, .int .i32 0, .int .i32 0, .int .i32 0, .int .i32 0, .int .i32 0, .int .i32 0, .int .i32 0, .int .i32 0, .int .i32 0, .int .i32 0, .int .i32 0] := rfl
theorem recK_len (t : Nat) (V : List Int) (hV : V.length = 12) : (recK t V).length = 52 := by
  have : ∀ l : List Int, (l.flatMap fun x => bytesN 4 (un x)).length = 4 * l.length := by
    intro l
    induction l with
    | nil => rfl
    | cons x l ih => rw [List.flatMap_cons, List.length_append, ih, bytesN_len, List.length_cons]; omega
  unfold recK
  rw [List.length_append, bytesN_len, this, hV]
set_option maxRecDepth 10000 in
set_option maxHeartbeats 2000000 in
theorem knows34 (w : World) : Calls Try.prog 25 #[] w fun e w' => e = .returned (.bool true) ∧ Below w.heap.size w w' := by
  have hbox : RcB (w.alloc (.cells (rcC 5 z12).toArray 25)) w.heap.size 5 z12 := heap_alloc_new w _
  have hb : Below w.heap.size w (w.alloc (.cells (rcC 5 z12).toArray 25)) := (Below.refl _ _).alloc (Nat.le_refl _) _
  have hd := fun w => recDelta_any 5 z12 5 z12 w (by omega) rfl z12_32 (by omega) rfl z12_32
  rw [show recD 5 z12 5 z12 = [0, 0] by decide] at hd
  have hk := fun w => recKey_any 5 z12 w (by omega) rfl z12_32
  have hkl := recK_len 5 z12 rfl
  generalize recK 5 z12 = K at *
  have Hkl := Lib.hid hkl
  clear hkl
  rw [rcC_zero] at hbox hb
  go_enter Try.func25, Try.ntmps25
  go_wp2_with fail
  rw [show (5 : Int) = ((5 : Nat) : Int) from rfl, ← rcC_zero] at *
  generalize (w.alloc (.cells (rcC 5 z12).toArray 25)) = w1 at *
  refine Ord.region_m [2, 3, 4, 5] [[0, 1, 2, 3, 4, 5, 6, 7, 8, 9, 10, 11, 12, 13], [0, 1, 2, 4, 3, 5, 6, 7, 8, 9, 10, 11, 12, 13], [0, 1, 2, 4, 5, 3, 6, 7, 8, 9, 10, 11, 12, 13], [0, 1, 4, 2, 3, 5, 6, 7, 8, 9, 10, 11, 12, 13], [0, 1, 4, 2, 5, 3, 6, 7, 8, 9, 10, 11, 12, 13], [0, 1, 4, 5, 2, 3, 6, 7, 8, 9, 10, 11, 12, 13]] (fun w' => RcB w' w.heap.size 5 z12) true [6, 8] (by kernel_rfl) (by kernel_rfl) hbox ?_
  have hS : RcB w1.drew w.heap.size 5 z12 := hbox
  replace hb := hb.drew
  generalize w1.drew = x0 at *
  clear hbox w1
  intro L hL
  simp only [List.mem_cons, List.not_mem_nil, or_false] at hL
  rcases hL with rfl | rfl | rfl | rfl | rfl | rfl
  · simp only [Ord.lst, List.filterMap_cons, List.filterMap_nil, List.getElem?_toArray, List.getElem?_cons_succ, List.getElem?_cons_zero]
    refine Ord.e_rowS Try.underlying25 rfl (by kernel_rfl) rfl (by intro e; cases e) (fun w' hS => (show RcB w' w.heap.size 5 z12 from hS).all) hS (by kernel_rfl) ?_
    (try simp only [Act.put, List.setIfInBounds_toArray, List.set_cons_zero, List.set_cons_succ])
    refine Ord.e_rowS Try.underlying25 rfl (by kernel_rfl) rfl (by intro e; cases e) (fun w' hS => (show RcB w' w.heap.size 5 z12 from hS).all) hS (by kernel_rfl) ?_
    (try simp only [Act.put, List.setIfInBounds_toArray, List.set_cons_zero, List.set_cons_succ])
    refine Ord.e_x rfl (by kernel_rfl) ?_
    go_wp2_with fail
    go_fit (hd x0)
    rintro e x1 ⟨A5, c5, n5, rfl, own5, hbx⟩
    replace hb := bnx hb hbx
    replace hS : RcB _ w.heap.size 5 z12 := (hbx.block _ (blk_lt hS)).trans hS
    go_wp2_with fail
    refine Ord.Seg.go hS (fun _ => hbx) ?_
    (try simp only [Act.put, List.setIfInBounds_toArray, List.set_cons_zero, List.set_cons_succ])
    have r5 := Rd.own own5
    clear own5 hbx
    refine Ord.e_str Try.underlying26 Try.underlying5 Try.underlying9 r5 rfl (by kernel_rfl) (by kernel_rfl) ?_
    (try simp only [Act.put, List.setIfInBounds_toArray, List.set_cons_zero, List.set_cons_succ])
    clear r5
    refine Ord.e_x rfl (by kernel_rfl) ?_
    go_wp2
    have r7 : Rd (x1.alloc (.cells #[.int .u8 0, .int .u8 0] 5)) (x1.heap.size + 1) 1 (some ⟨x1.heap.size, 0, none⟩) 2 2 (bv [0, 0]) := rd_const x1 5 [0, 0] (0, 0) (by simp [maxLen])
    have hbx : Below x1.heap.size x1 (x1.alloc (.cells #[.int .u8 0, .int .u8 0] 5)) := (Below.refl _ _).alloc (Nat.le_refl _) _
    have hsx : (x1.alloc (.cells #[.int .u8 0, .int .u8 0] 5)).heap.size = x1.heap.size + 1 := World.size_alloc _ _
    rw [← hsx] at r7
    replace hb := bnx hb hbx
    replace hS : RcB _ w.heap.size 5 z12 := (hbx.block _ (blk_lt hS)).trans hS
    refine Ord.Seg.go hS (fun _ => hbx) ?_
    (try simp only [Act.put, List.setIfInBounds_toArray, List.set_cons_zero, List.set_cons_succ])
    have Hsx := Lib.hid hsx
    clear hsx hbx
    generalize (x1.alloc (.cells #[.int .u8 0, .int .u8 0] 5)) = x2 at *
    refine Ord.e_str Try.underlying26 Try.underlying5 Try.underlying9 r7 rfl (by kernel_rfl) (by kernel_rfl) ?_
    (try simp only [Act.put, List.setIfInBounds_toArray, List.set_cons_zero, List.set_cons_succ])
    clear r7
    ((with_reducible refine Ord.e_p (v := ?_) ?_ ?_ ?_ ?_); rotate_left; (· exact rfl); (· kernel_rfl); (· intro w2; go_simp; try with_reducible rfl))
    (try simp only [Act.put, List.setIfInBounds_toArray, List.set_cons_zero, List.set_cons_succ])
    ((with_reducible refine Ord.e_p (v := ?_) ?_ ?_ ?_ ?_); rotate_left; (· exact rfl); (· kernel_rfl); (· intro w2; go_simp; try with_reducible rfl))
    (try simp only [Act.put, List.setIfInBounds_toArray, List.set_cons_zero, List.set_cons_succ])
    refine Ord.e_rowS Try.underlying25 rfl (by kernel_rfl) rfl (by intro e; cases e) (fun w' hS => (show RcB w' w.heap.size 5 z12 from hS).all) hS (by kernel_rfl) ?_
    (try simp only [Act.put, List.setIfInBounds_toArray, List.set_cons_zero, List.set_cons_succ])
    refine Ord.e_x rfl (by kernel_rfl) ?_
    go_wp2_with fail
    go_fit (hk x2)
    rintro e x3 ⟨A9, c9, n9, rfl, own9, hbx9⟩
    replace hb := bnx hb hbx9
    replace hS : RcB _ w.heap.size 5 z12 := (hbx9.block _ (blk_lt hS)).trans hS
    have hl9 := own_len own9
    rw [Hkl.out] at hl9
    subst hl9
    go_wp2_with fail
    refine Ord.Seg.go hS (fun _ => hbx9) ?_
    (try simp only [Act.put, List.setIfInBounds_toArray, List.set_cons_zero, List.set_cons_succ])
    ((with_reducible refine Ord.e_p (v := ?_) ?_ ?_ ?_ ?_); rotate_left; (· exact rfl); (· kernel_rfl); (· intro w2; go_simp; try with_reducible rfl))
    (try simp only [Act.put, List.setIfInBounds_toArray, List.set_cons_zero, List.set_cons_succ])
    ((with_reducible refine Ord.e_p (v := ?_) ?_ ?_ ?_ ?_); rotate_left; (· exact rfl); (· kernel_rfl); (· intro w2; go_simp; try with_reducible rfl))
    (try simp only [Act.put, List.setIfInBounds_toArray, List.set_cons_zero, List.set_cons_succ])
    ((with_reducible refine Ord.e_p (v := ?_) ?_ ?_ ?_ ?_); rotate_left; (· exact rfl); (· kernel_rfl); (· intro w2; go_simp; try with_reducible rfl))
    (try simp only [Act.put, List.setIfInBounds_toArray, List.set_cons_zero, List.set_cons_succ])
    ((with_reducible refine Ord.e_p (v := ?_) ?_ ?_ ?_ ?_); rotate_left; (· exact rfl); (· kernel_rfl); (· intro w2; go_simp; try with_reducible rfl))
    (try simp only [Act.put, List.setIfInBounds_toArray, List.set_cons_zero, List.set_cons_succ])
    refine Ord.e_nil ?_
    go_wp2
    go_ret
    exact ⟨rfl, hb⟩
  · simp only [Ord.lst, List.filterMap_cons, List.filterMap_nil, List.getElem?_toArray, List.getElem?_cons_succ, List.getElem?_cons_zero]
    refine Ord.e_rowS Try.underlying25 rfl (by kernel_rfl) rfl (by intro e; cases e) (fun w' hS => (show RcB w' w.heap.size 5 z12 from hS).all) hS (by kernel_rfl) ?_
    (try simp only [Act.put, List.setIfInBounds_toArray, List.set_cons_zero, List.set_cons_succ])
    refine Ord.e_rowS Try.underlying25 rfl (by kernel_rfl) rfl (by intro e; cases e) (fun w' hS => (show RcB w' w.heap.size 5 z12 from hS).all) hS (by kernel_rfl) ?_
    (try simp only [Act.put, List.setIfInBounds_toArray, List.set_cons_zero, List.set_cons_succ])
    refine Ord.e_x rfl (by kernel_rfl) ?_
    go_wp2_with fail
    go_fit (hd x0)
    rintro e x1 ⟨A5, c5, n5, rfl, own5, hbx⟩
    replace hb := bnx hb hbx
    replace hS : RcB _ w.heap.size 5 z12 := (hbx.block _ (blk_lt hS)).trans hS
    go_wp2_with fail
    refine Ord.Seg.go hS (fun _ => hbx) ?_
    (try simp only [Act.put, List.setIfInBounds_toArray, List.set_cons_zero, List.set_cons_succ])
    have r5 := Rd.own own5
    clear own5 hbx
    refine Ord.e_x rfl (by kernel_rfl) ?_
    go_wp2
    have r7 : Rd (x1.alloc (.cells #[.int .u8 0, .int .u8 0] 5)) (x1.heap.size + 1) 1 (some ⟨x1.heap.size, 0, none⟩) 2 2 (bv [0, 0]) := rd_const x1 5 [0, 0] (0, 0) (by simp [maxLen])
    have hbx : Below x1.heap.size x1 (x1.alloc (.cells #[.int .u8 0, .int .u8 0] 5)) := (Below.refl _ _).alloc (Nat.le_refl _) _
    have hsx : (x1.alloc (.cells #[.int .u8 0, .int .u8 0] 5)).heap.size = x1.heap.size + 1 := World.size_alloc _ _
    rw [← hsx] at r7
    replace hb := bnx hb hbx
    replace hS : RcB _ w.heap.size 5 z12 := (hbx.block _ (blk_lt hS)).trans hS
    replace r5 := r5.nx hbx
    refine Ord.Seg.go hS (fun _ => hbx) ?_
    (try simp only [Act.put, List.setIfInBounds_toArray, List.set_cons_zero, List.set_cons_succ])
    have Hsx := Lib.hid hsx
    clear hsx hbx
    generalize (x1.alloc (.cells #[.int .u8 0, .int .u8 0] 5)) = x2 at *
    refine Ord.e_str Try.underlying26 Try.underlying5 Try.underlying9 r5 rfl (by kernel_rfl) (by kernel_rfl) ?_
    (try simp only [Act.put, List.setIfInBounds_toArray, List.set_cons_zero, List.set_cons_succ])
    clear r5
    refine Ord.e_str Try.underlying26 Try.underlying5 Try.underlying9 r7 rfl (by kernel_rfl) (by kernel_rfl) ?_
    (try simp only [Act.put, List.setIfInBounds_toArray, List.set_cons_zero, List.set_cons_succ])
    clear r7
    ((with_reducible refine Ord.e_p (v := ?_) ?_ ?_ ?_ ?_); rotate_left; (· exact rfl); (· kernel_rfl); (· intro w2; go_simp; try with_reducible rfl))
    (try simp only [Act.put, List.setIfInBounds_toArray, List.set_cons_zero, List.set_cons_succ])
    ((with_reducible refine Ord.e_p (v := ?_) ?_ ?_ ?_ ?_); rotate_left; (· exact rfl); (· kernel_rfl); (· intro w2; go_simp; try with_reducible rfl))
    (try simp only [Act.put, List.setIfInBounds_toArray, List.set_cons_zero, List.set_cons_succ])
    refine Ord.e_rowS Try.underlying25 rfl (by kernel_rfl) rfl (by intro e; cases e) (fun w' hS => (show RcB w' w.heap.size 5 z12 from hS).all) hS (by kernel_rfl) ?_
    (try simp only [Act.put, List.setIfInBounds_toArray, List.set_cons_zero, List.set_cons_succ])
    refine Ord.e_x rfl (by kernel_rfl) ?_
    go_wp2_with fail
    go_fit (hk x2)
    rintro e x3 ⟨A9, c9, n9, rfl, own9, hbx9⟩
    replace hb := bnx hb hbx9
    replace hS : RcB _ w.heap.size 5 z12 := (hbx9.block _ (blk_lt hS)).trans hS
    have hl9 := own_len own9
    rw [Hkl.out] at hl9
    subst hl9
    go_wp2_with fail
    refine Ord.Seg.go hS (fun _ => hbx9) ?_
    (try simp only [Act.put, List.setIfInBounds_toArray, List.set_cons_zero, List.set_cons_succ])
    ((with_reducible refine Ord.e_p (v := ?_) ?_ ?_ ?_ ?_); rotate_left; (· exact rfl); (· kernel_rfl); (· intro w2; go_simp; try with_reducible rfl))
    (try simp only [Act.put, List.setIfInBounds_toArray, List.set_cons_zero, List.set_cons_succ])
    ((with_reducible refine Ord.e_p (v := ?_) ?_ ?_ ?_ ?_); rotate_left; (· exact rfl); (· kernel_rfl); (· intro w2; go_simp; try with_reducible rfl))
    (try simp only [Act.put, List.setIfInBounds_toArray, List.set_cons_zero, List.set_cons_succ])
    ((with_reducible refine Ord.e_p (v := ?_) ?_ ?_ ?_ ?_); rotate_left; (· exact rfl); (· kernel_rfl); (· intro w2; go_simp; try with_reducible rfl))
    (try simp only [Act.put, List.setIfInBounds_toArray, List.set_cons_zero, List.set_cons_succ])
    ((with_reducible refine Ord.e_p (v := ?_) ?_ ?_ ?_ ?_); rotate_left; (· exact rfl); (· kernel_rfl); (· intro w2; go_simp; try with_reducible rfl))
    (try simp only [Act.put, List.setIfInBounds_toArray, List.set_cons_zero, List.set_cons_succ])
    refine Ord.e_nil ?_
    go_wp2
    go_ret
    exact ⟨rfl, hb⟩
  · simp only [Ord.lst, List.filterMap_cons, List.filterMap_nil, List.getElem?_toArray, List.getElem?_cons_succ, List.getElem?_cons_zero]
    refine Ord.e_rowS Try.underlying25 rfl (by kernel_rfl) rfl (by intro e; cases e) (fun w' hS => (show RcB w' w.heap.size 5 z12 from hS).all) hS (by kernel_rfl) ?_
    (try simp only [Act.put, List.setIfInBounds_toArray, List.set_cons_zero, List.set_cons_succ])
    refine Ord.e_rowS Try.underlying25 rfl (by kernel_rfl) rfl (by intro e; cases e) (fun w' hS => (show RcB w' w.heap.size 5 z12 from hS).all) hS (by kernel_rfl) ?_
    (try simp only [Act.put, List.setIfInBounds_toArray, List.set_cons_zero, List.set_cons_succ])
    refine Ord.e_x rfl (by kernel_rfl) ?_
    go_wp2_with fail
    go_fit (hd x0)
    rintro e x1 ⟨A5, c5, n5, rfl, own5, hbx⟩
    replace hb := bnx hb hbx
    replace hS : RcB _ w.heap.size 5 z12 := (hbx.block _ (blk_lt hS)).trans hS
    go_wp2_with fail
    refine Ord.Seg.go hS (fun _ => hbx) ?_
    (try simp only [Act.put, List.setIfInBounds_toArray, List.set_cons_zero, List.set_cons_succ])
    have r5 := Rd.own own5
    clear own5 hbx
    refine Ord.e_x rfl (by kernel_rfl) ?_
    go_wp2
    have r7 : Rd (x1.alloc (.cells #[.int .u8 0, .int .u8 0] 5)) (x1.heap.size + 1) 1 (some ⟨x1.heap.size, 0, none⟩) 2 2 (bv [0, 0]) := rd_const x1 5 [0, 0] (0, 0) (by simp [maxLen])
    have hbx : Below x1.heap.size x1 (x1.alloc (.cells #[.int .u8 0, .int .u8 0] 5)) := (Below.refl _ _).alloc (Nat.le_refl _) _
    have hsx : (x1.alloc (.cells #[.int .u8 0, .int .u8 0] 5)).heap.size = x1.heap.size + 1 := World.size_alloc _ _
    rw [← hsx] at r7
    replace hb := bnx hb hbx
    replace hS : RcB _ w.heap.size 5 z12 := (hbx.block _ (blk_lt hS)).trans hS
    replace r5 := r5.nx hbx
    refine Ord.Seg.go hS (fun _ => hbx) ?_
    (try simp only [Act.put, List.setIfInBounds_toArray, List.set_cons_zero, List.set_cons_succ])
    have Hsx := Lib.hid hsx
    clear hsx hbx
    generalize (x1.alloc (.cells #[.int .u8 0, .int .u8 0] 5)) = x2 at *
    refine Ord.e_str Try.underlying26 Try.underlying5 Try.underlying9 r7 rfl (by kernel_rfl) (by kernel_rfl) ?_
    (try simp only [Act.put, List.setIfInBounds_toArray, List.set_cons_zero, List.set_cons_succ])
    clear r7
    refine Ord.e_str Try.underlying26 Try.underlying5 Try.underlying9 r5 rfl (by kernel_rfl) (by kernel_rfl) ?_
    (try simp only [Act.put, List.setIfInBounds_toArray, List.set_cons_zero, List.set_cons_succ])
    clear r5
    ((with_reducible refine Ord.e_p (v := ?_) ?_ ?_ ?_ ?_); rotate_left; (· exact rfl); (· kernel_rfl); (· intro w2; go_simp; try with_reducible rfl))
    (try simp only [Act.put, List.setIfInBounds_toArray, List.set_cons_zero, List.set_cons_succ])
    ((with_reducible refine Ord.e_p (v := ?_) ?_ ?_ ?_ ?_); rotate_left; (· exact rfl); (· kernel_rfl); (· intro w2; go_simp; try with_reducible rfl))
    (try simp only [Act.put, List.setIfInBounds_toArray, List.set_cons_zero, List.set_cons_succ])
    refine Ord.e_rowS Try.underlying25 rfl (by kernel_rfl) rfl (by intro e; cases e) (fun w' hS => (show RcB w' w.heap.size 5 z12 from hS).all) hS (by kernel_rfl) ?_
    (try simp only [Act.put, List.setIfInBounds_toArray, List.set_cons_zero, List.set_cons_succ])
    refine Ord.e_x rfl (by kernel_rfl) ?_
    go_wp2_with fail
    go_fit (hk x2)
    rintro e x3 ⟨A9, c9, n9, rfl, own9, hbx9⟩
    replace hb := bnx hb hbx9
    replace hS : RcB _ w.heap.size 5 z12 := (hbx9.block _ (blk_lt hS)).trans hS
    have hl9 := own_len own9
    rw [Hkl.out] at hl9
    subst hl9
    go_wp2_with fail
    refine Ord.Seg.go hS (fun _ => hbx9) ?_
    (try simp only [Act.put, List.setIfInBounds_toArray, List.set_cons_zero, List.set_cons_succ])
    ((with_reducible refine Ord.e_p (v := ?_) ?_ ?_ ?_ ?_); rotate_left; (· exact rfl); (· kernel_rfl); (· intro w2; go_simp; try with_reducible rfl))
    (try simp only [Act.put, List.setIfInBounds_toArray, List.set_cons_zero, List.set_cons_succ])
    ((with_reducible refine Ord.e_p (v := ?_) ?_ ?_ ?_ ?_); rotate_left; (· exact rfl); (· kernel_rfl); (· intro w2; go_simp; try with_reducible rfl))
    (try simp only [Act.put, List.setIfInBounds_toArray, List.set_cons_zero, List.set_cons_succ])
    ((with_reducible refine Ord.e_p (v := ?_) ?_ ?_ ?_ ?_); rotate_left; (· exact rfl); (· kernel_rfl); (· intro w2; go_simp; try with_reducible rfl))
    (try simp only [Act.put, List.setIfInBounds_toArray, List.set_cons_zero, List.set_cons_succ])
    ((with_reducible refine Ord.e_p (v := ?_) ?_ ?_ ?_ ?_); rotate_left; (· exact rfl); (· kernel_rfl); (· intro w2; go_simp; try with_reducible rfl))
    (try simp only [Act.put, List.setIfInBounds_toArray, List.set_cons_zero, List.set_cons_succ])
    refine Ord.e_nil ?_
    go_wp2
    go_ret
    exact ⟨rfl, hb⟩
  · simp only [Ord.lst, List.filterMap_cons, List.filterMap_nil, List.getElem?_toArray, List.getElem?_cons_succ, List.getElem?_cons_zero]
    refine Ord.e_rowS Try.underlying25 rfl (by kernel_rfl) rfl (by intro e; cases e) (fun w' hS => (show RcB w' w.heap.size 5 z12 from hS).all) hS (by kernel_rfl) ?_
    (try simp only [Act.put, List.setIfInBounds_toArray, List.set_cons_zero, List.set_cons_succ])
    refine Ord.e_rowS Try.underlying25 rfl (by kernel_rfl) rfl (by intro e; cases e) (fun w' hS => (show RcB w' w.heap.size 5 z12 from hS).all) hS (by kernel_rfl) ?_
    (try simp only [Act.put, List.setIfInBounds_toArray, List.set_cons_zero, List.set_cons_succ])
    refine Ord.e_x rfl (by kernel_rfl) ?_
    go_wp2
    have r7 : Rd (x0.alloc (.cells #[.int .u8 0, .int .u8 0] 5)) (x0.heap.size + 1) 1 (some ⟨x0.heap.size, 0, none⟩) 2 2 (bv [0, 0]) := rd_const x0 5 [0, 0] (0, 0) (by simp [maxLen])
    have hbx : Below x0.heap.size x0 (x0.alloc (.cells #[.int .u8 0, .int .u8 0] 5)) := (Below.refl _ _).alloc (Nat.le_refl _) _
    have hsx : (x0.alloc (.cells #[.int .u8 0, .int .u8 0] 5)).heap.size = x0.heap.size + 1 := World.size_alloc _ _
    rw [← hsx] at r7
    replace hb := bnx hb hbx
    replace hS : RcB _ w.heap.size 5 z12 := (hbx.block _ (blk_lt hS)).trans hS
    refine Ord.Seg.go hS (fun _ => hbx) ?_
    (try simp only [Act.put, List.setIfInBounds_toArray, List.set_cons_zero, List.set_cons_succ])
    have Hsx := Lib.hid hsx
    clear hsx hbx
    generalize (x0.alloc (.cells #[.int .u8 0, .int .u8 0] 5)) = x1 at *
    refine Ord.e_x rfl (by kernel_rfl) ?_
    go_wp2_with fail
    go_fit (hd x1)
    rintro e x2 ⟨A5, c5, n5, rfl, own5, hbx⟩
    replace hb := bnx hb hbx
    replace hS : RcB _ w.heap.size 5 z12 := (hbx.block _ (blk_lt hS)).trans hS
    replace r7 := r7.nx hbx
    go_wp2_with fail
    refine Ord.Seg.go hS (fun _ => hbx) ?_
    (try simp only [Act.put, List.setIfInBounds_toArray, List.set_cons_zero, List.set_cons_succ])
    have r5 := Rd.own own5
    clear own5 hbx
    refine Ord.e_str Try.underlying26 Try.underlying5 Try.underlying9 r5 rfl (by kernel_rfl) (by kernel_rfl) ?_
    (try simp only [Act.put, List.setIfInBounds_toArray, List.set_cons_zero, List.set_cons_succ])
    clear r5
    refine Ord.e_str Try.underlying26 Try.underlying5 Try.underlying9 r7 rfl (by kernel_rfl) (by kernel_rfl) ?_
    (try simp only [Act.put, List.setIfInBounds_toArray, List.set_cons_zero, List.set_cons_succ])
    clear r7
    ((with_reducible refine Ord.e_p (v := ?_) ?_ ?_ ?_ ?_); rotate_left; (· exact rfl); (· kernel_rfl); (· intro w2; go_simp; try with_reducible rfl))
    (try simp only [Act.put, List.setIfInBounds_toArray, List.set_cons_zero, List.set_cons_succ])
    ((with_reducible refine Ord.e_p (v := ?_) ?_ ?_ ?_ ?_); rotate_left; (· exact rfl); (· kernel_rfl); (· intro w2; go_simp; try with_reducible rfl))
    (try simp only [Act.put, List.setIfInBounds_toArray, List.set_cons_zero, List.set_cons_succ])
    refine Ord.e_rowS Try.underlying25 rfl (by kernel_rfl) rfl (by intro e; cases e) (fun w' hS => (show RcB w' w.heap.size 5 z12 from hS).all) hS (by kernel_rfl) ?_
    (try simp only [Act.put, List.setIfInBounds_toArray, List.set_cons_zero, List.set_cons_succ])
    refine Ord.e_x rfl (by kernel_rfl) ?_
    go_wp2_with fail
    go_fit (hk x2)
    rintro e x3 ⟨A9, c9, n9, rfl, own9, hbx9⟩
    replace hb := bnx hb hbx9
    replace hS : RcB _ w.heap.size 5 z12 := (hbx9.block _ (blk_lt hS)).trans hS
    have hl9 := own_len own9
    rw [Hkl.out] at hl9
    subst hl9
    go_wp2_with fail
    refine Ord.Seg.go hS (fun _ => hbx9) ?_
    (try simp only [Act.put, List.setIfInBounds_toArray, List.set_cons_zero, List.set_cons_succ])
    ((with_reducible refine Ord.e_p (v := ?_) ?_ ?_ ?_ ?_); rotate_left; (· exact rfl); (· kernel_rfl); (· intro w2; go_simp; try with_reducible rfl))
    (try simp only [Act.put, List.setIfInBounds_toArray, List.set_cons_zero, List.set_cons_succ])
    ((with_reducible refine Ord.e_p (v := ?_) ?_ ?_ ?_ ?_); rotate_left; (· exact rfl); (· kernel_rfl); (· intro w2; go_simp; try with_reducible rfl))
    (try simp only [Act.put, List.setIfInBounds_toArray, List.set_cons_zero, List.set_cons_succ])
    ((with_reducible refine Ord.e_p (v := ?_) ?_ ?_ ?_ ?_); rotate_left; (· exact rfl); (· kernel_rfl); (· intro w2; go_simp; try with_reducible rfl))
    (try simp only [Act.put, List.setIfInBounds_toArray, List.set_cons_zero, List.set_cons_succ])
    ((with_reducible refine Ord.e_p (v := ?_) ?_ ?_ ?_ ?_); rotate_left; (· exact rfl); (· kernel_rfl); (· intro w2; go_simp; try with_reducible rfl))
    (try simp only [Act.put, List.setIfInBounds_toArray, List.set_cons_zero, List.set_cons_succ])
    refine Ord.e_nil ?_
    go_wp2
    go_ret
    exact ⟨rfl, hb⟩
  · simp only [Ord.lst, List.filterMap_cons, List.filterMap_nil, List.getElem?_toArray, List.getElem?_cons_succ, List.getElem?_cons_zero]
    refine Ord.e_rowS Try.underlying25 rfl (by kernel_rfl) rfl (by intro e; cases e) (fun w' hS => (show RcB w' w.heap.size 5 z12 from hS).all) hS (by kernel_rfl) ?_
    (try simp only [Act.put, List.setIfInBounds_toArray, List.set_cons_zero, List.set_cons_succ])
    refine Ord.e_rowS Try.underlying25 rfl (by kernel_rfl) rfl (by intro e; cases e) (fun w' hS => (show RcB w' w.heap.size 5 z12 from hS).all) hS (by kernel_rfl) ?_
    (try simp only [Act.put, List.setIfInBounds_toArray, List.set_cons_zero, List.set_cons_succ])
    refine Ord.e_x rfl (by kernel_rfl) ?_
    go_wp2
    have r7 : Rd (x0.alloc (.cells #[.int .u8 0, .int .u8 0] 5)) (x0.heap.size + 1) 1 (some ⟨x0.heap.size, 0, none⟩) 2 2 (bv [0, 0]) := rd_const x0 5 [0, 0] (0, 0) (by simp [maxLen])
    have hbx : Below x0.heap.size x0 (x0.alloc (.cells #[.int .u8 0, .int .u8 0] 5)) := (Below.refl _ _).alloc (Nat.le_refl _) _
    have hsx : (x0.alloc (.cells #[.int .u8 0, .int .u8 0] 5)).heap.size = x0.heap.size + 1 := World.size_alloc _ _
    rw [← hsx] at r7
    replace hb := bnx hb hbx
    replace hS : RcB _ w.heap.size 5 z12 := (hbx.block _ (blk_lt hS)).trans hS
    refine Ord.Seg.go hS (fun _ => hbx) ?_
    (try simp only [Act.put, List.setIfInBounds_toArray, List.set_cons_zero, List.set_cons_succ])
    have Hsx := Lib.hid hsx
    clear hsx hbx
    generalize (x0.alloc (.cells #[.int .u8 0, .int .u8 0] 5)) = x1 at *
    refine Ord.e_x rfl (by kernel_rfl) ?_
    go_wp2_with fail
    go_fit (hd x1)
    rintro e x2 ⟨A5, c5, n5, rfl, own5, hbx⟩
    replace hb := bnx hb hbx
    replace hS : RcB _ w.heap.size 5 z12 := (hbx.block _ (blk_lt hS)).trans hS
    replace r7 := r7.nx hbx
    go_wp2_with fail
    refine Ord.Seg.go hS (fun _ => hbx) ?_
    (try simp only [Act.put, List.setIfInBounds_toArray, List.set_cons_zero, List.set_cons_succ])
    have r5 := Rd.own own5
    clear own5 hbx
    refine Ord.e_str Try.underlying26 Try.underlying5 Try.underlying9 r7 rfl (by kernel_rfl) (by kernel_rfl) ?_
    (try simp only [Act.put, List.setIfInBounds_toArray, List.set_cons_zero, List.set_cons_succ])
    clear r7
    refine Ord.e_str Try.underlying26 Try.underlying5 Try.underlying9 r5 rfl (by kernel_rfl) (by kernel_rfl) ?_
    (try simp only [Act.put, List.setIfInBounds_toArray, List.set_cons_zero, List.set_cons_succ])
    clear r5
    ((with_reducible refine Ord.e_p (v := ?_) ?_ ?_ ?_ ?_); rotate_left; (· exact rfl); (· kernel_rfl); (· intro w2; go_simp; try with_reducible rfl))
    (try simp only [Act.put, List.setIfInBounds_toArray, List.set_cons_zero, List.set_cons_succ])
    ((with_reducible refine Ord.e_p (v := ?_) ?_ ?_ ?_ ?_); rotate_left; (· exact rfl); (· kernel_rfl); (· intro w2; go_simp; try with_reducible rfl))
    (try simp only [Act.put, List.setIfInBounds_toArray, List.set_cons_zero, List.set_cons_succ])
    refine Ord.e_rowS Try.underlying25 rfl (by kernel_rfl) rfl (by intro e; cases e) (fun w' hS => (show RcB w' w.heap.size 5 z12 from hS).all) hS (by kernel_rfl) ?_
    (try simp only [Act.put, List.setIfInBounds_toArray, List.set_cons_zero, List.set_cons_succ])
    refine Ord.e_x rfl (by kernel_rfl) ?_
    go_wp2_with fail
    go_fit (hk x2)
    rintro e x3 ⟨A9, c9, n9, rfl, own9, hbx9⟩
    replace hb := bnx hb hbx9
    replace hS : RcB _ w.heap.size 5 z12 := (hbx9.block _ (blk_lt hS)).trans hS
    have hl9 := own_len own9
    rw [Hkl.out] at hl9
    subst hl9
    go_wp2_with fail
    refine Ord.Seg.go hS (fun _ => hbx9) ?_
    (try simp only [Act.put, List.setIfInBounds_toArray, List.set_cons_zero, List.set_cons_succ])
    ((with_reducible refine Ord.e_p (v := ?_) ?_ ?_ ?_ ?_); rotate_left; (· exact rfl); (· kernel_rfl); (· intro w2; go_simp; try with_reducible rfl))
    (try simp only [Act.put, List.setIfInBounds_toArray, List.set_cons_zero, List.set_cons_succ])
    ((with_reducible refine Ord.e_p (v := ?_) ?_ ?_ ?_ ?_); rotate_left; (· exact rfl); (· kernel_rfl); (· intro w2; go_simp; try with_reducible rfl))
    (try simp only [Act.put, List.setIfInBounds_toArray, List.set_cons_zero, List.set_cons_succ])
    ((with_reducible refine Ord.e_p (v := ?_) ?_ ?_ ?_ ?_); rotate_left; (· exact rfl); (· kernel_rfl); (· intro w2; go_simp; try with_reducible rfl))
    (try simp only [Act.put, List.setIfInBounds_toArray, List.set_cons_zero, List.set_cons_succ])
    ((with_reducible refine Ord.e_p (v := ?_) ?_ ?_ ?_ ?_); rotate_left; (· exact rfl); (· kernel_rfl); (· intro w2; go_simp; try with_reducible rfl))
    (try simp only [Act.put, List.setIfInBounds_toArray, List.set_cons_zero, List.set_cons_succ])
    refine Ord.e_nil ?_
    go_wp2
    go_ret
    exact ⟨rfl, hb⟩
  · simp only [Ord.lst, List.filterMap_cons, List.filterMap_nil, List.getElem?_toArray, List.getElem?_cons_succ, List.getElem?_cons_zero]
    refine Ord.e_rowS Try.underlying25 rfl (by kernel_rfl) rfl (by intro e; cases e) (fun w' hS => (show RcB w' w.heap.size 5 z12 from hS).all) hS (by kernel_rfl) ?_
    (try simp only [Act.put, List.setIfInBounds_toArray, List.set_cons_zero, List.set_cons_succ])
    refine Ord.e_rowS Try.underlying25 rfl (by kernel_rfl) rfl (by intro e; cases e) (fun w' hS => (show RcB w' w.heap.size 5 z12 from hS).all) hS (by kernel_rfl) ?_
    (try simp only [Act.put, List.setIfInBounds_toArray, List.set_cons_zero, List.set_cons_succ])
    refine Ord.e_x rfl (by kernel_rfl) ?_
    go_wp2
    have r7 : Rd (x0.alloc (.cells #[.int .u8 0, .int .u8 0] 5)) (x0.heap.size + 1) 1 (some ⟨x0.heap.size, 0, none⟩) 2 2 (bv [0, 0]) := rd_const x0 5 [0, 0] (0, 0) (by simp [maxLen])
    have hbx : Below x0.heap.size x0 (x0.alloc (.cells #[.int .u8 0, .int .u8 0] 5)) := (Below.refl _ _).alloc (Nat.le_refl _) _
    have hsx : (x0.alloc (.cells #[.int .u8 0, .int .u8 0] 5)).heap.size = x0.heap.size + 1 := World.size_alloc _ _
    rw [← hsx] at r7
    replace hb := bnx hb hbx
    replace hS : RcB _ w.heap.size 5 z12 := (hbx.block _ (blk_lt hS)).trans hS
    refine Ord.Seg.go hS (fun _ => hbx) ?_
    (try simp only [Act.put, List.setIfInBounds_toArray, List.set_cons_zero, List.set_cons_succ])
    have Hsx := Lib.hid hsx
    clear hsx hbx
    generalize (x0.alloc (.cells #[.int .u8 0, .int .u8 0] 5)) = x1 at *
    refine Ord.e_str Try.underlying26 Try.underlying5 Try.underlying9 r7 rfl (by kernel_rfl) (by kernel_rfl) ?_
    (try simp only [Act.put, List.setIfInBounds_toArray, List.set_cons_zero, List.set_cons_succ])
    clear r7
    refine Ord.e_x rfl (by kernel_rfl) ?_
    go_wp2_with fail
    go_fit (hd x1)
    rintro e x2 ⟨A5, c5, n5, rfl, own5, hbx⟩
    replace hb := bnx hb hbx
    replace hS : RcB _ w.heap.size 5 z12 := (hbx.block _ (blk_lt hS)).trans hS
    go_wp2_with fail
    refine Ord.Seg.go hS (fun _ => hbx) ?_
    (try simp only [Act.put, List.setIfInBounds_toArray, List.set_cons_zero, List.set_cons_succ])
    have r5 := Rd.own own5
    clear own5 hbx
    refine Ord.e_str Try.underlying26 Try.underlying5 Try.underlying9 r5 rfl (by kernel_rfl) (by kernel_rfl) ?_
    (try simp only [Act.put, List.setIfInBounds_toArray, List.set_cons_zero, List.set_cons_succ])
    clear r5
    ((with_reducible refine Ord.e_p (v := ?_) ?_ ?_ ?_ ?_); rotate_left; (· exact rfl); (· kernel_rfl); (· intro w2; go_simp; try with_reducible rfl))
    (try simp only [Act.put, List.setIfInBounds_toArray, List.set_cons_zero, List.set_cons_succ])
    ((with_reducible refine Ord.e_p (v := ?_) ?_ ?_ ?_ ?_); rotate_left; (· exact rfl); (· kernel_rfl); (· intro w2; go_simp; try with_reducible rfl))
    (try simp only [Act.put, List.setIfInBounds_toArray, List.set_cons_zero, List.set_cons_succ])
    refine Ord.e_rowS Try.underlying25 rfl (by kernel_rfl) rfl (by intro e; cases e) (fun w' hS => (show RcB w' w.heap.size 5 z12 from hS).all) hS (by kernel_rfl) ?_
    (try simp only [Act.put, List.setIfInBounds_toArray, List.set_cons_zero, List.set_cons_succ])
    refine Ord.e_x rfl (by kernel_rfl) ?_
    go_wp2_with fail
    go_fit (hk x2)
    rintro e x3 ⟨A9, c9, n9, rfl, own9, hbx9⟩
    replace hb := bnx hb hbx9
    replace hS : RcB _ w.heap.size 5 z12 := (hbx9.block _ (blk_lt hS)).trans hS
    have hl9 := own_len own9
    rw [Hkl.out] at hl9
    subst hl9
    go_wp2_with fail
    refine Ord.Seg.go hS (fun _ => hbx9) ?_
    (try simp only [Act.put, List.setIfInBounds_toArray, List.set_cons_zero, List.set_cons_succ])
    ((with_reducible refine Ord.e_p (v := ?_) ?_ ?_ ?_ ?_); rotate_left; (· exact rfl); (· kernel_rfl); (· intro w2; go_simp; try with_reducible rfl))
    (try simp only [Act.put, List.setIfInBounds_toArray, List.set_cons_zero, List.set_cons_succ])
    ((with_reducible refine Ord.e_p (v := ?_) ?_ ?_ ?_ ?_); rotate_left; (· exact rfl); (· kernel_rfl); (· intro w2; go_simp; try with_reducible rfl))
    (try simp only [Act.put, List.setIfInBounds_toArray, List.set_cons_zero, List.set_cons_succ])
    ((with_reducible refine Ord.e_p (v := ?_) ?_ ?_ ?_ ?_); rotate_left; (· exact rfl); (· kernel_rfl); (· intro w2; go_simp; try with_reducible rfl))
    (try simp only [Act.put, List.setIfInBounds_toArray, List.set_cons_zero, List.set_cons_succ])
    ((with_reducible refine Ord.e_p (v := ?_) ?_ ?_ ?_ ?_); rotate_left; (· exact rfl); (· kernel_rfl); (· intro w2; go_simp; try with_reducible rfl))
    (try simp only [Act.put, List.setIfInBounds_toArray, List.set_cons_zero, List.set_cons_succ])
    refine Ord.e_nil ?_
    go_wp2
    go_ret
    exact ⟨rfl, hb⟩

set_option maxRecDepth 10000 in
set_option maxHeartbeats 4000000 in
theorem recputs_any (t : Nat) (V : List Int) (t' : Nat) (V' : List Int) (w : World) (ht : t < 4294967296) (hV : V.length = 12) (h32 : ∀ x ∈ V, in32 x) (ht' : t' < 4294967296) (hV' : V'.length = 12) (h32' : ∀ x ∈ V', in32 x) :
    Calls Try.prog 3 #[.agg (rcC t V).toArray, .agg (rcC t' V').toArray] w fun e w' => e = .returned (.bool true) ∧ Below w.heap.size w w' := by
  have HV := Lib.hid hV
  have HV' := Lib.hid hV'
  have hk := fun w => recKey_any t' V' w ht' hV' h32'
  have hq := fun w => qrecKey_any t' V' w ht' hV' h32'
  have hd := fun w => recDelta_any t V t' V' w ht hV h32 ht' hV' h32'
  have hqd := fun w => qrecDelta_any t V t' V' w ht hV h32 ht' hV' h32'
  generalize recK t' V' = K at *
  generalize recD t V t' V' = D at *
  have Hk := Lib.hid hk
  have Hq := Lib.hid hq
  have Hd := Lib.hid hd
  have Hqd := Lib.hid hqd
  clear hV hV' h32 h32' hk hq hd hqd ht ht'
  obtain ⟨a0, a1, hs, hb⟩ := al2 w (.cells (rcC t V).toArray 25) (.cells (rcC t' V').toArray 25)
  go_enter Try.func3, Try.ntmps3
  go_wp2_with fail
  generalize ((w.alloc (.cells (rcC t V).toArray 25)).alloc (.cells (rcC t' V').toArray 25)) = w1 at *
  replace a0 : RcB w1 w.heap.size t V := a0
  replace a1 : RcB w1 (w.heap.size + 1) t' V' := a1
  clear hs
  refine Ord.region_ (fun w' => RcB w' w.heap.size t V ∧ RcB w' (w.heap.size + 1) t' V') true [7, 10, 16, 20] (by kernel_rfl) (by kernel_rfl) ⟨a0, a1⟩ ?_
  have hS : RcB w1.drew w.heap.size t V ∧ RcB w1.drew (w.heap.size + 1) t' V' := ⟨a0, a1⟩
  replace hb := hb.drew
  generalize w1.drew = w2 at *
  clear a0 a1 w1
  refine Ord.e_rowS Try.underlying25 rfl (by rw [rcC_size t' V' HV'.out]; kernel_rfl) rfl (by intro e; cases e) (fun w' hS => (show _ ∧ RcB w' (w.heap.size + 1) t' V' from hS).2.all) hS (by kernel_rfl) ?_
  (try simp only [Act.put, List.setIfInBounds_toArray, List.set_cons_zero, List.set_cons_succ])
  refine Ord.e_x rfl (by kernel_rfl) ?_
  go_wp2_with fail
  go_fit (Hk.out w2)
  rintro e w3 ⟨A3, c3, n3, rfl, own3, hbx⟩
  replace hb := bnx hb hbx
  replace hS : RcB w3 w.heap.size t V ∧ RcB w3 (w.heap.size + 1) t' V' := ⟨(hbx.block _ (blk_lt hS.1)).trans hS.1, (hbx.block _ (blk_lt hS.2)).trans hS.2⟩
  go_wp2_with fail
  refine Ord.Seg.go hS (fun _ => hbx) ?_
  (try simp only [Act.put, List.setIfInBounds_toArray, List.set_cons_zero, List.set_cons_succ])
  clear hbx
  refine Ord.e_str Try.underlying26 Try.underlying5 Try.underlying9 (Rd.own own3) rfl (by kernel_rfl) (by kernel_rfl) ?_
  (try simp only [Act.put, List.setIfInBounds_toArray, List.set_cons_zero, List.set_cons_succ])
  clear own3
  refine Ord.e_rowS Try.underlying25 rfl (by rw [rcC_size t' V' HV'.out]; kernel_rfl) rfl (by intro e; cases e) (fun w' hS => (show _ ∧ RcB w' (w.heap.size + 1) t' V' from hS).2.all) hS (by kernel_rfl) ?_
  (try simp only [Act.put, List.setIfInBounds_toArray, List.set_cons_zero, List.set_cons_succ])
  refine Ord.e_x rfl (by kernel_rfl) ?_
  go_wp2_with fail
  go_fit (Hq.out w3)
  rintro e w4 ⟨A4, c4, n4, rfl, own4, hbx⟩
  replace hb := bnx hb hbx
  replace hS : RcB w4 w.heap.size t V ∧ RcB w4 (w.heap.size + 1) t' V' := ⟨(hbx.block _ (blk_lt hS.1)).trans hS.1, (hbx.block _ (blk_lt hS.2)).trans hS.2⟩
  go_wp2_with fail
  refine Ord.Seg.go hS (fun _ => hbx) ?_
  (try simp only [Act.put, List.setIfInBounds_toArray, List.set_cons_zero, List.set_cons_succ])
  clear hbx
  refine Ord.e_str Try.underlying26 Try.underlying5 Try.underlying9 (Rd.own own4) rfl (by kernel_rfl) (by kernel_rfl) ?_
  (try simp only [Act.put, List.setIfInBounds_toArray, List.set_cons_zero, List.set_cons_succ])
  clear own4
  ((with_reducible refine Ord.e_p (v := ?_) ?_ ?_ ?_ ?_); rotate_left; (· exact rfl); (· kernel_rfl); (· intro w2; go_simp; try with_reducible rfl))
  (try simp only [Act.put, List.setIfInBounds_toArray, List.set_cons_zero, List.set_cons_succ])
  ((with_reducible refine Ord.e_p (v := ?_) ?_ ?_ ?_ ?_); rotate_left; (· exact rfl); (· kernel_rfl); (· intro w2; go_simp; try with_reducible rfl))
  (try simp only [Act.put, List.setIfInBounds_toArray, List.set_cons_zero, List.set_cons_succ])
  refine Ord.e_rowS Try.underlying25 rfl (by rw [rcC_size t V HV.out]; kernel_rfl) rfl (by intro e; cases e) (fun w' hS => (show RcB w' w.heap.size t V ∧ _ from hS).1.all) hS (by kernel_rfl) ?_
  (try simp only [Act.put, List.setIfInBounds_toArray, List.set_cons_zero, List.set_cons_succ])
  refine Ord.e_rowS Try.underlying25 rfl (by rw [rcC_size t' V' HV'.out]; kernel_rfl) rfl (by intro e; cases e) (fun w' hS => (show _ ∧ RcB w' (w.heap.size + 1) t' V' from hS).2.all) hS (by kernel_rfl) ?_
  (try simp only [Act.put, List.setIfInBounds_toArray, List.set_cons_zero, List.set_cons_succ])
  refine Ord.e_x rfl (by kernel_rfl) ?_
  go_wp2_with fail
  go_fit (Hd.out w4)
  rintro e w5 ⟨A5, c5, n5, rfl, own5, hbx⟩
  replace hb := bnx hb hbx
  replace hS : RcB w5 w.heap.size t V ∧ RcB w5 (w.heap.size + 1) t' V' := ⟨(hbx.block _ (blk_lt hS.1)).trans hS.1, (hbx.block _ (blk_lt hS.2)).trans hS.2⟩
  go_wp2_with fail
  refine Ord.Seg.go hS (fun _ => hbx) ?_
  (try simp only [Act.put, List.setIfInBounds_toArray, List.set_cons_zero, List.set_cons_succ])
  clear hbx
  refine Ord.e_str Try.underlying26 Try.underlying5 Try.underlying9 (Rd.own own5) rfl (by kernel_rfl) (by kernel_rfl) ?_
  (try simp only [Act.put, List.setIfInBounds_toArray, List.set_cons_zero, List.set_cons_succ])
  clear own5
  refine Ord.e_rowS Try.underlying25 rfl (by rw [rcC_size t V HV.out]; kernel_rfl) rfl (by intro e; cases e) (fun w' hS => (show RcB w' w.heap.size t V ∧ _ from hS).1.all) hS (by kernel_rfl) ?_
  (try simp only [Act.put, List.setIfInBounds_toArray, List.set_cons_zero, List.set_cons_succ])
  refine Ord.e_rowS Try.underlying25 rfl (by rw [rcC_size t' V' HV'.out]; kernel_rfl) rfl (by intro e; cases e) (fun w' hS => (show _ ∧ RcB w' (w.heap.size + 1) t' V' from hS).2.all) hS (by kernel_rfl) ?_
  (try simp only [Act.put, List.setIfInBounds_toArray, List.set_cons_zero, List.set_cons_succ])
  refine Ord.e_x rfl (by kernel_rfl) ?_
  go_wp2_with fail
  go_fit (Hqd.out w5)
  rintro e w6 ⟨A6, c6, n6, rfl, own6, hbx⟩
  replace hb := bnx hb hbx
  replace hS : RcB w6 w.heap.size t V ∧ RcB w6 (w.heap.size + 1) t' V' := ⟨(hbx.block _ (blk_lt hS.1)).trans hS.1, (hbx.block _ (blk_lt hS.2)).trans hS.2⟩
  go_wp2_with fail
  refine Ord.Seg.go hS (fun _ => hbx) ?_
  (try simp only [Act.put, List.setIfInBounds_toArray, List.set_cons_zero, List.set_cons_succ])
  clear hbx
  refine Ord.e_str Try.underlying26 Try.underlying5 Try.underlying9 (Rd.own own6) rfl (by kernel_rfl) (by kernel_rfl) ?_
  (try simp only [Act.put, List.setIfInBounds_toArray, List.set_cons_zero, List.set_cons_succ])
  clear own6
  ((with_reducible refine Ord.e_p (v := ?_) ?_ ?_ ?_ ?_); rotate_left; (· exact rfl); (· kernel_rfl); (· intro w2; go_simp; try with_reducible rfl))
  (try simp only [Act.put, List.setIfInBounds_toArray, List.set_cons_zero, List.set_cons_succ])
  ((with_reducible refine Ord.e_p (v := ?_) ?_ ?_ ?_ ?_); rotate_left; (· exact rfl); (· kernel_rfl); (· intro w2; go_simp; try with_reducible rfl))
  (try simp only [Act.put, List.setIfInBounds_toArray, List.set_cons_zero, List.set_cons_succ])
  ((with_reducible refine Ord.e_p (v := ?_) ?_ ?_ ?_ ?_); rotate_left; (· exact rfl); (· kernel_rfl); (· intro w2; go_simp; try with_reducible rfl))
  (try simp only [Act.put, List.setIfInBounds_toArray, List.set_cons_zero, List.set_cons_succ])
  refine Ord.e_x rfl (by kernel_rfl) ?_
  go_wp2_with fail
  go_fit (knows34 w6)
  rintro e w7 ⟨rfl, hb67⟩
  have hb7 := bnx hb hb67
  go_wp2_with fail
  refine Ord.Seg.go ⟨(hb67.block _ (blk_lt hS.1)).trans hS.1, (hb67.block _ (blk_lt hS.2)).trans hS.2⟩ (fun _ => hb67) ?_
  (try simp only [Act.put, List.setIfInBounds_toArray, List.set_cons_zero, List.set_cons_succ])
  ((with_reducible refine Ord.e_p (v := ?_) ?_ ?_ ?_ ?_); rotate_left; (· exact rfl); (· kernel_rfl); (· intro w2; go_simp; try with_reducible rfl))
  (try simp only [Act.put, List.setIfInBounds_toArray, List.set_cons_zero, List.set_cons_succ])
  ((with_reducible refine Ord.e_p (v := ?_) ?_ ?_ ?_ ?_); rotate_left; (· exact rfl); (· kernel_rfl); (· intro w2; go_simp; try with_reducible rfl))
  (try simp only [Act.put, List.setIfInBounds_toArray, List.set_cons_zero, List.set_cons_succ])
  refine Ord.e_nil ?_
  go_wp2
  go_ret
  exact ⟨rfl, hb7⟩

/-- RecSize walked. -/
theorem rcC_one (t : Nat) (V : List Int) : ∀ v ∈ rcC t V, v.oneCell' = true := fun v hv => by
  rcases List.mem_cons.1 hv with rfl | hv
  · rfl
  · obtain ⟨x, _, rfl⟩ := List.mem_map.1 hv
    rfl
theorem rcC_set (t t2 : Nat) (V : List Int) : (rcC t V).toArray.setIfInBounds 0 (.int .u32 (t2 : Int)) = (rcC t2 V).toArray := by
  unfold rcC
  simp
set_option maxRecDepth 10000 in
set_option maxHeartbeats 4000000 in
theorem recsize_any (t : Nat) (V : List Int) (t' : Nat) (V' : List Int) (d : Nat) (w : World) (ht : t < 4294967296) (hV : V.length = 12) (h32 : ∀ x ∈ V, in32 x) (ht' : t' < 4294967296) (hV' : V'.length = 12) (h32' : ∀ x ∈ V', in32 x) (hd : d < 256) :
    Calls Try.prog 4 #[.agg (rcC t V).toArray, .agg (rcC t' V').toArray, .int .u8 (d : Int)] w fun e w' => e = .returned (.bool true) ∧ Below w.heap.size w w' := by
  have HV := Lib.hid hV
  have HV' := Lib.hid hV'
  obtain ⟨t2, ht2⟩ : ∃ t2, t2 = (t + d % 128) % 4294967296 := ⟨_, rfl⟩
  have hw : IntKind.u32.wrap ((t : Int) + (d : Int) % 128) = (t2 : Int) := by rw [IntKind.wrap_u32, ht2]; omega
  have hd1 := fun w => recDelta_any t V t' V' w ht hV h32 ht' hV' h32'
  have hd2 := fun w => recDelta_any t V t2 V w ht hV h32 (by omega) hV h32
  have hl1 := recD_len (t := t) (t' := t') hV hV' h32 h32'
  have hl2 := recD_two (t := t) (d := d % 128) (V := V) ht (by omega)
  rw [← ht2] at hl2
  generalize recD t V t' V' = D1 at *
  generalize recD t V t2 V = D2 at *
  have Hd1 := Lib.hid hd1
  have Hd2 := Lib.hid hd2
  have Hl1 := Lib.hid hl1
  have Hl2 := Lib.hid hl2
  clear hV hV' h32 h32' hd1 hd2 hl1 hl2 ht ht' ht2
  obtain ⟨a0, a1, hs, hb⟩ := al2 w (.cells (rcC t V).toArray 25) (.cells (rcC t' V').toArray 25)
  go_enter Try.func4, Try.ntmps4
  go_wp2_with (first | (with_reducible refine stop_loadT 25 ?_) | (with_reducible refine stop_storeT 25 ?_))
  generalize ((w.alloc (.cells (rcC t V).toArray 25)).alloc (.cells (rcC t' V').toArray 25)) = w1 at *
  replace a0 : RcB w1 w.heap.size t V := a0
  replace a1 : RcB w1 (w.heap.size + 1) t' V' := a1
  refine go_ (wpList_load_mid rfl _ _ rfl w.heap.size 0 rfl _ _ a0.all Try.underlying25 rfl (by rw [rcC_size t V HV.out]; kernel_rfl) ?_)
  go_wp2_with (first | (with_reducible refine stop_loadT 25 ?_) | (with_reducible refine stop_storeT 25 ?_))
  have a2 := heap_alloc_new w1 (.cells #[.int .u32 0, .int .i32 0, .int .i32 0, .int .i32 0, .int .i32 0, .int .i32 0, .int .i32 0, .int .i32 0, .int .i32 0, .int .i32 0, .int .i32 0, .int .i32 0, .int .i32 0] 25)
  have hbx : Below w1.heap.size w1 (w1.alloc (.cells #[.int .u32 0, .int .i32 0, .int .i32 0, .int .i32 0, .int .i32 0, .int .i32 0, .int .i32 0, .int .i32 0, .int .i32 0, .int .i32 0, .int .i32 0, .int .i32 0, .int .i32 0] 25)) := (Below.refl _ _).alloc (Nat.le_refl _) _
  replace hb := bnx hb hbx
  replace a0 : RcB (w1.alloc (.cells #[.int .u32 0, .int .i32 0, .int .i32 0, .int .i32 0, .int .i32 0, .int .i32 0, .int .i32 0, .int .i32 0, .int .i32 0, .int .i32 0, .int .i32 0, .int .i32 0, .int .i32 0] 25)) w.heap.size t V := blk_old a0 hbx (blk_lt a0)
  replace a1 : RcB (w1.alloc (.cells #[.int .u32 0, .int .i32 0, .int .i32 0, .int .i32 0, .int .i32 0, .int .i32 0, .int .i32 0, .int .i32 0, .int .i32 0, .int .i32 0, .int .i32 0, .int .i32 0, .int .i32 0] 25)) (w.heap.size + 1) t' V' := blk_old a1 hbx (blk_lt a1)
  rw [hs] at a2
  generalize (w1.alloc (.cells #[.int .u32 0, .int .i32 0, .int .i32 0, .int .i32 0, .int .i32 0, .int .i32 0, .int .i32 0, .int .i32 0, .int .i32 0, .int .i32 0, .int .i32 0, .int .i32 0, .int .i32 0] 25)) = w2 at *
  clear hbx hs w1
  refine go_ (wpList_store_row rfl _ _ _ rfl (w.heap.size + 2) (rcC t V).toArray rfl rfl _ _ a2 (by rw [List.size_toArray, rcC_size t V HV.out]; kernel_rfl) (by simp [rcC_size t V HV.out]) (all_oneCell_toArray (rcC_one t V)) ?_)
  have hA : Aw (fun k => k = w.heap.size + 2) w2 (w2.setRow (w.heap.size + 2) (rcC t V).toArray) := ⟨setRow_os w2 _ _, setRow_tape w2 _ _, setRow_output w2 _ _, by rw [setRow_size]; exact Nat.le_refl _, fun k _ hu => setRow_other w2 _ k _ hu⟩
  replace a2 : RcB (w2.setRow (w.heap.size + 2) (rcC t V).toArray) (w.heap.size + 2) t V := setRow_heap _ _ _ _ _ _ a2
  replace a0 : RcB (w2.setRow (w.heap.size + 2) (rcC t V).toArray) w.heap.size t V := hA.keep a0 (by omega)
  replace a1 : RcB (w2.setRow (w.heap.size + 2) (rcC t V).toArray) (w.heap.size + 1) t' V' := hA.keep a1 (by omega)
  replace hb := below_awG hb hA (fun k hk => by omega) hb.size
  generalize w2.setRow (w.heap.size + 2) (rcC t V).toArray = w3 at *
  clear hA
  have c2 := a2.time
  have f2 : w3.frozen? ⟨w.heap.size + 2, 0, none⟩ = false := blk_free (i := 0) a2
  go_wp2_with (first | (with_reducible refine stop_loadT 25 ?_) | (with_reducible refine stop_storeT 25 ?_))
  have hA : Aw (fun k => k = w.heap.size + 2) w3 (w3.setCell ⟨w.heap.size + 2, 0, none⟩ (.int .u32 (t2 : Int))) := (Aw.refl _ _).set _ rfl
  replace a2 := blk_set (i := 0) a2 (.int .u32 (t2 : Int))
  rw [rcC_set] at a2
  replace a2 : RcB (w3.setCell ⟨w.heap.size + 2, 0, none⟩ (.int .u32 (t2 : Int))) (w.heap.size + 2) t2 V := a2
  replace a0 : RcB (w3.setCell ⟨w.heap.size + 2, 0, none⟩ (.int .u32 (t2 : Int))) w.heap.size t V := hA.keep a0 (by omega)
  replace a1 : RcB (w3.setCell ⟨w.heap.size + 2, 0, none⟩ (.int .u32 (t2 : Int))) (w.heap.size + 1) t' V' := hA.keep a1 (by omega)
  replace hb := below_awG hb hA (fun k hk => by omega) hb.size
  generalize (w3.setCell ⟨w.heap.size + 2, 0, none⟩ (.int .u32 (t2 : Int))) = w4 at *
  clear hA c2 f2
  refine go_ (wpList_load_mid rfl _ _ rfl w.heap.size 0 rfl _ _ a0.all Try.underlying25 rfl (by rw [rcC_size t V HV.out]; kernel_rfl) ?_)
  go_wp2_with (first | (with_reducible refine stop_loadT 25 ?_) | (with_reducible refine stop_storeT 25 ?_))
  refine go_ (wpList_load_mid rfl _ _ rfl (w.heap.size + 1) 0 rfl _ _ a1.all Try.underlying25 rfl (by rw [rcC_size t' V' HV'.out]; kernel_rfl) ?_)
  go_wp2_with fail
  go_fit (Hd1.out w4)
  rintro e w5 ⟨A5, c5, n5, rfl, own5, hbx⟩
  have hl5 := own_len own5
  have hL5 := Hl1.out
  rw [hl5] at hL5
  replace a0 : RcB w5 w.heap.size t V := blk_old a0 hbx (blk_lt a0)
  replace a2 : RcB w5 (w.heap.size + 2) t2 V := blk_old a2 hbx (blk_lt a2)
  replace hb := bnx hb hbx
  clear hbx own5 a1 hl5
  go_wp2_with (first | (with_reducible refine stop_loadT 25 ?_) | (with_reducible refine stop_storeT 25 ?_))
  refine go_ (wpList_load_mid rfl _ _ rfl w.heap.size 0 rfl _ _ a0.all Try.underlying25 rfl (by rw [rcC_size t V HV.out]; kernel_rfl) ?_)
  go_wp2_with (first | (with_reducible refine stop_loadT 25 ?_) | (with_reducible refine stop_storeT 25 ?_))
  refine go_ (wpList_load_mid rfl _ _ rfl (w.heap.size + 2) 0 rfl _ _ a2.all Try.underlying25 rfl (by rw [rcC_size t2 V HV.out]; kernel_rfl) ?_)
  go_wp2_with fail
  go_fit (Hd2.out w5)
  rintro e w6 ⟨A6, c6, n6, rfl, own6, hbx⟩
  have hl6 := own_len own6
  rw [Hl2.out] at hl6
  subst hl6
  replace hb := bnx hb hbx
  obtain ⟨hL5a, hL5b⟩ := hL5
  have hi1 : (2 : Int) ≤ (n5 : Int) := by omega
  have hi2 : (n5 : Int) ≤ 67 := by omega
  clear hbx own6 a0 a2
  go_wp2_with fail
  go_fit (knows34 w6)
  rintro e w7 ⟨rfl, hbx⟩
  have hb7 := bnx hb hbx
  go_wp2
  go_ret
  exact ⟨rfl, hb7⟩

end Go.Proofs.Ytplgcfjcdjlnbaa

/-
  rec's eye: next and by, walked.
-/
set_option linter.unusedSimpArgs false
set_option linter.unusedVariables false
namespace Go.Proofs.Ytplgcfjcdjlnbaa
open Go.RowKit NumLaw
attribute [local go_sem] Addr.add_mid

/-- An eye's block. -/
def EyeB (w : World) (g : Nat) (A : Option Addr) (n c k e : Nat) : Prop := w.heap[g]? = some (.cells #[.slice A n c, .int .i64 (k : Int), .int .i64 (e : Int)] 125)
/-- The error of a number that was read. -/
def nxE (q : Nat × Nat × Nat) (most : Nat) : Nat := if q.2.2 = 0 then if most < q.1 then 5 else 0 else q.2.2
theorem nextBad_any (g : Nat) (A : Option Addr) (n c k e most : Nat) (w : World) (h : EyeB w g A n c k e) (he : e ≠ 0) :
    Calls Try.prog 83 #[.pointer (some ⟨g, 0, none⟩), .int .u64 (most : Int)] w fun x w' => x = .returned (.int .u64 0) ∧ w = w' := by
  have c2 := blk_cell (i := 2) (v := .int .i64 (e : Int)) h rfl
  have he' : ¬ (e : Int) = 0 := by omega
  go_enter Try.func83, Try.ntmps83
  go_wp2
  go_ret
  exact ⟨rfl, rfl⟩
set_option maxRecDepth 10000 in
set_option maxHeartbeats 2000000 in
theorem next34_any (g : Nat) (A : Option Addr) (n c k B most : Nat) (b : List UInt8) (w : World) (hE : EyeB w g A n c k 0) (h : Rd w B 1 A n c (bv b)) (hB : B ≤ w.heap.size) (hk : k ≤ n) (hn : n ≤ 1000000) (hm : most < 18446744073709551616) :
    Calls Try.prog 83 #[.pointer (some ⟨g, 0, none⟩), .int .u64 (most : Int)] w fun x w' =>
      x = .returned (.int .u64 ((varT (b.drop k)).1 : Int)) ∧ EyeB w' g A n c (k + (varT (b.drop k)).2.1) (nxE (varT (b.drop k)) most) ∧ Aw (fun j => j = g) w w' := by
  have hlb := h.blen
  have hle := h.le
  have hmx := h.max
  unfold maxLen at hmx
  obtain ⟨i0, hi⟩ := info_parts u8_info
  have hcut : ∀ w, (Instr.slice 26 (.slice A n c) (some (.int .i64 (k : Int))) none none).run Try.prog w = .ok (.slice (cutA A c k 1) (n - k) (c - k)) w := fun w => run_cut_l (P := Try.prog) Try.underlying26 hi.1 hi.2.2.1 A n c k hk w
  have hd := h.up (w' := w.drew) (Below.refl _ _).drew
  have hd := hd.bdrop hk
  have htk := varyTake_any (cutA A c k 1) (n - k) (c - k) B (b.drop k) w.drew hd
  unfold RetTk at htk
  have hq : (varT (b.drop k)).2.1 ≤ n := by
    by_cases hz : (varT (b.drop k)).2.2 = 0
    · have := (varT_back hz).2.1
      rw [List.length_drop, hlb] at this
      omega
    · have := (varTL_none (b.drop k) 0 hz).2
      unfold varT
      omega
  have hu : (varT (b.drop k)).1 < 18446744073709551616 := by
    by_cases hz : (varT (b.drop k)).2.2 = 0
    · exact (varT_back hz).2.2.2
    · have := (varTL_none (b.drop k) 0 hz).1
      unfold varT
      omega
  generalize varT (b.drop k) = q at *
  obtain ⟨u, m, er⟩ := q
  simp only at htk hq hu ⊢
  have Hd := Lib.hid htk
  have hE2 : EyeB w.drew g A n c k 0 := hE
  have hA0 : Aw (fun j => j = g) w w.drew := (Aw.refl _ w).drew
  obtain ⟨kk, hkk⟩ : ∃ kk, kk = k + m := ⟨_, rfl⟩
  have hwk : IntKind.i64.wrap (kk : Int) = (kk : Int) := by rw [IntKind.wrap_i64]; omega
  have hwk2 : (k : Int) + (m : Int) = (kk : Int) := by omega
  have Hkk := Lib.hid hkk
  clear hkk
  clear htk hd hlb hi hle hmx
  have c2 := blk_cell (i := 2) (v := .int .i64 0) hE rfl
  have c0 : w.drew.cell? ⟨g, 0, none⟩ = _ := blk_cell (i := 0) (v := .slice A n c) hE rfl
  have c1 : w.drew.cell? ⟨g, 1, none⟩ = _ := blk_cell (i := 1) (v := .int .i64 (k : Int)) hE rfl
  go_enter Try.func83, Try.ntmps83
  go_wp2_with fail
  refine Ord.region_ (fun w' => EyeB w' g A n c k 0) false [] (by kernel_rfl) (by kernel_rfl) hE2 ?_
  generalize w.drew = w1 at *
  ((with_reducible refine Ord.e_p (v := ?_) ?_ ?_ ?_ ?_); rotate_left; (· exact rfl); (· kernel_rfl); (· intro w2; go_simp; try with_reducible rfl))
  (try simp only [Act.put, List.setIfInBounds_toArray, List.set_cons_zero, List.set_cons_succ])
  ((with_reducible refine Ord.e_p (v := ?_) ?_ ?_ ?_ ?_); rotate_left; (· exact rfl); (· kernel_rfl); (· intro w2; go_simp; try with_reducible rfl))
  (try simp only [Act.put, List.setIfInBounds_toArray, List.set_cons_zero, List.set_cons_succ])
  ((with_reducible refine Ord.e_p (v := ?_) ?_ ?_ ?_ ?_); rotate_left; (· exact rfl); (· kernel_rfl); (· intro w2; go_simp; try with_reducible rfl))
  (try simp only [Act.put, List.setIfInBounds_toArray, List.set_cons_zero, List.set_cons_succ])
  refine Ord.e_loadS Try.underlying26 rfl (fun w' hS => blk_cell (i := 0) (v := .slice A n c) (show EyeB w' g A n c k 0 from hS) rfl) hE2 rfl (by kernel_rfl) ?_
  (try simp only [Act.put, List.setIfInBounds_toArray, List.set_cons_zero, List.set_cons_succ])
  ((with_reducible refine Ord.e_p (v := ?_) ?_ ?_ ?_ ?_); rotate_left; (· exact rfl); (· kernel_rfl); (· intro w2; go_simp; try with_reducible rfl))
  (try simp only [Act.put, List.setIfInBounds_toArray, List.set_cons_zero, List.set_cons_succ])
  ((with_reducible refine Ord.e_p (v := ?_) ?_ ?_ ?_ ?_); rotate_left; (· exact rfl); (· kernel_rfl); (· intro w2; go_simp; try with_reducible rfl))
  (try simp only [Act.put, List.setIfInBounds_toArray, List.set_cons_zero, List.set_cons_succ])
  ((with_reducible refine Ord.e_p (v := ?_) ?_ ?_ ?_ ?_); rotate_left; (· exact rfl); (· kernel_rfl); (· intro w2; go_simp; try with_reducible rfl))
  (try simp only [Act.put, List.setIfInBounds_toArray, List.set_cons_zero, List.set_cons_succ])
  refine Ord.e_loadS Try.underlying3 rfl (fun w' hS => blk_cell (i := 1) (v := .int .i64 (k : Int)) (show EyeB w' g A n c k 0 from hS) rfl) hE2 rfl (by kernel_rfl) ?_
  (try simp only [Act.put, List.setIfInBounds_toArray, List.set_cons_zero, List.set_cons_succ])
  ((with_reducible refine Ord.e_p (v := ?_) ?_ ?_ ?_ ?_); rotate_left; (· exact rfl); (· kernel_rfl); (· intro w2; go_simp; try with_reducible rfl))
  (try simp only [Act.put, List.setIfInBounds_toArray, List.set_cons_zero, List.set_cons_succ])
  refine Ord.e_x rfl (by kernel_rfl) ?_
  go_wp2_with fail
  go_fit Hd.out
  rintro e w2 ⟨rfl, rfl⟩
  go_wp2_with fail
  refine Ord.Seg.go hE2 (fun h => by cases h) ?_
  (try simp only [Act.put, List.setIfInBounds_toArray, List.set_cons_zero, List.set_cons_succ])
  ((with_reducible refine Ord.e_p (v := ?_) ?_ ?_ ?_ ?_); rotate_left; (· exact rfl); (· kernel_rfl); (· intro w2; go_simp; try with_reducible rfl))
  (try simp only [Act.put, List.setIfInBounds_toArray, List.set_cons_zero, List.set_cons_succ])
  ((with_reducible refine Ord.e_p (v := ?_) ?_ ?_ ?_ ?_); rotate_left; (· exact rfl); (· kernel_rfl); (· intro w2; go_simp; try with_reducible rfl))
  (try simp only [Act.put, List.setIfInBounds_toArray, List.set_cons_zero, List.set_cons_succ])
  ((with_reducible refine Ord.e_p (v := ?_) ?_ ?_ ?_ ?_); rotate_left; (· exact rfl); (· kernel_rfl); (· intro w2; go_simp; try with_reducible rfl))
  (try simp only [Act.put, List.setIfInBounds_toArray, List.set_cons_zero, List.set_cons_succ])
  ((with_reducible refine Ord.e_p (v := ?_) ?_ ?_ ?_ ?_); rotate_left; (· exact rfl); (· kernel_rfl); (· intro w2; go_simp; try with_reducible rfl))
  (try simp only [Act.put, List.setIfInBounds_toArray, List.set_cons_zero, List.set_cons_succ])
  ((with_reducible refine Ord.e_p (v := ?_) ?_ ?_ ?_ ?_); rotate_left; (· exact rfl); (· kernel_rfl); (· intro w2; go_simp; try with_reducible rfl))
  (try simp only [Act.put, List.setIfInBounds_toArray, List.set_cons_zero, List.set_cons_succ])
  ((with_reducible refine Ord.e_p (v := ?_) ?_ ?_ ?_ ?_); rotate_left; (· exact rfl); (· kernel_rfl); (· intro w2; go_simp; try with_reducible rfl))
  (try simp only [Act.put, List.setIfInBounds_toArray, List.set_cons_zero, List.set_cons_succ])
  ((with_reducible refine Ord.e_p (v := ?_) ?_ ?_ ?_ ?_); rotate_left; (· exact rfl); (· kernel_rfl); (· intro w2; go_simp; try with_reducible rfl))
  (try simp only [Act.put, List.setIfInBounds_toArray, List.set_cons_zero, List.set_cons_succ])
  refine Ord.e_nil ?_
  have f1 := blk_free (i := 1) hE2
  have f2 := blk_free (i := 2) hE2
  have c2' := blk_cell (i := 2) (v := .int .i64 0) hE2 rfl
  clear c2 hcut Hd
  by_cases hz : er = 0
  · subst hz
    by_cases hb : most < u
    · have hb' : (most : Int) < (u : Int) := by omega
      have g1 := blk_set (i := 2) hE2 (.int .i64 5)
      have k1 := blk_cell (i := 1) (v := .int .i64 (k : Int)) g1 rfl
      have k2 := blk_free (i := 1) g1
      have g2 := blk_set (i := 1) g1 (.int .i64 (kk : Int))
      have e5 : nxE (u, m, 0) most = 5 := by unfold nxE; rw [if_pos rfl, if_pos hb]
      have E5 := Lib.hid e5
      have hAA : Aw (fun j => j = g) w ((w1.setCell ⟨g, 2, none⟩ (.int .i64 5)).setCell ⟨g, 1, none⟩ (.int .i64 (kk : Int))) := (hA0.set (p := ⟨g, 2, none⟩) _ rfl).set (p := ⟨g, 1, none⟩) _ rfl
      clear e5 g1
      go_wp2
      go_ret
      exact ⟨rfl, by rw [E5.out, ← Hkk.out]; exact g2, hAA⟩
    · have hb' : ¬ (most : Int) < (u : Int) := by omega
      have g2 := blk_set (i := 1) hE2 (.int .i64 (kk : Int))
      have e5 : nxE (u, m, 0) most = 0 := by unfold nxE; rw [if_pos rfl, if_neg hb]
      have E5 := Lib.hid e5
      have hAA : Aw (fun j => j = g) w (w1.setCell ⟨g, 1, none⟩ (.int .i64 (kk : Int))) := hA0.set (p := ⟨g, 1, none⟩) _ rfl
      clear e5
      go_wp2
      go_ret
      exact ⟨rfl, by rw [E5.out, ← Hkk.out]; exact g2, hAA⟩
  · have hz' : ¬ (er : Int) = 0 := by omega
    have g1 := blk_set (i := 2) hE2 (.int .i64 (er : Int))
    have k1 := blk_cell (i := 1) (v := .int .i64 (k : Int)) g1 rfl
    have k2 := blk_free (i := 1) g1
    have g2 := blk_set (i := 1) g1 (.int .i64 (kk : Int))
    have e5 : nxE (u, m, er) most = er := by unfold nxE; rw [if_neg hz]
    have E5 := Lib.hid e5
    have hAA : Aw (fun j => j = g) w ((w1.setCell ⟨g, 2, none⟩ (.int .i64 (er : Int))).setCell ⟨g, 1, none⟩ (.int .i64 (kk : Int))) := (hA0.set (p := ⟨g, 2, none⟩) _ rfl).set (p := ⟨g, 1, none⟩) _ rfl
    clear e5 g1
    go_wp2
    go_ret
    exact ⟨rfl, by rw [E5.out, ← Hkk.out]; exact g2, hAA⟩

/-- The error of a number by which another one changes. -/
def byE (q : Nat × Nat × Nat) (x : Int) : Nat := if q.2.2 = 0 then if zagV q.1 = 0 ∨ x + zagV q.1 < -2147483648 ∨ 2147483647 < x + zagV q.1 then 5 else 0 else q.2.2
theorem zag_far {u : Nat} (h : 8589934592 < u) : zagV u < -4294967296 ∨ 4294967296 < zagV u := by
  unfold zagV
  split <;> omega
theorem i32_wrap_in {y : Int} (h : -2147483648 ≤ y ∧ y ≤ 2147483647) : IntKind.i32.wrap y = y := by rw [IntKind.wrap_i32]; omega
theorem i32_wrap_out {y : Int} (h : y < -2147483648 ∨ 2147483647 < y) : ¬ y = IntKind.i32.wrap y := by rw [IntKind.wrap_i32]; omega
theorem i32_wrap_rng (y : Int) : -2147483648 ≤ IntKind.i32.wrap y ∧ IntKind.i32.wrap y ≤ 2147483647 := by rw [IntKind.wrap_i32]; omega
set_option maxRecDepth 10000 in
set_option maxHeartbeats 2000000 in
theorem by34_any (g : Nat) (A : Option Addr) (n c k B : Nat) (x : Int) (b : List UInt8) (w : World) (hE : EyeB w g A n c k 0) (h : Rd w B 1 A n c (bv b)) (hB : B ≤ w.heap.size) (hk : k ≤ n) (hn : n ≤ 1000000) (hx : in32 x) :
    Calls Try.prog 84 #[.pointer (some ⟨g, 0, none⟩), .int .i32 x] w fun e w' => ∃ z : Int,
      e = .returned (.int .i32 z) ∧ in32 z ∧ EyeB w' g A n c (k + (varT (b.drop k)).2.1) (byE (varT (b.drop k)) x) ∧ Aw (fun j => j = g) w w' ∧ (byE (varT (b.drop k)) x = 0 → z = x + zagV (varT (b.drop k)).1) := by
  have hz := varyZig_any 4294967296 w (by omega)
  rw [show ((zigV 4294967296 : Nat) : Int) = 8589934592 from rfl] at hz
  have hnx := next34_any g A n c k B 8589934592 b w hE h hB hk hn (by omega)
  rw [show ((8589934592 : Nat) : Int) = 8589934592 from rfl] at hnx
  have hu : (varT (b.drop k)).1 < 18446744073709551616 := by
    by_cases hz : (varT (b.drop k)).2.2 = 0
    · exact (varT_back hz).2.2.2
    · have := (varTL_none (b.drop k) 0 hz).1
      unfold varT
      omega
  have hu0 : (varT (b.drop k)).2.2 ≠ 0 → (varT (b.drop k)).1 = 0 := fun hz => (varTL_none (b.drop k) 0 hz).1
  unfold in32 at hx
  generalize varT (b.drop k) = q at *
  obtain ⟨u, m, er⟩ := q
  simp only at hnx hu hu0 ⊢
  have hzr := zag_in hu
  have hzg := fun w => varyZag_any u w hu
  obtain ⟨d, hd⟩ : ∃ d, d = zagV u := ⟨_, rfl⟩
  rw [← hd] at hzg hzr
  obtain ⟨y, hy⟩ : ∃ y, y = IntKind.i64.wrap (x + d) := ⟨_, rfl⟩
  obtain ⟨z, hzz⟩ : ∃ z, z = IntKind.i32.wrap y := ⟨_, rfl⟩
  have hzin : -2147483648 ≤ z ∧ z ≤ 2147483647 := by rw [hzz]; exact i32_wrap_rng y
  have Hby : Hid (nxE (u, m, er) 8589934592 = 0 → ((byE (u, m, er) x = if (d = 0 ∨ ¬ y = z) then 5 else 0) ∧ (¬ (d = 0 ∨ ¬ y = z) → z = x + d))) := Lib.hid (fun h0 => by
    unfold nxE at h0
    simp only at h0
    split at h0
    · rename_i her
      split at h0
      · cases h0
      · rename_i hfar
        have hdr : -4294967296 ≤ d ∧ d ≤ 4294967296 := by rw [hd]; unfold zagV; split <;> omega
        have hy2 : y = x + d := by rw [hy, IntKind.wrap_i64]; omega
        unfold byE
        simp only
        rw [if_pos her, ← hd]
        have hcond : (d = 0 ∨ x + d < -2147483648 ∨ 2147483647 < x + d) ↔ (d = 0 ∨ ¬ y = z) := by
          constructor
          · rintro (h | h)
            · exact .inl h
            · refine .inr ?_
              rw [hzz, hy2]
              exact i32_wrap_out h
          · rintro (h | h)
            · exact .inl h
            · by_cases hin : -2147483648 ≤ x + d ∧ x + d ≤ 2147483647
              · rw [hzz, hy2, i32_wrap_in hin] at h
                exact absurd rfl h
              · omega
        refine ⟨?_, fun h => ?_⟩
        · by_cases hc : d = 0 ∨ ¬ y = z
          · rw [if_pos hc, if_pos (hcond.2 hc)]
          · rw [if_neg hc, if_neg (fun h => hc (hcond.1 h))]
        · have h' : ¬ (d = 0 ∨ x + d < -2147483648 ∨ 2147483647 < x + d) := fun hh => h (hcond.1 hh)
          rw [hzz, hy2, i32_wrap_in (by omega)]
    · exact absurd h0 (by assumption))
  have Hbad : Hid (nxE (u, m, er) 8589934592 ≠ 0 → byE (u, m, er) x = nxE (u, m, er) 8589934592) := Lib.hid (fun h0 => by
    unfold nxE byE at *
    simp only at *
    split at h0
    · rename_i her
      split at h0
      · rename_i hfar
        rw [if_pos her, if_pos her, if_pos hfar]
        have := zag_far hfar
        rw [if_pos (by omega)]
      · exact absurd rfl h0
    · rename_i her
      rw [if_neg her, if_neg her])
  have Hd := Lib.hid hd
  have hsum : IntKind.i64.wrap (x + d) = y := hy.symm
  have hcv : IntKind.i32.wrap y = z := hzz.symm
  have Hnx := Lib.hid hnx
  generalize nxE (u, m, er) 8589934592 = ne at *
  clear hnx hd hy hzz hu0
  go_enter Try.func84, Try.ntmps84
  go_wp2_with fail
  go_fit hz
  rintro e w1 ⟨rfl, rfl⟩
  go_wp2_with fail
  go_fit Hnx.out
  rintro e w2 ⟨rfl, hE2, hA2⟩
  go_wp2_with fail
  go_fit (hzg w2)
  rintro e w3 ⟨rfl, rfl⟩
  have c2 := blk_cell (i := 2) (v := .int .i64 (ne : Int)) hE2 rfl
  have f2 := blk_free (i := 2) hE2
  clear hzg hz
  by_cases hne : ne = 0
  · obtain ⟨e1, e2⟩ := Hby.out hne
    subst hne
    by_cases hd0 : d = 0
    · rw [if_pos (.inl hd0)] at e1
      have g2 := blk_set (i := 2) hE2 (.int .i64 5)
      have E1 := Lib.hid e1
      have hAA : Aw (fun j => j = g) w (w2.setCell ⟨g, 2, none⟩ (.int .i64 5)) := hA2.set (p := ⟨g, 2, none⟩) _ rfl
      have E2 := Lib.hid e2
      clear e1 e2
      go_wp2
      go_ret
      exact ⟨x, rfl, hx, by rw [E1.out]; exact g2, hAA, fun h => by rw [E1.out] at h; cases h⟩
    · by_cases hyz : y = z
      · rw [if_neg (by rintro (h | h); exact hd0 h; exact h hyz)] at e1
        have E1 := Lib.hid e1
        have e3 := e2 (by rintro (h | h); exact hd0 h; exact h hyz)
        have E2 := Lib.hid e3
        clear e1 e2 e3
        go_wp2
        go_ret
        exact ⟨z, rfl, hzin, by rw [E1.out]; exact hE2, hA2, fun _ => by rw [← Hd.out]; exact E2.out⟩
      · rw [if_pos (.inr hyz)] at e1
        have hyb : (y != z) = true := bne_iff_ne.2 hyz
        have g2 := blk_set (i := 2) hE2 (.int .i64 5)
        have E1 := Lib.hid e1
        have hAA : Aw (fun j => j = g) w (w2.setCell ⟨g, 2, none⟩ (.int .i64 5)) := hA2.set (p := ⟨g, 2, none⟩) _ rfl
        have E2 := Lib.hid e2
        clear e1 e2
        go_wp2
        go_ret
        exact ⟨z, rfl, hzin, by rw [E1.out]; exact g2, hAA, fun h => by rw [E1.out] at h; cases h⟩
  · have e1 := Hbad.out hne
    have hne' : ¬ (ne : Int) = 0 := by omega
    have E1 := Lib.hid e1
    have HN := Lib.hid hne
    clear e1 hne
    go_wp2
    go_ret
    exact ⟨z, rfl, hzin, by rw [E1.out]; exact hE2, hA2, fun h => by rw [E1.out] at h; exact absurd h HN.out⟩

end Go.Proofs.Ytplgcfjcdjlnbaa

/-
  rec.TakeKey and the document's, walked.
-/
set_option linter.unusedSimpArgs false
set_option linter.unusedVariables false
namespace Go.Proofs.Ytplgcfjcdjlnbaa
open Go.RowKit NumLaw
attribute [local go_sem] Addr.add_mid

/-- A number of a whole record. -/
def kvAt (b : List UInt8) (i : Nat) : Int := sgn 4 (num ((b.drop (4 + 4 * i)).take 4))
def kvs (b : List UInt8) : List Int := (List.range 12).map (kvAt b)
theorem kvs_len (b : List UInt8) : (kvs b).length = 12 := by unfold kvs; rw [List.length_map, List.length_range]
theorem kvs_at (b : List UInt8) {k : Nat} (hk : k < 12) : (kvs b)[k]? = some (kvAt b k) := by
  unfold kvs
  rw [List.getElem?_map, List.getElem?_range hk]
  rfl
theorem sgn4_32 {m : Nat} (h : m < 4294967296) : in32 (sgn 4 m) := by
  unfold sgn in32
  simp
  split <;> omega
theorem num4_lt (l : List UInt8) (h : l.length ≤ 4) : num l < 4294967296 := by
  have h1 := num_lt l
  have h2 : 256 ^ l.length ≤ 256 ^ 4 := Nat.pow_le_pow_right (by omega) h
  have h3 : (256 : Nat) ^ 4 = 4294967296 := by decide
  omega
theorem kvAt_32 (b : List UInt8) (i : Nat) : in32 (kvAt b i) := sgn4_32 (num4_lt _ (by rw [List.length_take]; omega))
theorem kvs_32 (b : List UInt8) : ∀ x ∈ kvs b, in32 x := fun x hx => by
  obtain ⟨i, _, rfl⟩ := List.mem_map.1 hx
  exact kvAt_32 b i
/-- The new numbers up to place k, the old ones behind it. -/
def VK (new old : List Int) (k : Nat) : List Int := new.take k ++ old.drop k
theorem VK_zero (new old : List Int) : VK new old 0 = old := by simp [VK]
theorem VK_full {new old : List Int} (h : new.length = 12) (h' : old.length = 12) : VK new old 12 = new := by
  unfold VK
  rw [List.take_of_length_le (by omega), List.drop_eq_nil_of_le (by omega), List.append_nil]
theorem VK_len {new old : List Int} {k : Nat} (h : new.length = 12) (h' : old.length = 12) (hk : k ≤ 12) : (VK new old k).length = 12 := by
  unfold VK
  rw [List.length_append, List.length_take, List.length_drop]
  omega
theorem VK_set {new old : List Int} {k : Nat} {x : Int} (hx : new[k]? = some x) (ho : k < old.length) : (VK new old k).set k x = VK new old (k + 1) := by
  have hk := (List.getElem?_eq_some_iff.1 hx).1
  unfold VK
  rw [take_succ hx, List.drop_eq_getElem_cons ho, List.set_append]
  rw [if_neg (by rw [List.length_take]; omega), List.length_take, Nat.min_eq_left (by omega), Nat.sub_self, List.set_cons_zero]
  simp
theorem rcC_setV (t : Nat) (V : List Int) (k : Nat) (x : Int) : (rcC t V).toArray.setIfInBounds (1 + k) (.int .i32 x) = (rcC t (V.set k x)).toArray := by
  unfold rcC
  rw [Nat.add_comm]
  simp [List.map_set]
theorem results_cell3 {P : Program} {fn : Func} {p q r : Tmp} {ty : TypeId} (h : fn.results = #[.cell p ty, .tmp q, .tmp r]) (tmps : Array Value) (w : World) (g : Nat) (t : TypeId) (cs : Array Value) (fr : Nat × Nat) (d : TypeDesc)
    (hp : tmps.getD p undef = .pointer (some ⟨g, 0, none⟩)) (hg : w.heap[g]? = some (.cells cs t fr))
    (hu : P.underlying ty = some d) (hd : (match d with | .struct _ | .array _ _ => true | _ => false) = true) (hi : (P.info? ty).map (·.size) = some cs.size) :
    (results fn tmps).run P w = .ok (.tuple #[.agg cs, tmps.getD q undef, tmps.getD r undef]) w := by
  have hp' : tmps[p]?.getD undef = .pointer (some ⟨g, 0, none⟩) := by simpa using hp
  simp [results, h, hp', asAddr, run_loadVar_row w g t ty cs fr d hg hu hd hi]
theorem rd4G (l : List UInt8) (h : ¬ l.length < 4) : rdF (nU 4) l false = false ∧ rdB (nU 4) l false = l.take 4 ∧ rdL (nU 4) l false = l.drop 4 := by
  have h1 : rdF (nU 4) l false = false := by
    unfold rdF
    rw [show nU 4 = 4 from rfl]
    simp
    omega
  refine ⟨h1, ?_, ?_⟩
  · unfold rdB; rw [h1]; rfl
  · unfold rdL; rw [h1]; rfl
theorem iV4 (l : List UInt8) (h : ¬ l.length < 4) : iV 4 l false = sgn 4 (num (l.take 4)) := by
  obtain ⟨h1, h2, _⟩ := rd4G l h
  have h1' : rdF 4 l false = false := h1
  have h2' : rdB 4 l false = l.take 4 := h2
  unfold iV
  rw [if_neg (by omega), h1', h2']
  rfl
theorem cut52 (b : List UInt8) {k : Nat} (hk : k < 12) : ((b.take 52).drop (4 + 4 * k)).take 4 = (b.drop (4 + 4 * k)).take 4 := by
  rw [List.drop_take, List.take_take]
  congr 1
  omega
theorem rc_store (t : Nat) (V : List Int) (hV : V.length = 12) (w : World) (g : Nat) {old : Array Value} (ho : w.heap[g]? = some (.cells old 25)) :
    RcB (w.setRow g (rcC t V).toArray) g t V ∧ Aw (fun k => k = g) w (w.setRow g (rcC t V).toArray) :=
  ⟨setRow_heap _ _ _ _ _ _ ho, ⟨setRow_os w _ _, setRow_tape w _ _, setRow_output w _ _, by rw [setRow_size]; exact Nat.le_refl _, fun k _ hu => setRow_other w _ k _ hu⟩⟩
/-- What a whole record's taking returns. -/
def keT (b : List UInt8) : Nat := if b.length < 52 then 0 else num (b.take 4)
def keV (b : List UInt8) : List Int := if b.length < 52 then z12 else kvs b
def keN (b : List UInt8) : Nat := if b.length < 52 then 0 else 52
def keE (b : List UInt8) : Nat := if b.length < 52 then 2 else 0
theorem keV_len (b : List UInt8) : (keV b).length = 12 := by unfold keV; split; rfl; exact kvs_len b
def RetRec (t : Nat) (V : List Int) (n er : Nat) (w : World) (e : Ending) (w' : World) : Prop :=
  e = .returned (.tuple #[.agg (rcC t V).toArray, .int .i64 (n : Int), .int .i64 (er : Int)]) ∧ Below w.heap.size w w'
set_option maxRecDepth 10000 in
set_option maxHeartbeats 4000000 in
theorem takeKey_any (A : Option Addr) (n c B : Nat) (b : List UInt8) (w : World) (h : Rd w B 1 A n c (bv b)) (hB : B ≤ w.heap.size) (hn : n ≤ 1000000) :
    Calls Try.prog 26 #[.slice A n c] w (RetRec (keT b) (keV b) (keN b) (keE b) w) := by
  have hlb := h.blen
  have hle := h.le
  have hmx := h.max
  unfold maxLen at hmx
  obtain ⟨i0, hi⟩ := info_parts u8_info
  have hb1 : Below w.heap.size w (w.alloc (.cells #[.int .u32 0, .int .i32 0, .int .i32 0, .int .i32 0, .int .i32 0, .int .i32 0, .int .i32 0, .int .i32 0, .int .i32 0, .int .i32 0, .int .i32 0, .int .i32 0, .int .i32 0] 25)) := (Below.refl _ _).alloc (Nat.le_refl _) _
  have hres := heap_alloc_new w (.cells #[.int .u32 0, .int .i32 0, .int .i32 0, .int .i32 0, .int .i32 0, .int .i32 0, .int .i32 0, .int .i32 0, .int .i32 0, .int .i32 0, .int .i32 0, .int .i32 0, .int .i32 0] 25)
  have Hlb := Lib.hid hlb
  by_cases h52 : n < 52
  · have e1 : keT b = 0 := by unfold keT; rw [if_pos (by omega)]
    have e2 : keV b = z12 := by unfold keV; rw [if_pos (by omega)]
    have e3 : keN b = 0 := by unfold keN; rw [if_pos (by omega)]
    have e4 : keE b = 2 := by unfold keE; rw [if_pos (by omega)]
    rw [e1, e2, e3, e4]
    clear hlb hi e1 e2 e3 e4
    go_enter Try.func26, Try.ntmps26
    go_wp2_with (first | (with_reducible refine stop_loadT 25 ?_) | (with_reducible refine stop_storeT 25 ?_))
    generalize (w.alloc (.cells #[.int .u32 0, .int .i32 0, .int .i32 0, .int .i32 0, .int .i32 0, .int .i32 0, .int .i32 0, .int .i32 0, .int .i32 0, .int .i32 0, .int .i32 0, .int .i32 0, .int .i32 0] 25)) = w1 at *
    replace hres : RcB w1 w.heap.size 0 z12 := hres
    refine go_ (wpList_store_row rfl _ _ _ rfl w.heap.size (rcC 0 z12).toArray rfl rfl _ _ hres (by kernel_rfl) (by kernel_rfl) (by kernel_rfl) ?_)
    obtain ⟨hz, hAz⟩ := rc_store 0 z12 rfl w1 w.heap.size hres
    have hbz := below_awG hb1 hAz (fun k hk => by omega) hb1.size
    generalize (w1.setRow w.heap.size (rcC 0 z12).toArray) = w5 at *
    go_wp2
    exact bodyPost_ret (results_cell3 (fn := Try.f26) Try.results26 _ _ w.heap.size _ _ _ _ rfl hz Try.underlying25 rfl (by kernel_rfl)) rfl ⟨rfl, hbz⟩
  have e1 : keT b = num (b.take 4) := by unfold keT; rw [if_neg (by omega)]
  have e2 : keV b = kvs b := by unfold keV; rw [if_neg (by omega)]
  have e3 : keN b = 52 := by unfold keN; rw [if_neg (by omega)]
  have e4 : keE b = 0 := by unfold keE; rw [if_neg (by omega)]
  rw [e1, e2, e3, e4]
  have hTl := num4_lt (b.take 4) (by rw [List.length_take]; omega)
  obtain ⟨T, hT⟩ : ∃ T, T = num (b.take 4) := ⟨_, rfl⟩
  rw [← hT] at hTl ⊢
  have hwk : IntKind.u32.wrap (T : Int) = (T : Int) := by rw [IntKind.wrap_u32]; omega
  have HT := Lib.hid hT
  clear hlb e1 e2 e3 e4 hT
  have hcut : ∀ w, (Instr.slice 26 (.slice A n c) none (some (.int .i64 52)) none).run Try.prog w = .ok (.slice A 52 c) w := run_cut_h (P := Try.prog) Try.underlying26 hi.1 A n c 52 (by omega)
  clear hi
  go_enter Try.func26, Try.ntmps26
  go_wp2_with fail
  generalize (w.alloc (.cells #[.int .u32 0, .int .i32 0, .int .i32 0, .int .i32 0, .int .i32 0, .int .i32 0, .int .i32 0, .int .i32 0, .int .i32 0, .int .i32 0, .int .i32 0, .int .i32 0, .int .i32 0] 25)) = w1 at *
  replace hres : RcB w1 w.heap.size 0 z12 := hres
  go_fit (rNew_any A 52 c B (b.take 52) w1 ((h.up (hb1.mono hB)).btake (by omega)) (Nat.le_trans hB hb1.size) (by omega))
  rintro e w2 ⟨g, rfl, hrd, hlg, hb12⟩
  have hb2 := bnx hb1 hb12
  have hgs : w.heap.size < g := Nat.lt_of_lt_of_le (blk_lt hres) hlg
  replace hres : RcB w2 w.heap.size 0 z12 := blk_old hres hb12 (blk_lt hres)
  clear hcut hb1 hb12
  have hl52 : (b.take 52).length = 52 := by rw [List.length_take, Hlb.out]; omega
  have Hl52 := Lib.hid hl52
  obtain ⟨f1, f2, f3⟩ := rd4G (b.take 52) (by omega)
  go_wp2_with fail
  go_fit (rU_any w1.heap.size g (b.take 52) false 4 w2 hrd)
  rw [f1, f2, f3, List.take_take, show min 4 52 = 4 from rfl, ← HT.out]
  rintro e w3 ⟨rfl, hrd3, hgr⟩
  have hres3 : RcB w3 w.heap.size 0 z12 := (hgr.block _ (blk_lt hres) (fun e => by injection e with e; omega)).trans hres
  have hb3 := Below.grown hb2 hgr hb2.size (fun j hj => by injection hj with hj; omega)
  have hlg3 : g < w3.heap.size := hrd3.1.elim fun _ h => h.elim fun _ h => h.elim fun _ h => h.1.lt
  have hbx : Below w3.heap.size w3 (w3.alloc (.cells #[.int .u32 T, .int .i32 0, .int .i32 0, .int .i32 0, .int .i32 0, .int .i32 0, .int .i32 0, .int .i32 0, .int .i32 0, .int .i32 0, .int .i32 0, .int .i32 0, .int .i32 0] 25)) := (Below.refl _ _).alloc (Nat.le_refl _) _
  have hbox := heap_alloc_new w3 (.cells #[.int .u32 T, .int .i32 0, .int .i32 0, .int .i32 0, .int .i32 0, .int .i32 0, .int .i32 0, .int .i32 0, .int .i32 0, .int .i32 0, .int .i32 0, .int .i32 0, .int .i32 0] 25)
  have hres4 := blk_old hres3 hbx (blk_lt hres3)
  have hrd4 := hrd3.keep (grownBy_of hbx none) (fun _ e => by cases e)
  have hb4 := bnx hb3 hbx
  have hw3s : w.heap.size < w3.heap.size := blk_lt hres3
  clear hres hres3 hrd hrd3 hgr hb2 hb3 hbx hl52 f1 f2 f3
  go_wp2_with fail
  generalize (w3.alloc (.cells #[.int .u32 T, .int .i32 0, .int .i32 0, .int .i32 0, .int .i32 0, .int .i32 0, .int .i32 0, .int .i32 0, .int .i32 0, .int .i32 0, .int .i32 0, .int .i32 0, .int .i32 0] 25)) = w4 at *
  generalize w3.heap.size = g6 at *
  replace hbox : RcB w4 g6 T z12 := hbox
  go_loopw [19] (fun i wr => ∃ k : Nat, k ≤ 12 ∧ i = .int .i64 k ∧ Rdr w1.heap.size wr g ((b.take 52).drop (4 + 4 * k)) false ∧ RcB wr g6 T (VK (kvs b) z12 k) ∧ RcB wr w.heap.size 0 z12 ∧ Below w.heap.size w wr) (fun i _ => 12 - (intOf i).toNat)
  case atStart => exact ⟨0, by omega, rfl, hrd4, by rw [VK_zero]; exact hbox, hres4, hb4⟩
  case round =>
    clear hrd4 hbox hres4 hb4 w4
    obtain ⟨k, hk, rfl, hrd, hbox, hres, hb⟩ := hrel
    by_cases hlt : k < 12
    · have hdl : ¬ ((b.take 52).drop (4 + 4 * k)).length < 4 := by rw [List.length_drop, Hl52.out]; omega
      obtain ⟨f1, f2, f3⟩ := rd4G _ hdl
      have hiv := iV4 _ hdl
      rw [cut52 b hlt] at hiv
      have hiv : iV 4 ((b.take 52).drop (4 + 4 * k)) false = kvAt b k := hiv
      have h32 := kvAt_32 b k
      have hset := VK_set (kvs_at b hlt) (show k < z12.length from hlt)
      unfold in32 at h32
      obtain ⟨x, hx⟩ : ∃ x, x = kvAt b k := ⟨_, rfl⟩
      rw [← hx] at hiv h32 hset
      have hwx : IntKind.i32.wrap x = x := i32_wrap_in h32
      have Hset := Lib.hid hset
      have Hx := Lib.hid hx
      clear hset hx
      go_wp2_with fail
      go_fit (rI_any w1.heap.size g _ false 4 wr hrd)
      rw [hiv, f1, f3, List.drop_drop]
      rintro e w6 ⟨rfl, hrd6, hgr⟩
      have hbox6 : RcB w6 g6 T (VK (kvs b) z12 k) := (hgr.block _ (blk_lt hbox) (fun e => by injection e with e; omega)).trans hbox
      have hres6 : RcB w6 w.heap.size 0 z12 := (hgr.block _ (blk_lt hres) (fun e => by injection e with e; omega)).trans hres
      have hb6 := Below.grown hb hgr hb.size (fun j hj => by injection hj with hj; omega)
      have hl12 : (VK (kvs b) z12 k).length = 12 := VK_len (kvs_len b) rfl hk
      obtain ⟨y, hy⟩ : ∃ y, (VK (kvs b) z12 k)[k]? = some y := ⟨_, List.getElem?_eq_getElem (by omega)⟩
      have s1 := hbox6.at_ hy
      have s2 : w6.frozen? ⟨g6, 1 + k, none⟩ = false := blk_free (i := 1 + k) hbox6
      have hA : Aw (fun j => j = g6) w6 (w6.setCell ⟨g6, 1 + k, none⟩ (.int .i32 x)) := (Aw.refl _ _).set _ rfl
      have hbox7 := blk_set (i := 1 + k) hbox6 (.int .i32 x)
      rw [rcC_setV, Hset.out] at hbox7
      have hres7 : RcB (w6.setCell ⟨g6, 1 + k, none⟩ (.int .i32 x)) w.heap.size 0 z12 := hA.keep hres6 (by omega)
      have hb7 := below_awG hb6 hA (fun j hj => by omega) hb6.size
      have hrd7 : Rdr w1.heap.size (w6.setCell ⟨g6, 1 + k, none⟩ (.int .i32 x)) g ((b.take 52).drop (4 + 4 * k + 4)) false := hrd6.keep (row := some g6) (grownBy_set (grownBy_self _ _) _ _) (fun j hj => by injection hj with hj; omega)
      clear hgr hbox hres hb hrd hbox6 hres6 hb6 hrd6 hl12 hy hA f1 f2 f3 hiv
      go_wp2
      go_roundw
      case rel => exact ⟨k + 1, by omega, by go_num, hrd7, hbox7, hres7, hb7⟩
      case measure => simp [intOf]; omega
    · obtain rfl : k = 12 := by omega
      rw [VK_full (kvs_len b) rfl] at hbox
      go_wp2_with (first | (with_reducible refine stop_loadT 25 ?_) | (with_reducible refine stop_storeT 25 ?_))
      refine go_ (wpList_load_mid rfl _ _ rfl g6 0 rfl _ _ hbox.all Try.underlying25 rfl (by rw [rcC_size T (kvs b) (kvs_len b)]; kernel_rfl) ?_)
      go_wp2_with (first | (with_reducible refine stop_loadT 25 ?_) | (with_reducible refine stop_storeT 25 ?_))
      refine go_ (wpList_store_row rfl _ _ _ rfl w.heap.size (rcC T (kvs b)).toArray rfl rfl _ _ hres (by rw [List.size_toArray, rcC_size T (kvs b) (kvs_len b)]; kernel_rfl) (by rw [List.size_toArray, List.size_toArray, rcC_size T (kvs b) (kvs_len b)]; rfl) (all_oneCell_toArray (rcC_one T (kvs b))) ?_)
      obtain ⟨hz, hAz⟩ := rc_store T (kvs b) (kvs_len b) wr w.heap.size hres
      have hbz := below_awG hb hAz (fun k hk => by omega) hb.size
      generalize (wr.setRow w.heap.size (rcC T (kvs b)).toArray) = w5 at *
      go_wp2
      exact bodyPost_ret (results_cell3 (fn := Try.f26) Try.results26 _ _ w.heap.size _ _ _ _ rfl hz Try.underlying25 rfl (by rw [List.size_toArray, rcC_size T (kvs b) (kvs_len b)]; kernel_rfl)) rfl ⟨rfl, hbz⟩


end Go.Proofs.Ytplgcfjcdjlnbaa

/-
  The document's TakeKey of a record, walked.
-/
set_option linter.unusedSimpArgs false
set_option linter.unusedVariables false
namespace Go.Proofs.Ytplgcfjcdjlnbaa
open Go.RowKit NumLaw
attribute [local go_sem] Addr.add_mid

set_option maxRecDepth 10000 in
set_option maxHeartbeats 4000000 in
theorem qTakeKey_any (A : Option Addr) (n c B : Nat) (b : List UInt8) (w : World) (h : Rd w B 1 A n c (bv b)) (hB : B ≤ w.heap.size) (hn : n ≤ 1000000) :
    Calls Try.prog 27 #[.slice A n c] w (RetRec (keT b) (keV b) (keN b) (keE b) w) := by
  have hlb := h.blen
  have hle := h.le
  have hmx := h.max
  unfold maxLen at hmx
  obtain ⟨i0, hi⟩ := info_parts u8_info
  have hb1 : Below w.heap.size w (w.alloc (.cells #[.int .u32 0, .int .i32 0, .int .i32 0, .int .i32 0, .int .i32 0, .int .i32 0, .int .i32 0, .int .i32 0, .int .i32 0, .int .i32 0, .int .i32 0, .int .i32 0, .int .i32 0] 25)) := (Below.refl _ _).alloc (Nat.le_refl _) _
  have hres := heap_alloc_new w (.cells #[.int .u32 0, .int .i32 0, .int .i32 0, .int .i32 0, .int .i32 0, .int .i32 0, .int .i32 0, .int .i32 0, .int .i32 0, .int .i32 0, .int .i32 0, .int .i32 0, .int .i32 0] 25)
  have Hlb := Lib.hid hlb
  by_cases h52 : n < 52
  · have e1 : keT b = 0 := by unfold keT; rw [if_pos (by omega)]
    have e2 : keV b = z12 := by unfold keV; rw [if_pos (by omega)]
    have e3 : keN b = 0 := by unfold keN; rw [if_pos (by omega)]
    have e4 : keE b = 2 := by unfold keE; rw [if_pos (by omega)]
    rw [e1, e2, e3, e4]
    clear hlb hi e1 e2 e3 e4
    go_enter Try.func27, Try.ntmps27
    go_wp2_with (first | (with_reducible refine stop_loadT 25 ?_) | (with_reducible refine stop_storeT 25 ?_))
    generalize (w.alloc (.cells #[.int .u32 0, .int .i32 0, .int .i32 0, .int .i32 0, .int .i32 0, .int .i32 0, .int .i32 0, .int .i32 0, .int .i32 0, .int .i32 0, .int .i32 0, .int .i32 0, .int .i32 0] 25)) = w1 at *
    replace hres : RcB w1 w.heap.size 0 z12 := hres
    refine go_ (wpList_store_row rfl _ _ _ rfl w.heap.size (rcC 0 z12).toArray rfl rfl _ _ hres (by kernel_rfl) (by kernel_rfl) (by kernel_rfl) ?_)
    obtain ⟨hz, hAz⟩ := rc_store 0 z12 rfl w1 w.heap.size hres
    have hbz := below_awG hb1 hAz (fun k hk => by omega) hb1.size
    generalize (w1.setRow w.heap.size (rcC 0 z12).toArray) = w5 at *
    go_wp2
    exact bodyPost_ret (results_cell3 (fn := Try.f27) Try.results27 _ _ w.heap.size _ _ _ _ rfl hz Try.underlying25 rfl (by kernel_rfl)) rfl ⟨rfl, hbz⟩
  have e1 : keT b = num (b.take 4) := by unfold keT; rw [if_neg (by omega)]
  have e2 : keV b = kvs b := by unfold keV; rw [if_neg (by omega)]
  have e3 : keN b = 52 := by unfold keN; rw [if_neg (by omega)]
  have e4 : keE b = 0 := by unfold keE; rw [if_neg (by omega)]
  rw [e1, e2, e3, e4]
  have hTl := num4_lt (b.take 4) (by rw [List.length_take]; omega)
  obtain ⟨T, hT⟩ : ∃ T, T = num (b.take 4) := ⟨_, rfl⟩
  rw [← hT] at hTl ⊢
  have hwk : IntKind.u32.wrap (T : Int) = (T : Int) := by rw [IntKind.wrap_u32]; omega
  have HT := Lib.hid hT
  clear hlb e1 e2 e3 e4 hT
  have hcut : ∀ w, (Instr.slice 26 (.slice A n c) none (some (.int .i64 4)) none).run Try.prog w = .ok (.slice A 4 c) w := run_cut_h (P := Try.prog) Try.underlying26 hi.1 A n c 4 (by omega)
  have Hi := Lib.hid hi
  clear hi
  go_enter Try.func27, Try.ntmps27
  go_wp2_with fail
  generalize (w.alloc (.cells #[.int .u32 0, .int .i32 0, .int .i32 0, .int .i32 0, .int .i32 0, .int .i32 0, .int .i32 0, .int .i32 0, .int .i32 0, .int .i32 0, .int .i32 0, .int .i32 0, .int .i32 0] 25)) = w1 at *
  replace hres : RcB w1 w.heap.size 0 z12 := hres
  have hr1 := h.up (hb1.mono hB)
  go_fit (number_any A 4 c B (b.take 4) w1 (hr1.btake (by omega)) (by omega))
  rw [← HT.out]
  rintro e w2 ⟨rfl, rfl⟩
  clear hcut
  have hbx : Below w1.heap.size w1 (w1.alloc (.cells #[.int .u32 T, .int .i32 0, .int .i32 0, .int .i32 0, .int .i32 0, .int .i32 0, .int .i32 0, .int .i32 0, .int .i32 0, .int .i32 0, .int .i32 0, .int .i32 0, .int .i32 0] 25)) := (Below.refl _ _).alloc (Nat.le_refl _) _
  have hbox := heap_alloc_new w1 (.cells #[.int .u32 T, .int .i32 0, .int .i32 0, .int .i32 0, .int .i32 0, .int .i32 0, .int .i32 0, .int .i32 0, .int .i32 0, .int .i32 0, .int .i32 0, .int .i32 0, .int .i32 0] 25)
  have hres4 := blk_old hres hbx (blk_lt hres)
  have hb4 := bnx hb1 hbx
  have hw3s : w.heap.size < w1.heap.size := blk_lt hres
  clear hres hb1 hbx hr1
  go_wp2_with fail
  generalize (w1.alloc (.cells #[.int .u32 T, .int .i32 0, .int .i32 0, .int .i32 0, .int .i32 0, .int .i32 0, .int .i32 0, .int .i32 0, .int .i32 0, .int .i32 0, .int .i32 0, .int .i32 0, .int .i32 0] 25)) = w4 at *
  generalize w1.heap.size = g6 at *
  replace hbox : RcB w4 g6 T z12 := hbox
  go_loopw [6] (fun i wr => ∃ k : Nat, k ≤ 12 ∧ i = .int .i64 k ∧ RcB wr g6 T (VK (kvs b) z12 k) ∧ RcB wr w.heap.size 0 z12 ∧ Below w.heap.size w wr) (fun i _ => 12 - (intOf i).toNat)
  case atStart => exact ⟨0, by omega, rfl, by rw [VK_zero]; exact hbox, hres4, hb4⟩
  case round =>
    clear hbox hres4 hb4 w4
    obtain ⟨k, hk, rfl, hbox, hres, hb⟩ := hrel
    by_cases hlt : k < 12
    · have h32 := kvAt_32 b k
      have hset := VK_set (kvs_at b hlt) (show k < z12.length from hlt)
      unfold in32 at h32
      have hml := num4_lt ((b.drop (4 + 4 * k)).take 4) (by rw [List.length_take]; omega)
      have hkv : sgn 4 (num ((b.drop (4 + 4 * k)).take 4)) = kvAt b k := rfl
      obtain ⟨x, hx⟩ : ∃ x, x = kvAt b k := ⟨_, rfl⟩
      rw [← hx] at h32 hset hkv
      have hwx : IntKind.i32.wrap x = x := i32_wrap_in h32
      have Hset := Lib.hid hset
      clear hset hx
      have q1 : IntKind.i64.wrap (4 * (k : Int)) = 4 * (k : Int) := by rw [IntKind.wrap_i64]; omega
      have q2 : IntKind.i64.wrap (4 + 4 * (k : Int)) = 4 + 4 * (k : Int) := by rw [IntKind.wrap_i64]; omega
      have q3 : IntKind.i64.wrap (8 + 4 * (k : Int)) = 8 + 4 * (k : Int) := by rw [IntKind.wrap_i64]; omega
      have hcut : ∀ w, (Instr.slice 26 (.slice A n c) (some (.int .i64 (4 + 4 * (k : Int)))) (some (.int .i64 (8 + 4 * (k : Int)))) none).run Try.prog w = .ok (.slice (cutA A c (4 + 4 * k) 1) 4 (c - (4 + 4 * k))) w := fun w => by
        have := run_cut_lh (P := Try.prog) Try.underlying26 Hi.out.1 Hi.out.2.2.1 A n c (4 + 4 * k) (8 + 4 * k) (by omega) (by omega) w
        rwa [show 8 + 4 * k - (4 + 4 * k) = 4 by omega, show ((8 + 4 * k : Nat) : Int) = 8 + 4 * (k : Int) by omega, show ((4 + 4 * k : Nat) : Int) = 4 + 4 * (k : Int) by omega] at this
      have hrp := ((h.up (hb.mono hB)).bdrop (k := 4 + 4 * k) (by omega)).btake (k := 4) (by omega)
      have hnum := number_any (cutA A c (4 + 4 * k) 1) 4 (c - (4 + 4 * k)) B ((b.drop (4 + 4 * k)).take 4) wr hrp (by omega)
      obtain ⟨m, hm⟩ : ∃ m, m = num ((b.drop (4 + 4 * k)).take 4) := ⟨_, rfl⟩
      rw [← hm] at hnum hml hkv
      have Hkv := Lib.hid hkv
      clear hkv hm hrp
      go_wp2_with fail
      go_fit hnum
      rintro e w6 ⟨rfl, rfl⟩
      go_wp2_with fail
      go_fit (signed_any 4 m wr (by omega) (by omega) hml)
      rw [Hkv.out]
      rintro e w6 ⟨rfl, rfl⟩
      have hl12 : (VK (kvs b) z12 k).length = 12 := VK_len (kvs_len b) rfl hk
      obtain ⟨y, hy⟩ : ∃ y, (VK (kvs b) z12 k)[k]? = some y := ⟨_, List.getElem?_eq_getElem (by omega)⟩
      have s1 := hbox.at_ hy
      have s2 : wr.frozen? ⟨g6, 1 + k, none⟩ = false := blk_free (i := 1 + k) hbox
      have hA : Aw (fun j => j = g6) wr (wr.setCell ⟨g6, 1 + k, none⟩ (.int .i32 x)) := (Aw.refl _ _).set _ rfl
      have hbox7 := blk_set (i := 1 + k) hbox (.int .i32 x)
      rw [rcC_setV, Hset.out] at hbox7
      have hres7 : RcB (wr.setCell ⟨g6, 1 + k, none⟩ (.int .i32 x)) w.heap.size 0 z12 := hA.keep hres (by omega)
      have hb7 := below_awG hb hA (fun j hj => by omega) hb.size
      clear hbox hres hb hl12 hy hA hcut hnum q1 q2 q3 hml
      go_wp2
      go_roundw
      case rel => exact ⟨k + 1, by omega, by go_num, hbox7, hres7, hb7⟩
      case measure => simp [intOf]; omega
    · obtain rfl : k = 12 := by omega
      rw [VK_full (kvs_len b) rfl] at hbox
      go_wp2_with (first | (with_reducible refine stop_loadT 25 ?_) | (with_reducible refine stop_storeT 25 ?_))
      refine go_ (wpList_load_mid rfl _ _ rfl g6 0 rfl _ _ hbox.all Try.underlying25 rfl (by rw [rcC_size T (kvs b) (kvs_len b)]; kernel_rfl) ?_)
      go_wp2_with (first | (with_reducible refine stop_loadT 25 ?_) | (with_reducible refine stop_storeT 25 ?_))
      refine go_ (wpList_store_row rfl _ _ _ rfl w.heap.size (rcC T (kvs b)).toArray rfl rfl _ _ hres (by rw [List.size_toArray, rcC_size T (kvs b) (kvs_len b)]; kernel_rfl) (by rw [List.size_toArray, List.size_toArray, rcC_size T (kvs b) (kvs_len b)]; rfl) (all_oneCell_toArray (rcC_one T (kvs b))) ?_)
      obtain ⟨hz, hAz⟩ := rc_store T (kvs b) (kvs_len b) wr w.heap.size hres
      have hbz := below_awG hb hAz (fun k hk => by omega) hb.size
      generalize (wr.setRow w.heap.size (rcC T (kvs b)).toArray) = w5 at *
      go_wp2
      exact bodyPost_ret (results_cell3 (fn := Try.f27) Try.results27 _ _ w.heap.size _ _ _ _ rfl hz Try.underlying25 rfl (by rw [List.size_toArray, rcC_size T (kvs b) (kvs_len b)]; kernel_rfl)) rfl ⟨rfl, hbz⟩


end Go.Proofs.Ytplgcfjcdjlnbaa

/-
  How a record is taken by what changed, place by place: the plain law of the loop.
-/
set_option linter.unusedSimpArgs false
set_option linter.unusedVariables false
namespace Go.Proofs.Ytplgcfjcdjlnbaa
open Go.RowKit NumLaw

/-- The mask, and the bytes behind it. -/
def tkM (b : List UInt8) : Nat := (varT (b.drop (varT b).2.1)).1
def tkK (b : List UInt8) : Nat := (varT b).2.1 + (varT (b.drop (varT b).2.1)).2.1
/-- The first i numbers are pre, and kk bytes are read. -/
def TkG (t : Nat) (V : List Int) (b : List UInt8) (i : Nat) (pre : List Int) (kk : Nat) : Prop :=
  kk ≤ b.length ∧ pre.length = i ∧ (∀ x ∈ pre, in32 x) ∧
  recTE V b = (tdL (V.drop i) (tkM b / 2 ^ i) (b.drop kk)).2.2 ∧
  ((tdL (V.drop i) (tkM b / 2 ^ i) (b.drop kk)).2.2 = 0 → recTt t V b = (t + (varT b).1) % 4294967296 ∧ recTV V b = pre ++ (tdL (V.drop i) (tkM b / 2 ^ i) (b.drop kk)).1 ∧ recTn V b = kk + (tdL (V.drop i) (tkM b / 2 ^ i) (b.drop kk)).2.1)
/-- The error of one place. -/
def byF (q : Nat × Nat × Nat) (x : Int) : Nat := if q.2.2 = 0 then if zagV q.1 = 0 ∨ x + zagV q.1 < -2147483648 ∨ 2147483647 < x + zagV q.1 then 5 else 0 else q.2.2
theorem recTE_1 {V : List Int} {b : List UInt8} (h : (varT b).2.2 ≠ 0) : recTE V b = (varT b).2.2 := by unfold recTE; rw [if_neg h]
theorem recTE_2 {V : List Int} {b : List UInt8} (h : (varT b).2.2 = 0) (h2 : 4294967295 < (varT b).1) : recTE V b = 5 := by unfold recTE; rw [if_pos h, if_pos h2]
theorem recTE_3 {V : List Int} {b : List UInt8} (h : (varT b).2.2 = 0) (h2 : ¬ 4294967295 < (varT b).1) (h3 : (varT (b.drop (varT b).2.1)).2.2 ≠ 0) : recTE V b = (varT (b.drop (varT b).2.1)).2.2 := by
  unfold recTE; rw [if_pos h, if_neg h2, if_neg h3]
theorem recTE_4 {V : List Int} {b : List UInt8} (h : (varT b).2.2 = 0) (h2 : ¬ 4294967295 < (varT b).1) (h3 : (varT (b.drop (varT b).2.1)).2.2 = 0) (h4 : 4095 < tkM b) : recTE V b = 5 := by
  unfold recTE; rw [if_pos h, if_neg h2, if_pos h3]; unfold tkM at h4; rw [if_pos h4]
theorem recT_bad {t : Nat} {V : List Int} {b : List UInt8} (h : recTE V b ≠ 0) : recTt t V b = 0 ∧ recTV V b = List.replicate 12 0 ∧ recTn V b = 0 := by
  unfold recTt recTV recTn
  rw [if_neg h, if_neg h, if_neg h]
  exact ⟨rfl, rfl, rfl⟩
theorem tkK_le {b : List UInt8} (h : (varT b).2.2 = 0) (h3 : (varT (b.drop (varT b).2.1)).2.2 = 0) : tkK b ≤ b.length := by
  have h1 := (varT_back h).2.1
  have h2 := (varT_back h3).2.1
  rw [List.length_drop] at h2
  unfold tkK
  omega
theorem tk_start {t : Nat} {V : List Int} {b : List UInt8} (h : (varT b).2.2 = 0) (h2 : ¬ 4294967295 < (varT b).1) (h3 : (varT (b.drop (varT b).2.1)).2.2 = 0) (h4 : ¬ 4095 < tkM b) : TkG t V b 0 [] (tkK b) := by
  have e : recTE V b = (tdL V (tkM b) (b.drop (tkK b))).2.2 := by
    unfold recTE
    rw [if_pos h, if_neg h2, if_pos h3]
    unfold tkM at h4
    rw [if_neg h4, List.drop_drop]
    rfl
  refine ⟨tkK_le h h3, rfl, by simp, ?_, fun h5 => ?_⟩
  · rw [Nat.pow_zero, Nat.div_one, List.drop_zero]; exact e
  · rw [Nat.pow_zero, Nat.div_one, List.drop_zero] at h5 ⊢
    have h0 : recTE V b = 0 := e.trans h5
    unfold recTt recTV recTn
    rw [if_pos h0, if_pos h0, if_pos h0, List.drop_drop]
    exact ⟨rfl, rfl, rfl⟩
theorem tk_half (m i : Nat) : m / 2 ^ i / 2 = m / 2 ^ (i + 1) := by rw [Nat.pow_succ, Nat.div_div_eq_div_mul]
theorem tk_skip {t : Nat} {V : List Int} {b : List UInt8} {i : Nat} {pre : List Int} {kk : Nat} {x : Int} (h : TkG t V b i pre kk) (hx : V[i]? = some x) (h32 : in32 x) (hm : ¬ tkM b / 2 ^ i % 2 = 1) : TkG t V b (i + 1) (pre ++ [x]) kk := by
  obtain ⟨a1, a2, a3, a4, a5⟩ := h
  have hd : V.drop i = x :: V.drop (i + 1) := by
    have hi := (List.getElem?_eq_some_iff.1 hx).1
    rw [List.drop_eq_getElem_cons hi, (List.getElem?_eq_some_iff.1 hx).2]
  rw [hd, tdL_skip hm, tk_half] at a4 a5
  unfold TkG
  generalize tdL (V.drop (i + 1)) (tkM b / 2 ^ (i + 1)) (b.drop kk) = r at *
  refine ⟨a1, by simp [a2], fun y hy => ?_, ?_, fun h5 => ?_⟩
  · rcases List.mem_append.1 hy with hy | hy
    · exact a3 y hy
    · simp at hy; subst hy; exact h32
  · split at a4
    · rename_i h0; rw [h0]; exact a4
    · exact a4
  · rw [if_pos h5] at a5
    obtain ⟨b1, b2, b3⟩ := a5 rfl
    exact ⟨b1, by rw [b2]; simp, b3⟩
theorem tk_one {t : Nat} {V : List Int} {b : List UInt8} {i : Nat} {pre : List Int} {kk : Nat} {x : Int} (h : TkG t V b i pre kk) (hx : V[i]? = some x) (hm : tkM b / 2 ^ i % 2 = 1) (hb : byF (varT (b.drop kk)) x = 0) : TkG t V b (i + 1) (pre ++ [x + zagV (varT (b.drop kk)).1]) (kk + (varT (b.drop kk)).2.1) := by
  obtain ⟨a1, a2, a3, a4, a5⟩ := h
  have hd : V.drop i = x :: V.drop (i + 1) := by
    have hi := (List.getElem?_eq_some_iff.1 hx).1
    rw [List.drop_eq_getElem_cons hi, (List.getElem?_eq_some_iff.1 hx).2]
  unfold byF at hb
  split at hb
  · rename_i h2
    split at hb
    · cases hb
    · rename_i h3
      rw [hd, tdL_one hm h2 h3, tk_half, List.drop_drop] at a4 a5
      have hl := (varT_back h2).2.1
      rw [List.length_drop] at hl
      unfold TkG
      generalize tdL (V.drop (i + 1)) (tkM b / 2 ^ (i + 1)) (b.drop (kk + (varT (b.drop kk)).2.1)) = r at *
      refine ⟨by omega, by simp [a2], fun y hy => ?_, ?_, fun h5 => ?_⟩
      · rcases List.mem_append.1 hy with hy | hy
        · exact a3 y hy
        · simp at hy; subst hy; unfold in32; omega
      · split at a4
        · rename_i h0; rw [h0]; exact a4
        · exact a4
      · rw [if_pos h5] at a5
        obtain ⟨b1, b2, b3⟩ := a5 rfl
        exact ⟨b1, by rw [b2]; simp, by rw [b3]; simp only; omega⟩
  · rename_i h2; exact absurd hb h2
theorem tk_bad {t : Nat} {V : List Int} {b : List UInt8} {i : Nat} {pre : List Int} {kk : Nat} {x : Int} (h : TkG t V b i pre kk) (hx : V[i]? = some x) (hm : tkM b / 2 ^ i % 2 = 1) (hb : byF (varT (b.drop kk)) x ≠ 0) : recTE V b = byF (varT (b.drop kk)) x := by
  obtain ⟨a1, a2, a3, a4, a5⟩ := h
  have hd : V.drop i = x :: V.drop (i + 1) := by
    have hi := (List.getElem?_eq_some_iff.1 hx).1
    rw [List.drop_eq_getElem_cons hi, (List.getElem?_eq_some_iff.1 hx).2]
  rw [a4, hd]
  unfold byF at hb ⊢
  split at hb
  · rename_i h2
    rw [if_pos h2]
    split at hb
    · rename_i h3; rw [if_pos h3, tdL_rng hm h2 h3]
    · exact absurd rfl hb
  · rename_i h2
    rw [if_neg h2, tdL_err hm h2]
theorem tk_done {t : Nat} {V : List Int} {b : List UInt8} {pre : List Int} {kk : Nat} (h : TkG t V b 12 pre kk) (hV : V.length = 12) :
    recTE V b = 0 ∧ recTt t V b = (t + (varT b).1) % 4294967296 ∧ recTV V b = pre ∧ recTn V b = kk := by
  obtain ⟨a1, a2, a3, a4, a5⟩ := h
  have hd : V.drop 12 = [] := List.drop_eq_nil_of_le (by omega)
  rw [hd] at a4 a5
  obtain ⟨b1, b2, b3⟩ := a5 rfl
  exact ⟨a4, b1, by rw [b2]; simp [tdL], b3⟩

end Go.Proofs.Ytplgcfjcdjlnbaa

/-
  rec.TakeDelta walked (printed by gen_rec9.py).
-/
set_option linter.unusedSimpArgs false
set_option linter.unusedVariables false
namespace Go.Proofs.Ytplgcfjcdjlnbaa
open Go.RowKit NumLaw
attribute [local go_sem] Addr.add_mid

theorem byF_eq : byF = byE := rfl
/-- What next leaves: the number, the place, the error. -/
def nuU (b : List UInt8) (k e : Nat) : Nat := if e = 0 then (varT (b.drop k)).1 else 0
def nuK (b : List UInt8) (k e : Nat) : Nat := if e = 0 then k + (varT (b.drop k)).2.1 else k
def nuE (b : List UInt8) (k e most : Nat) : Nat := if e = 0 then nxE (varT (b.drop k)) most else e
theorem varT_lt (b : List UInt8) : (varT b).1 < 18446744073709551616 := by
  by_cases hz : (varT b).2.2 = 0
  · exact (varT_back hz).2.2.2
  · have := (varTL_none b 0 hz).1
    unfold varT
    omega
theorem nuU_lt (b : List UInt8) (k e : Nat) : nuU b k e < 18446744073709551616 := by
  unfold nuU
  split
  · exact varT_lt _
  · omega
theorem next_all (g : Nat) (A : Option Addr) (n c k e B most : Nat) (b : List UInt8) (w : World) (hE : EyeB w g A n c k e) (h : Rd w B 1 A n c (bv b)) (hB : B ≤ w.heap.size) (hk : e = 0 → k ≤ n) (hn : n ≤ 1000000) (hm : most < 18446744073709551616) :
    Calls Try.prog 83 #[.pointer (some ⟨g, 0, none⟩), .int .u64 (most : Int)] w fun x w' =>
      x = .returned (.int .u64 (nuU b k e : Int)) ∧ EyeB w' g A n c (nuK b k e) (nuE b k e most) ∧ Aw (fun j => j = g) w w' := by
  by_cases he : e = 0
  · subst he
    exact next34_any g A n c k B most b w hE h hB (hk rfl) hn hm
  · refine (nextBad_any g A n c k e most w hE he).mono ?_
    rintro x w' ⟨rfl, rfl⟩
    unfold nuU nuK nuE
    rw [if_neg he, if_neg he, if_neg he]
    exact ⟨rfl, hE, Aw.refl _ _⟩
/-- The first two numbers, and where the taking stands behind them. -/
theorem tk_two {t : Nat} {V : List Int} {b : List UInt8} :
    (nuE b (nuK b 0 0) (nuE b 0 0 4294967295) 4095 = 0 → nuU b (nuK b 0 0) (nuE b 0 0 4294967295) = tkM b ∧ TkG t V b 0 [] (nuK b (nuK b 0 0) (nuE b 0 0 4294967295))) ∧
    (nuE b (nuK b 0 0) (nuE b 0 0 4294967295) 4095 ≠ 0 → recTE V b = nuE b (nuK b 0 0) (nuE b 0 0 4294967295) 4095) := by
  have e1 : nuK b 0 0 = (varT b).2.1 := by unfold nuK; rw [if_pos rfl, List.drop_zero, Nat.zero_add]
  have e2 : nuE b 0 0 4294967295 = nxE (varT b) 4294967295 := by unfold nuE; rw [if_pos rfl, List.drop_zero]
  rw [e1, e2]
  by_cases h1 : (varT b).2.2 = 0
  · by_cases h2 : 4294967295 < (varT b).1
    · have e3 : nxE (varT b) 4294967295 = 5 := by unfold nxE; rw [if_pos h1, if_pos h2]
      rw [e3]
      have e4 : nuE b (varT b).2.1 5 4095 = 5 := by unfold nuE; rw [if_neg (by omega)]
      rw [e4]
      exact ⟨fun h => by omega, fun _ => recTE_2 h1 h2⟩
    · have e3 : nxE (varT b) 4294967295 = 0 := by unfold nxE; rw [if_pos h1, if_neg h2]
      rw [e3]
      have e4 : nuE b (varT b).2.1 0 4095 = nxE (varT (b.drop (varT b).2.1)) 4095 := by unfold nuE; rw [if_pos rfl]
      have e5 : nuU b (varT b).2.1 0 = tkM b := by unfold nuU; rw [if_pos rfl]; rfl
      have e6 : nuK b (varT b).2.1 0 = tkK b := by unfold nuK; rw [if_pos rfl]; rfl
      rw [e4, e5, e6]
      by_cases h3 : (varT (b.drop (varT b).2.1)).2.2 = 0
      · by_cases h4 : 4095 < tkM b
        · have e7 : nxE (varT (b.drop (varT b).2.1)) 4095 = 5 := by
            unfold nxE; rw [if_pos h3]; unfold tkM at h4; rw [if_pos h4]
          rw [e7]
          exact ⟨fun h => by omega, fun _ => recTE_4 h1 h2 h3 h4⟩
        · have e7 : nxE (varT (b.drop (varT b).2.1)) 4095 = 0 := by
            unfold nxE; rw [if_pos h3]; unfold tkM at h4; rw [if_neg h4]
          rw [e7]
          exact ⟨fun _ => ⟨rfl, tk_start h1 h2 h3 h4⟩, fun h => absurd rfl h⟩
      · have e7 : nxE (varT (b.drop (varT b).2.1)) 4095 = (varT (b.drop (varT b).2.1)).2.2 := by unfold nxE; rw [if_neg h3]
        rw [e7]
        exact ⟨fun h => absurd h h3, fun _ => recTE_3 h1 h2 h3⟩
  · have e3 : nxE (varT b) 4294967295 = (varT b).2.2 := by unfold nxE; rw [if_neg h1]
    rw [e3]
    have e4 : nuE b (varT b).2.1 (varT b).2.2 4095 = (varT b).2.2 := by unfold nuE; rw [if_neg h1]
    rw [e4]
    exact ⟨fun h => absurd h h1, fun _ => recTE_1 h1⟩
theorem and_one {a : Nat} (h : a < 18446744073709551616) : bits BinOp.and IntKind.u64 (a : Int) 1 = ((a % 2 : Nat) : Int) := by
  have := u64_and_nat a 1 h (by omega)
  rw [Nat.and_one_is_mod] at this
  exact this
theorem eye_aw {U : Nat → Prop} {w w' : World} {g : Nat} {A : Option Addr} {n c k e : Nat} (h : Aw U w w') (hE : EyeB w g A n c k e) (hu : ¬ U g) : EyeB w' g A n c k e := h.keep hE hu
theorem rcC_set0 (t t' : Nat) (V : List Int) : (rcC t V).toArray.setIfInBounds 0 (.int .u32 (t' : Int)) = (rcC t' V).toArray := by
  unfold rcC
  simp

set_option maxRecDepth 10000 in
set_option maxHeartbeats 8000000 in
theorem recTakeDelta_any (t : Nat) (V : List Int) (A : Option Addr) (n c B : Nat) (b : List UInt8) (w : World) (ht : t < 4294967296) (hV : V.length = 12) (h32 : ∀ x ∈ V, in32 x) (h : Rd w B 1 A n c (bv b)) (hB : B ≤ w.heap.size) (hn : n ≤ 1000000) :
    Calls Try.prog 28 #[.agg (rcC t V).toArray, .slice A n c] w (RetRec (recTt t V b) (recTV V b) (recTn V b) (recTE V b) w) := by
  have hlb := h.blen
  have Hlb := Lib.hid hlb
  have HV := Lib.hid hV
  have H32 := Lib.hid h32
  obtain ⟨x0, x1, x2, xs, xb⟩ := al3 w (.cells (rcC t V).toArray 25) (.cells #[.int .u32 0, .int .i32 0, .int .i32 0, .int .i32 0, .int .i32 0, .int .i32 0, .int .i32 0, .int .i32 0, .int .i32 0, .int .i32 0, .int .i32 0, .int .i32 0, .int .i32 0] 25) (.cells #[.slice A n c, .int .i64 0, .int .i64 0] 125)
  have Two := Lib.hid (tk_two (t := t) (V := V) (b := b))
  obtain ⟨u, hu⟩ : ∃ u, u = nuU b 0 0 := ⟨_, rfl⟩
  have hul := nuU_lt b 0 0
  rw [← hu] at hul
  obtain ⟨m, hm⟩ : ∃ m, m = nuU b (nuK b 0 0) (nuE b 0 0 4294967295) := ⟨_, rfl⟩
  have hml := nuU_lt b (nuK b 0 0) (nuE b 0 0 4294967295)
  rw [← hm] at hml
  have hk1 : nuE b 0 0 4294967295 = 0 → nuK b 0 0 ≤ n := fun h0 => by
    unfold nuE at h0
    rw [if_pos rfl, List.drop_zero] at h0
    unfold nuK
    rw [if_pos rfl, List.drop_zero, Nat.zero_add, ← hlb]
    unfold nxE at h0
    split at h0
    · rename_i h1; exact (varT_back h1).2.1
    · rename_i h1; exact absurd h0 h1
  obtain ⟨uu, huu⟩ : ∃ uu, uu = u % 4294967296 := ⟨_, rfl⟩
  have hcv : IntKind.u32.wrap (u : Int) = (uu : Int) := by rw [IntKind.wrap_u32]; omega
  obtain ⟨T, hT⟩ : ∃ T, T = (t + u) % 4294967296 := ⟨_, rfl⟩
  have hsum : IntKind.u32.wrap ((t : Int) + (uu : Int)) = (T : Int) := by rw [IntKind.wrap_u32]; omega
  have HT : Hid (T = (t + (varT b).1) % 4294967296) := Lib.hid (by rw [hT, hu]; unfold nuU; rw [if_pos rfl, List.drop_zero])
  have Hu := Lib.hid hu
  have Hm := Lib.hid hm
  clear hlb hV h32 hu hm hT huu
  go_enter Try.func28, Try.ntmps28
  go_wp2_with (first | (with_reducible refine stop_loadT 25 ?_) | (with_reducible refine stop_storeT 25 ?_))
  rw [show w.heap.size + 1 + 1 = w.heap.size + 2 by omega]
  generalize (((w.alloc (.cells (rcC t V).toArray 25)).alloc (.cells #[.int .u32 0, .int .i32 0, .int .i32 0, .int .i32 0, .int .i32 0, .int .i32 0, .int .i32 0, .int .i32 0, .int .i32 0, .int .i32 0, .int .i32 0, .int .i32 0, .int .i32 0] 25)).alloc (.cells #[.slice A n c, .int .i64 0, .int .i64 0] 125)) = w1 at *
  replace x0 : RcB w1 w.heap.size t V := x0
  replace x1 : RcB w1 (w.heap.size + 1) 0 z12 := x1
  replace x2 : EyeB w1 (w.heap.size + 2) A n c 0 0 := x2
  refine go_ (wpList_load_mid rfl _ _ rfl w.heap.size 0 rfl _ _ x0.all Try.underlying25 rfl (by rw [rcC_size t V HV.out]; kernel_rfl) ?_)
  go_wp2_with (first | (with_reducible refine stop_loadT 25 ?_) | (with_reducible refine stop_storeT 25 ?_) | (with_reducible refine stop_loadG 25 ?_))
  (try rw [xs])
  have hbx : Below w1.heap.size w1 (w1.alloc (.cells #[.int .u32 0, .int .i32 0, .int .i32 0, .int .i32 0, .int .i32 0, .int .i32 0, .int .i32 0, .int .i32 0, .int .i32 0, .int .i32 0, .int .i32 0, .int .i32 0, .int .i32 0] 25)) := (Below.refl _ _).alloc (Nat.le_refl _) _
  have hbox := heap_alloc_new w1 (.cells #[.int .u32 0, .int .i32 0, .int .i32 0, .int .i32 0, .int .i32 0, .int .i32 0, .int .i32 0, .int .i32 0, .int .i32 0, .int .i32 0, .int .i32 0, .int .i32 0, .int .i32 0] 25)
  rw [xs] at hbox
  have y0 : RcB _ w.heap.size t V := blk_old x0 hbx (blk_lt x0)
  have y1 : RcB _ (w.heap.size + 1) 0 z12 := blk_old x1 hbx (blk_lt x1)
  have y2 : EyeB _ (w.heap.size + 2) A n c 0 0 := blk_old x2 hbx (blk_lt x2)
  have yb := xb.trans (hbx.mono (by omega))
  generalize (w1.alloc (.cells #[.int .u32 0, .int .i32 0, .int .i32 0, .int .i32 0, .int .i32 0, .int .i32 0, .int .i32 0, .int .i32 0, .int .i32 0, .int .i32 0, .int .i32 0, .int .i32 0, .int .i32 0] 25)) = w2 at *
  clear x0 x1 x2 xb hbx xs w1
  replace hbox : RcB w2 (w.heap.size + 3) 0 z12 := hbox
  refine go_ (wpList_store_row rfl _ _ _ rfl (w.heap.size + 3) (rcC t V).toArray rfl rfl _ _ hbox (by rw [List.size_toArray, rcC_size t V HV.out]; kernel_rfl) (by rw [List.size_toArray, List.size_toArray, rcC_size t V HV.out]; rfl) (all_oneCell_toArray (rcC_one t V)) ?_)
  obtain ⟨hR8, hAz⟩ := rc_store t V HV.out w2 (w.heap.size + 3) hbox
  have hR2 : RcB _ w.heap.size t V := hAz.keep y0 (by omega)
  have hR4 : RcB _ (w.heap.size + 1) 0 z12 := hAz.keep y1 (by omega)
  have hEy := eye_aw hAz y2 (by omega)
  have hb3 := below_awG yb hAz (fun k hk => by omega) yb.size
  generalize (w2.setRow (w.heap.size + 3) (rcC t V).toArray) = w3 at *
  clear y0 y1 y2 yb hAz hbox w2
  go_wp2_with fail
  refine Ord.region_m [1, 3] [[0, 1, 2, 3, 4, 5, 6, 7], [0, 2, 3, 1, 4, 5, 6, 7]] (fun _ => True) false [16] (by kernel_rfl) (by kernel_rfl) trivial ?_
  have hR8 : RcB w3.drew (w.heap.size + 3) t V := hR8
  have hR2 : RcB w3.drew w.heap.size t V := hR2
  have hR4 : RcB w3.drew (w.heap.size + 1) 0 z12 := hR4
  have hEy : EyeB w3.drew (w.heap.size + 2) A n c 0 0 := hEy
  have hbd := hb3.drew
  clear hb3
  generalize w3.drew = wd at *
  intro LL hLL
  simp only [List.mem_cons, List.not_mem_nil, or_false] at hLL
  rcases hLL with rfl | rfl
  · simp only [Ord.lst, List.filterMap_cons, List.filterMap_nil, List.getElem?_toArray, List.getElem?_cons_succ, List.getElem?_cons_zero]
    have e16 := hR8.time
    ((with_reducible refine Ord.e_p (v := ?_) ?_ ?_ ?_ ?_); rotate_left; (· exact rfl); (· kernel_rfl); (· intro w2; go_simp; try with_reducible rfl))
    (try simp only [Act.put, List.setIfInBounds_toArray, List.set_cons_zero, List.set_cons_succ])
    refine Ord.e_load Try.underlying22 rfl e16 rfl (by rfl) (by kernel_rfl) ?_
    (try simp only [Act.put, List.setIfInBounds_toArray, List.set_cons_zero, List.set_cons_succ])
    ((with_reducible refine Ord.e_p (v := ?_) ?_ ?_ ?_ ?_); rotate_left; (· exact rfl); (· kernel_rfl); (· intro w2; go_simp; try with_reducible rfl))
    (try simp only [Act.put, List.setIfInBounds_toArray, List.set_cons_zero, List.set_cons_succ])
    refine Ord.e_x rfl (by kernel_rfl) ?_
    go_wp2_with fail
    go_fit (next_all (w.heap.size + 2) A n c 0 0 B 4294967295 b wd hEy (h.up (hbd.mono hB)) (Nat.le_trans hB hbd.size) (fun _ => Nat.zero_le _) hn (by omega))
    rintro e w5 ⟨rfl, hEy5, hA5⟩
    rw [← Hu.out]
    have hR8' : RcB w5 (w.heap.size + 3) t V := hA5.keep hR8 (by omega)
    have hR2' : RcB w5 w.heap.size t V := hA5.keep hR2 (by omega)
    have hR4' : RcB w5 (w.heap.size + 1) 0 z12 := hA5.keep hR4 (by omega)
    have hb5 := below_awG hbd hA5 (fun k hk => by omega) hbd.size
    clear hR8 hR2 hR4 hbd hA5 hEy e16
    go_wp2_with fail
    refine Ord.Seg.go trivial (fun h => by cases h) ?_
    (try simp only [Act.put, List.setIfInBounds_toArray, List.set_cons_zero, List.set_cons_succ])
    ((with_reducible refine Ord.e_p (v := ?_) ?_ ?_ ?_ ?_); rotate_left; (· exact rfl); (· kernel_rfl); (· intro w2; go_simp; try with_reducible rfl))
    (try simp only [Act.put, List.setIfInBounds_toArray, List.set_cons_zero, List.set_cons_succ])
    ((with_reducible refine Ord.e_p (v := ?_) ?_ ?_ ?_ ?_); rotate_left; (· exact rfl); (· kernel_rfl); (· intro w2; go_simp; try with_reducible rfl))
    (try simp only [Act.put, List.setIfInBounds_toArray, List.set_cons_zero, List.set_cons_succ])
    ((with_reducible refine Ord.e_p (v := ?_) ?_ ?_ ?_ ?_); rotate_left; (· exact rfl); (· kernel_rfl); (· intro w2; go_simp; try with_reducible rfl))
    (try simp only [Act.put, List.setIfInBounds_toArray, List.set_cons_zero, List.set_cons_succ])
    have s1 := hR8'.time
    have s2 : w5.frozen? ⟨w.heap.size + 3, 0, none⟩ = false := blk_free (i := 0) hR8'
    have hA : Aw (fun j => j = w.heap.size + 3) w5 (w5.setCell ⟨w.heap.size + 3, 0, none⟩ (.int .u32 (T : Int))) := (Aw.refl _ _).set _ rfl
    have hR8 := blk_set (i := 0) hR8' (.int .u32 (T : Int))
    rw [rcC_set0] at hR8
    have hR2 : RcB (w5.setCell ⟨w.heap.size + 3, 0, none⟩ (.int .u32 (T : Int))) w.heap.size t V := hA.keep hR2' (by omega)
    have hR4 : RcB (w5.setCell ⟨w.heap.size + 3, 0, none⟩ (.int .u32 (T : Int))) (w.heap.size + 1) 0 z12 := hA.keep hR4' (by omega)
    have hEy := eye_aw hA hEy5 (by omega)
    have hb6 := below_awG hb5 hA (fun k hk => by omega) hb5.size
    refine Ord.e_x rfl (by kernel_rfl) ?_
    go_wp2
    generalize (w5.setCell ⟨w.heap.size + 3, 0, none⟩ (.int .u32 (T : Int))) = w6 at *
    refine Ord.Seg.go trivial (fun h => by cases h) ?_
    (try simp only [Act.put, List.setIfInBounds_toArray, List.set_cons_zero, List.set_cons_succ])
    refine Ord.e_nil ?_
    clear hR8' hR2' hR4' hEy5 hb5 s1 s2 hA w5
    go_wp2_with fail
    go_fit (next_all (w.heap.size + 2) A n c (nuK b 0 0) (nuE b 0 0 4294967295) B 4095 b w6 hEy (h.up (hb6.mono hB)) (Nat.le_trans hB hb6.size) hk1 hn (by omega))
    rintro e w7 ⟨rfl, hEy7, hA7⟩
    rw [← Hm.out]
    have hR8 : RcB w7 (w.heap.size + 3) T V := hA7.keep hR8 (by omega)
    have hR2 : RcB w7 w.heap.size t V := hA7.keep hR2 (by omega)
    have hR4 : RcB w7 (w.heap.size + 1) 0 z12 := hA7.keep hR4 (by omega)
    have hb7 := below_awG hb6 hA7 (fun k hk => by omega) hb6.size
    clear hb6 hA7 hEy
    have hrel0 : ∃ kk ee : Nat, EyeB w7 (w.heap.size + 2) A n c kk ee ∧ (ee = 0 → Hid (m = tkM b ∧ ∃ pre, V = pre ++ V.drop 0 ∧ TkG t V b 0 pre kk)) ∧ (ee ≠ 0 → Hid (recTE V b = ee)) :=
      ⟨_, _, hEy7, fun he => Lib.hid ⟨by rw [Hm.out]; exact (Two.out.1 he).1, [], rfl, (Two.out.1 he).2⟩, fun he => Lib.hid (Two.out.2 he)⟩
    clear hEy7
    go_wp2_with fail
    go_loopw [24] (fun i wr => ∃ (k kk ee : Nat) (V' : List Int), k ≤ 12 ∧ i = .int .i64 k ∧ RcB wr w.heap.size t V ∧ RcB wr (w.heap.size + 1) 0 z12 ∧ RcB wr (w.heap.size + 3) T V' ∧ V'.length = 12 ∧ Below w.heap.size w wr ∧ EyeB wr (w.heap.size + 2) A n c kk ee ∧ (ee = 0 → Hid (m = tkM b ∧ ∃ pre, V' = pre ++ V.drop k ∧ TkG t V b k pre kk)) ∧ (ee ≠ 0 → Hid (recTE V b = ee))) (fun i _ => 12 - (intOf i).toNat)
    case atStart =>
      obtain ⟨kk, ee, r1, r2, r3⟩ := hrel0
      exact ⟨0, kk, ee, V, by omega, rfl, hR2, hR4, hR8, HV.out, hb7, r1, r2, r3⟩
    case round =>
      clear hR8 hR2 hR4 hb7 hrel0 w7
      obtain ⟨k, kk, ee, V', hk, rfl, hR2, hR4, hR8, hV', hb, hEy, hG, hBad⟩ := hrel
      by_cases hlt : k < 12
      · obtain ⟨x, hx⟩ : ∃ x, V[k]? = some x := ⟨V[k]'(by rw [HV.out]; exact hlt), List.getElem?_eq_getElem _⟩
        have hxi := H32.out x (List.mem_of_getElem? hx)
        obtain ⟨sh, hsh⟩ : ∃ sh, sh = m / 2 ^ k := ⟨_, rfl⟩
        have hdiv : (m : Int) / 2 ^ k = (sh : Int) := by rw [hsh]; simp
        have hshl : sh < 18446744073709551616 := by rw [hsh]; exact Nat.lt_of_le_of_lt (Nat.div_le_self _ _) hml
        have q0 := hR2.at_ hx
        have hVd : V.drop k = x :: V.drop (k + 1) := by
          rw [List.drop_eq_getElem_cons (by rw [HV.out]; exact hlt), (List.getElem?_eq_some_iff.1 hx).2]
        have c2 := blk_cell (i := 2) (v := .int .i64 (ee : Int)) hEy rfl
        have Hsh := Lib.hid hsh
        have Hx := Lib.hid hx
        have HVd := Lib.hid hVd
        clear hx hsh hVd
        by_cases hbit : sh % 2 = 1
        · have hbit' : bits BinOp.and IntKind.u64 (sh : Int) 1 = 1 := by rw [and_one hshl, hbit]; rfl
          have Hbit := Lib.hid hbit
          clear hbit
          by_cases he : ee = 0
          · subst he
            have Hg := hG rfl
            have c2 : wr.cell? ⟨w.heap.size + 2, 2, none⟩ = some (.int .i64 0) := c2
            have hkn : kk ≤ n := by
              obtain ⟨_, pre, _, hT⟩ := Hg.out
              have := hT.1
              rw [Hlb.out] at this
              exact this
            clear hG hBad
            have hby := by34_any (w.heap.size + 2) A n c kk B x b wr hEy (h.up (hb.mono hB)) (Nat.le_trans hB hb.size) hkn hn hxi
            have Hby := Lib.hid hby
            clear hby hxi
            go_wp2_with fail
            go_fit Hby.out
            rintro e w8 ⟨z, rfl, hz, hEy8, hA8, hzz⟩
            have HZ := Lib.hid hzz
            have hR8 : RcB w8 (w.heap.size + 3) T V' := hA8.keep hR8 (by omega)
            have hR2 : RcB w8 w.heap.size t V := hA8.keep hR2 (by omega)
            have hR4 : RcB w8 (w.heap.size + 1) 0 z12 := hA8.keep hR4 (by omega)
            have hb8 := below_awG hb hA8 (fun k hk => by omega) hb.size
            obtain ⟨y, hy⟩ : ∃ y, V'[k]? = some y := ⟨_, List.getElem?_eq_getElem (by omega)⟩
            have s1 := hR8.at_ hy
            have s2 : w8.frozen? ⟨w.heap.size + 3, 1 + k, none⟩ = false := blk_free (i := 1 + k) hR8
            have hA : Aw (fun j => j = w.heap.size + 3) w8 (w8.setCell ⟨w.heap.size + 3, 1 + k, none⟩ (.int .i32 z)) := (Aw.refl _ _).set _ rfl
            have hR8' := blk_set (i := 1 + k) hR8 (.int .i32 z)
            rw [rcC_setV] at hR8'
            have hR2' : RcB (w8.setCell ⟨w.heap.size + 3, 1 + k, none⟩ (.int .i32 z)) w.heap.size t V := hA.keep hR2 (by omega)
            have hR4' : RcB (w8.setCell ⟨w.heap.size + 3, 1 + k, none⟩ (.int .i32 z)) (w.heap.size + 1) 0 z12 := hA.keep hR4 (by omega)
            have hEy9 := eye_aw hA hEy8 (by omega)
            have hb9 := below_awG hb8 hA (fun k hk => by omega) hb8.size
            clear hb hA8 hEy hEy8 hR2 hR4 hR8 hb8 hA c2 q0 hzz hy
            go_wp2
            go_roundw
            case rel =>
              refine ⟨k + 1, _, _, V'.set k z, by omega, by go_num, hR2', hR4', hR8', by rw [List.length_set]; exact hV', hb9, hEy9, fun he => ?_, fun he => ?_⟩
              · obtain ⟨hm, pre, hpre, hT⟩ := Hg.out
                refine Lib.hid ⟨hm, pre ++ [z], ?_, ?_⟩
                · have hpl : pre.length = k := hT.2.1
                  rw [hpre, HVd.out, List.set_append, if_neg (by omega), hpl, Nat.sub_self, List.set_cons_zero]
                  simp
                · rw [HZ.out he]
                  exact tk_one hT Hx.out (by rw [← hm, ← Hsh.out]; exact Hbit.out) he
              · obtain ⟨hm, pre, hpre, hT⟩ := Hg.out
                exact Lib.hid (tk_bad hT Hx.out (by rw [← hm, ← Hsh.out]; exact Hbit.out) he)
            case measure => simp [intOf]; omega
          · have he' : ¬ (ee : Int) = 0 := by omega
            have Hbd := hBad he
            have He := Lib.hid he
            clear hG hBad he hxi
            go_wp2
            go_roundw
            case rel => exact ⟨k + 1, kk, ee, V', by omega, by go_num, hR2, hR4, hR8, hV', hb, hEy, fun h0 => absurd h0 He.out, fun _ => Hbd⟩
            case measure => simp [intOf]; omega
        · have hbit' : bits BinOp.and IntKind.u64 (sh : Int) 1 = 0 := by rw [and_one hshl, show sh % 2 = 0 by omega]; rfl
          have Hbit := Lib.hid hbit
          have HX := Lib.hid hxi
          clear hbit hxi
          have hG' : ee = 0 → Hid (m = tkM b ∧ ∃ pre, V' = pre ++ V.drop (k + 1) ∧ TkG t V b (k + 1) pre kk) := fun he => by
            obtain ⟨hm, pre, hpre, hT⟩ := (hG he).out
            exact Lib.hid ⟨hm, pre ++ [x], by rw [hpre, HVd.out]; simp, tk_skip hT Hx.out HX.out (by rw [← hm, ← Hsh.out]; exact Hbit.out)⟩
          have HG := Lib.hid hG'
          have HB := Lib.hid hBad
          clear hG hG' hBad
          go_wp2
          go_roundw
          case rel => exact ⟨k + 1, kk, ee, V', by omega, by go_num, hR2, hR4, hR8, hV', hb, hEy, HG.out, HB.out⟩
          case measure => simp [intOf]; omega
      · obtain rfl : k = 12 := by omega
        have c2 := blk_cell (i := 2) (v := .int .i64 (ee : Int)) hEy rfl
        by_cases he : ee = 0
        · subst he
          have c2 : wr.cell? ⟨w.heap.size + 2, 2, none⟩ = some (.int .i64 0) := c2
          obtain ⟨hm, pre, hpre, hT⟩ := (hG rfl).out
          rw [List.drop_eq_nil_of_le (by rw [HV.out]; omega), List.append_nil] at hpre
          subst hpre
          obtain ⟨d1, d2, d3, d4⟩ := tk_done hT HV.out
          have HD := Lib.hid (show recTE V b = 0 ∧ recTt t V b = T ∧ recTV V b = V' ∧ recTn V b = kk from ⟨d1, by rw [d2, HT.out], d3, d4⟩)
          clear hG hBad hm hT d1 d2 d3 d4
          go_wp2_with fail
          refine Ord.region_ (fun w' => EyeB w' (w.heap.size + 2) A n c kk 0 ∧ RcB w' (w.heap.size + 3) T V') false [] (by kernel_rfl) (by kernel_rfl) ⟨hEy, hR8⟩ ?_
          have hEy : EyeB wr.drew (w.heap.size + 2) A n c kk 0 := hEy
          have hR8 : RcB wr.drew (w.heap.size + 3) T V' := hR8
          have hR4 : RcB wr.drew (w.heap.size + 1) 0 z12 := hR4
          have hb := hb.drew
          clear c2 hR2
          generalize wr.drew = wd at *
          refine Ord.e_rowS Try.underlying25 rfl (by rw [rcC_size T V' hV']; kernel_rfl) rfl (by unfold rcC; simp) (fun w' hS => (show RcB w' _ T V' from hS.2).all) ⟨hEy, hR8⟩ (by kernel_rfl) ?_
          (try simp only [Act.put, List.setIfInBounds_toArray, List.set_cons_zero, List.set_cons_succ])
          ((with_reducible refine Ord.e_p (v := ?_) ?_ ?_ ?_ ?_); rotate_left; (· exact rfl); (· kernel_rfl); (· intro w2; go_simp; try with_reducible rfl))
          (try simp only [Act.put, List.setIfInBounds_toArray, List.set_cons_zero, List.set_cons_succ])
          ((with_reducible refine Ord.e_p (v := ?_) ?_ ?_ ?_ ?_); rotate_left; (· exact rfl); (· kernel_rfl); (· intro w2; go_simp; try with_reducible rfl))
          (try simp only [Act.put, List.setIfInBounds_toArray, List.set_cons_zero, List.set_cons_succ])
          ((with_reducible refine Ord.e_p (v := ?_) ?_ ?_ ?_ ?_); rotate_left; (· exact rfl); (· kernel_rfl); (· intro w2; go_simp; try with_reducible rfl))
          (try simp only [Act.put, List.setIfInBounds_toArray, List.set_cons_zero, List.set_cons_succ])
          refine Ord.e_loadS Try.underlying3 rfl (fun w' hS => blk_cell (i := 1) (v := .int .i64 (kk : Int)) (show EyeB w' _ A n c kk 0 from hS.1) rfl) ⟨hEy, hR8⟩ rfl (by kernel_rfl) ?_
          (try simp only [Act.put, List.setIfInBounds_toArray, List.set_cons_zero, List.set_cons_succ])
          refine Ord.e_x rfl (by kernel_rfl) ?_
          refine wpList_store_row rfl _ _ _ rfl (w.heap.size + 1) (rcC T V').toArray rfl rfl _ _ hR4 (by rw [List.size_toArray, rcC_size T V' hV']; kernel_rfl) (by rw [List.size_toArray, List.size_toArray, rcC_size T V' hV']; rfl) (all_oneCell_toArray (rcC_one T V')) ?_
          obtain ⟨hz, hAz⟩ := rc_store T V' hV' wd (w.heap.size + 1) hR4
          have hbz := below_awG hb hAz (fun k hk => by omega) hb.size
          have hE9 := eye_aw hAz hEy (by omega)
          have hR9 : RcB _ (w.heap.size + 3) T V' := hAz.keep hR8 (by omega)
          generalize (wd.setRow (w.heap.size + 1) (rcC T V').toArray) = w5 at *
          go_wp2_with fail
          refine Ord.Seg.go ⟨hE9, hR9⟩ (fun h => by cases h) ?_
          (try simp only [Act.put, List.setIfInBounds_toArray, List.set_cons_zero, List.set_cons_succ])
          ((with_reducible refine Ord.e_p (v := ?_) ?_ ?_ ?_ ?_); rotate_left; (· exact rfl); (· kernel_rfl); (· intro w2; go_simp; try with_reducible rfl))
          (try simp only [Act.put, List.setIfInBounds_toArray, List.set_cons_zero, List.set_cons_succ])
          ((with_reducible refine Ord.e_p (v := ?_) ?_ ?_ ?_ ?_); rotate_left; (· exact rfl); (· kernel_rfl); (· intro w2; go_simp; try with_reducible rfl))
          (try simp only [Act.put, List.setIfInBounds_toArray, List.set_cons_zero, List.set_cons_succ])
          refine Ord.e_nil ?_
          clear hR4 hb hEy hR8 hAz hE9 hR9
          go_wp2
          exact bodyPost_ret (results_cell3 (fn := Try.f28) Try.results28 _ _ (w.heap.size + 1) _ _ _ _ rfl hz Try.underlying25 rfl (by rw [List.size_toArray, rcC_size T V' hV']; kernel_rfl)) rfl ⟨by rw [HD.out.1, HD.out.2.1, HD.out.2.2.1, HD.out.2.2.2]; rfl, hbz⟩
        · have he' : ¬ (ee : Int) = 0 := by omega
          have hte : recTE V b = ee := (hBad he).out
          obtain ⟨d2, d3, d4⟩ := recT_bad (t := t) (V := V) (b := b) (by rw [hte]; exact he)
          have HD := Lib.hid (show recTE V b = ee ∧ recTt t V b = 0 ∧ recTV V b = z12 ∧ recTn V b = 0 from ⟨hte, d2, d3, d4⟩)
          clear hG hBad he hte d2 d3 d4
          go_wp2_with fail
          refine Ord.region_ (fun w' => EyeB w' (w.heap.size + 2) A n c kk ee) false [] (by kernel_rfl) (by kernel_rfl) hEy ?_
          have hEy : EyeB wr.drew (w.heap.size + 2) A n c kk ee := hEy
          have hR4 : RcB wr.drew (w.heap.size + 1) 0 z12 := hR4
          have hb := hb.drew
          clear c2 hR2 hR8
          generalize wr.drew = wd at *
          (with_reducible refine Ord.e_p (v := .agg (rcC 0 z12).toArray) ?_ ?_ ?_ ?_)
          · exact rfl
          · kernel_rfl
          · intro w2; kernel_rfl
          (try simp only [Act.put, List.setIfInBounds_toArray, List.set_cons_zero, List.set_cons_succ])
          ((with_reducible refine Ord.e_p (v := ?_) ?_ ?_ ?_ ?_); rotate_left; (· exact rfl); (· kernel_rfl); (· intro w2; go_simp; try with_reducible rfl))
          (try simp only [Act.put, List.setIfInBounds_toArray, List.set_cons_zero, List.set_cons_succ])
          ((with_reducible refine Ord.e_p (v := ?_) ?_ ?_ ?_ ?_); rotate_left; (· exact rfl); (· kernel_rfl); (· intro w2; go_simp; try with_reducible rfl))
          (try simp only [Act.put, List.setIfInBounds_toArray, List.set_cons_zero, List.set_cons_succ])
          ((with_reducible refine Ord.e_p (v := ?_) ?_ ?_ ?_ ?_); rotate_left; (· exact rfl); (· kernel_rfl); (· intro w2; go_simp; try with_reducible rfl))
          (try simp only [Act.put, List.setIfInBounds_toArray, List.set_cons_zero, List.set_cons_succ])
          refine Ord.e_loadS Try.underlying32 rfl (fun w' hS => blk_cell (i := 2) (v := .int .i64 (ee : Int)) (show EyeB w' _ A n c kk ee from hS) rfl) hEy rfl (by kernel_rfl) ?_
          (try simp only [Act.put, List.setIfInBounds_toArray, List.set_cons_zero, List.set_cons_succ])
          refine Ord.e_x rfl (by kernel_rfl) ?_
          refine wpList_store_row rfl _ _ _ rfl (w.heap.size + 1) (rcC 0 z12).toArray rfl rfl _ _ hR4 (by kernel_rfl) (by kernel_rfl) (by kernel_rfl) ?_
          obtain ⟨hz, hAz⟩ := rc_store 0 z12 rfl wd (w.heap.size + 1) hR4
          have hbz := below_awG hb hAz (fun k hk => by omega) hb.size
          have hE9 := eye_aw hAz hEy (by omega)
          generalize (wd.setRow (w.heap.size + 1) (rcC 0 z12).toArray) = w5 at *
          go_wp2_with fail
          refine Ord.Seg.go hE9 (fun h => by cases h) ?_
          (try simp only [Act.put, List.setIfInBounds_toArray, List.set_cons_zero, List.set_cons_succ])
          ((with_reducible refine Ord.e_p (v := ?_) ?_ ?_ ?_ ?_); rotate_left; (· exact rfl); (· kernel_rfl); (· intro w2; go_simp; try with_reducible rfl))
          (try simp only [Act.put, List.setIfInBounds_toArray, List.set_cons_zero, List.set_cons_succ])
          ((with_reducible refine Ord.e_p (v := ?_) ?_ ?_ ?_ ?_); rotate_left; (· exact rfl); (· kernel_rfl); (· intro w2; go_simp; try with_reducible rfl))
          (try simp only [Act.put, List.setIfInBounds_toArray, List.set_cons_zero, List.set_cons_succ])
          refine Ord.e_nil ?_
          clear hR4 hb hEy hAz hE9
          go_wp2
          exact bodyPost_ret (results_cell3 (fn := Try.f28) Try.results28 _ _ (w.heap.size + 1) _ _ _ _ rfl hz Try.underlying25 rfl (by kernel_rfl)) rfl ⟨by rw [HD.out.1, HD.out.2.1, HD.out.2.2.1, HD.out.2.2.2]; rfl, hbz⟩
  · simp only [Ord.lst, List.filterMap_cons, List.filterMap_nil, List.getElem?_toArray, List.getElem?_cons_succ, List.getElem?_cons_zero]
    ((with_reducible refine Ord.e_p (v := ?_) ?_ ?_ ?_ ?_); rotate_left; (· exact rfl); (· kernel_rfl); (· intro w2; go_simp; try with_reducible rfl))
    (try simp only [Act.put, List.setIfInBounds_toArray, List.set_cons_zero, List.set_cons_succ])
    ((with_reducible refine Ord.e_p (v := ?_) ?_ ?_ ?_ ?_); rotate_left; (· exact rfl); (· kernel_rfl); (· intro w2; go_simp; try with_reducible rfl))
    (try simp only [Act.put, List.setIfInBounds_toArray, List.set_cons_zero, List.set_cons_succ])
    refine Ord.e_x rfl (by kernel_rfl) ?_
    go_wp2_with fail
    go_fit (next_all (w.heap.size + 2) A n c 0 0 B 4294967295 b wd hEy (h.up (hbd.mono hB)) (Nat.le_trans hB hbd.size) (fun _ => Nat.zero_le _) hn (by omega))
    rintro e w5 ⟨rfl, hEy5, hA5⟩
    rw [← Hu.out]
    have hR8' : RcB w5 (w.heap.size + 3) t V := hA5.keep hR8 (by omega)
    have hR2' : RcB w5 w.heap.size t V := hA5.keep hR2 (by omega)
    have hR4' : RcB w5 (w.heap.size + 1) 0 z12 := hA5.keep hR4 (by omega)
    have hb5 := below_awG hbd hA5 (fun k hk => by omega) hbd.size
    clear hR8 hR2 hR4 hbd hA5 hEy
    have e16 := hR8'.time
    go_wp2_with fail
    refine Ord.Seg.go trivial (fun h => by cases h) ?_
    (try simp only [Act.put, List.setIfInBounds_toArray, List.set_cons_zero, List.set_cons_succ])
    refine Ord.e_load Try.underlying22 rfl e16 rfl (by rfl) (by kernel_rfl) ?_
    (try simp only [Act.put, List.setIfInBounds_toArray, List.set_cons_zero, List.set_cons_succ])
    clear e16
    ((with_reducible refine Ord.e_p (v := ?_) ?_ ?_ ?_ ?_); rotate_left; (· exact rfl); (· kernel_rfl); (· intro w2; go_simp; try with_reducible rfl))
    (try simp only [Act.put, List.setIfInBounds_toArray, List.set_cons_zero, List.set_cons_succ])
    ((with_reducible refine Ord.e_p (v := ?_) ?_ ?_ ?_ ?_); rotate_left; (· exact rfl); (· kernel_rfl); (· intro w2; go_simp; try with_reducible rfl))
    (try simp only [Act.put, List.setIfInBounds_toArray, List.set_cons_zero, List.set_cons_succ])
    ((with_reducible refine Ord.e_p (v := ?_) ?_ ?_ ?_ ?_); rotate_left; (· exact rfl); (· kernel_rfl); (· intro w2; go_simp; try with_reducible rfl))
    (try simp only [Act.put, List.setIfInBounds_toArray, List.set_cons_zero, List.set_cons_succ])
    have s1 := hR8'.time
    have s2 : w5.frozen? ⟨w.heap.size + 3, 0, none⟩ = false := blk_free (i := 0) hR8'
    have hA : Aw (fun j => j = w.heap.size + 3) w5 (w5.setCell ⟨w.heap.size + 3, 0, none⟩ (.int .u32 (T : Int))) := (Aw.refl _ _).set _ rfl
    have hR8 := blk_set (i := 0) hR8' (.int .u32 (T : Int))
    rw [rcC_set0] at hR8
    have hR2 : RcB (w5.setCell ⟨w.heap.size + 3, 0, none⟩ (.int .u32 (T : Int))) w.heap.size t V := hA.keep hR2' (by omega)
    have hR4 : RcB (w5.setCell ⟨w.heap.size + 3, 0, none⟩ (.int .u32 (T : Int))) (w.heap.size + 1) 0 z12 := hA.keep hR4' (by omega)
    have hEy := eye_aw hA hEy5 (by omega)
    have hb6 := below_awG hb5 hA (fun k hk => by omega) hb5.size
    refine Ord.e_x rfl (by kernel_rfl) ?_
    go_wp2
    generalize (w5.setCell ⟨w.heap.size + 3, 0, none⟩ (.int .u32 (T : Int))) = w6 at *
    refine Ord.Seg.go trivial (fun h => by cases h) ?_
    (try simp only [Act.put, List.setIfInBounds_toArray, List.set_cons_zero, List.set_cons_succ])
    refine Ord.e_nil ?_
    clear hR8' hR2' hR4' hEy5 hb5 s1 s2 hA w5
    go_wp2_with fail
    go_fit (next_all (w.heap.size + 2) A n c (nuK b 0 0) (nuE b 0 0 4294967295) B 4095 b w6 hEy (h.up (hb6.mono hB)) (Nat.le_trans hB hb6.size) hk1 hn (by omega))
    rintro e w7 ⟨rfl, hEy7, hA7⟩
    rw [← Hm.out]
    have hR8 : RcB w7 (w.heap.size + 3) T V := hA7.keep hR8 (by omega)
    have hR2 : RcB w7 w.heap.size t V := hA7.keep hR2 (by omega)
    have hR4 : RcB w7 (w.heap.size + 1) 0 z12 := hA7.keep hR4 (by omega)
    have hb7 := below_awG hb6 hA7 (fun k hk => by omega) hb6.size
    clear hb6 hA7 hEy
    have hrel0 : ∃ kk ee : Nat, EyeB w7 (w.heap.size + 2) A n c kk ee ∧ (ee = 0 → Hid (m = tkM b ∧ ∃ pre, V = pre ++ V.drop 0 ∧ TkG t V b 0 pre kk)) ∧ (ee ≠ 0 → Hid (recTE V b = ee)) :=
      ⟨_, _, hEy7, fun he => Lib.hid ⟨by rw [Hm.out]; exact (Two.out.1 he).1, [], rfl, (Two.out.1 he).2⟩, fun he => Lib.hid (Two.out.2 he)⟩
    clear hEy7
    go_wp2_with fail
    go_loopw [24] (fun i wr => ∃ (k kk ee : Nat) (V' : List Int), k ≤ 12 ∧ i = .int .i64 k ∧ RcB wr w.heap.size t V ∧ RcB wr (w.heap.size + 1) 0 z12 ∧ RcB wr (w.heap.size + 3) T V' ∧ V'.length = 12 ∧ Below w.heap.size w wr ∧ EyeB wr (w.heap.size + 2) A n c kk ee ∧ (ee = 0 → Hid (m = tkM b ∧ ∃ pre, V' = pre ++ V.drop k ∧ TkG t V b k pre kk)) ∧ (ee ≠ 0 → Hid (recTE V b = ee))) (fun i _ => 12 - (intOf i).toNat)
    case atStart =>
      obtain ⟨kk, ee, r1, r2, r3⟩ := hrel0
      exact ⟨0, kk, ee, V, by omega, rfl, hR2, hR4, hR8, HV.out, hb7, r1, r2, r3⟩
    case round =>
      clear hR8 hR2 hR4 hb7 hrel0 w7
      obtain ⟨k, kk, ee, V', hk, rfl, hR2, hR4, hR8, hV', hb, hEy, hG, hBad⟩ := hrel
      by_cases hlt : k < 12
      · obtain ⟨x, hx⟩ : ∃ x, V[k]? = some x := ⟨V[k]'(by rw [HV.out]; exact hlt), List.getElem?_eq_getElem _⟩
        have hxi := H32.out x (List.mem_of_getElem? hx)
        obtain ⟨sh, hsh⟩ : ∃ sh, sh = m / 2 ^ k := ⟨_, rfl⟩
        have hdiv : (m : Int) / 2 ^ k = (sh : Int) := by rw [hsh]; simp
        have hshl : sh < 18446744073709551616 := by rw [hsh]; exact Nat.lt_of_le_of_lt (Nat.div_le_self _ _) hml
        have q0 := hR2.at_ hx
        have hVd : V.drop k = x :: V.drop (k + 1) := by
          rw [List.drop_eq_getElem_cons (by rw [HV.out]; exact hlt), (List.getElem?_eq_some_iff.1 hx).2]
        have c2 := blk_cell (i := 2) (v := .int .i64 (ee : Int)) hEy rfl
        have Hsh := Lib.hid hsh
        have Hx := Lib.hid hx
        have HVd := Lib.hid hVd
        clear hx hsh hVd
        by_cases hbit : sh % 2 = 1
        · have hbit' : bits BinOp.and IntKind.u64 (sh : Int) 1 = 1 := by rw [and_one hshl, hbit]; rfl
          have Hbit := Lib.hid hbit
          clear hbit
          by_cases he : ee = 0
          · subst he
            have Hg := hG rfl
            have c2 : wr.cell? ⟨w.heap.size + 2, 2, none⟩ = some (.int .i64 0) := c2
            have hkn : kk ≤ n := by
              obtain ⟨_, pre, _, hT⟩ := Hg.out
              have := hT.1
              rw [Hlb.out] at this
              exact this
            clear hG hBad
            have hby := by34_any (w.heap.size + 2) A n c kk B x b wr hEy (h.up (hb.mono hB)) (Nat.le_trans hB hb.size) hkn hn hxi
            have Hby := Lib.hid hby
            clear hby hxi
            go_wp2_with fail
            go_fit Hby.out
            rintro e w8 ⟨z, rfl, hz, hEy8, hA8, hzz⟩
            have HZ := Lib.hid hzz
            have hR8 : RcB w8 (w.heap.size + 3) T V' := hA8.keep hR8 (by omega)
            have hR2 : RcB w8 w.heap.size t V := hA8.keep hR2 (by omega)
            have hR4 : RcB w8 (w.heap.size + 1) 0 z12 := hA8.keep hR4 (by omega)
            have hb8 := below_awG hb hA8 (fun k hk => by omega) hb.size
            obtain ⟨y, hy⟩ : ∃ y, V'[k]? = some y := ⟨_, List.getElem?_eq_getElem (by omega)⟩
            have s1 := hR8.at_ hy
            have s2 : w8.frozen? ⟨w.heap.size + 3, 1 + k, none⟩ = false := blk_free (i := 1 + k) hR8
            have hA : Aw (fun j => j = w.heap.size + 3) w8 (w8.setCell ⟨w.heap.size + 3, 1 + k, none⟩ (.int .i32 z)) := (Aw.refl _ _).set _ rfl
            have hR8' := blk_set (i := 1 + k) hR8 (.int .i32 z)
            rw [rcC_setV] at hR8'
            have hR2' : RcB (w8.setCell ⟨w.heap.size + 3, 1 + k, none⟩ (.int .i32 z)) w.heap.size t V := hA.keep hR2 (by omega)
            have hR4' : RcB (w8.setCell ⟨w.heap.size + 3, 1 + k, none⟩ (.int .i32 z)) (w.heap.size + 1) 0 z12 := hA.keep hR4 (by omega)
            have hEy9 := eye_aw hA hEy8 (by omega)
            have hb9 := below_awG hb8 hA (fun k hk => by omega) hb8.size
            clear hb hA8 hEy hEy8 hR2 hR4 hR8 hb8 hA c2 q0 hzz hy
            go_wp2
            go_roundw
            case rel =>
              refine ⟨k + 1, _, _, V'.set k z, by omega, by go_num, hR2', hR4', hR8', by rw [List.length_set]; exact hV', hb9, hEy9, fun he => ?_, fun he => ?_⟩
              · obtain ⟨hm, pre, hpre, hT⟩ := Hg.out
                refine Lib.hid ⟨hm, pre ++ [z], ?_, ?_⟩
                · have hpl : pre.length = k := hT.2.1
                  rw [hpre, HVd.out, List.set_append, if_neg (by omega), hpl, Nat.sub_self, List.set_cons_zero]
                  simp
                · rw [HZ.out he]
                  exact tk_one hT Hx.out (by rw [← hm, ← Hsh.out]; exact Hbit.out) he
              · obtain ⟨hm, pre, hpre, hT⟩ := Hg.out
                exact Lib.hid (tk_bad hT Hx.out (by rw [← hm, ← Hsh.out]; exact Hbit.out) he)
            case measure => simp [intOf]; omega
          · have he' : ¬ (ee : Int) = 0 := by omega
            have Hbd := hBad he
            have He := Lib.hid he
            clear hG hBad he hxi
            go_wp2
            go_roundw
            case rel => exact ⟨k + 1, kk, ee, V', by omega, by go_num, hR2, hR4, hR8, hV', hb, hEy, fun h0 => absurd h0 He.out, fun _ => Hbd⟩
            case measure => simp [intOf]; omega
        · have hbit' : bits BinOp.and IntKind.u64 (sh : Int) 1 = 0 := by rw [and_one hshl, show sh % 2 = 0 by omega]; rfl
          have Hbit := Lib.hid hbit
          have HX := Lib.hid hxi
          clear hbit hxi
          have hG' : ee = 0 → Hid (m = tkM b ∧ ∃ pre, V' = pre ++ V.drop (k + 1) ∧ TkG t V b (k + 1) pre kk) := fun he => by
            obtain ⟨hm, pre, hpre, hT⟩ := (hG he).out
            exact Lib.hid ⟨hm, pre ++ [x], by rw [hpre, HVd.out]; simp, tk_skip hT Hx.out HX.out (by rw [← hm, ← Hsh.out]; exact Hbit.out)⟩
          have HG := Lib.hid hG'
          have HB := Lib.hid hBad
          clear hG hG' hBad
          go_wp2
          go_roundw
          case rel => exact ⟨k + 1, kk, ee, V', by omega, by go_num, hR2, hR4, hR8, hV', hb, hEy, HG.out, HB.out⟩
          case measure => simp [intOf]; omega
      · obtain rfl : k = 12 := by omega
        have c2 := blk_cell (i := 2) (v := .int .i64 (ee : Int)) hEy rfl
        by_cases he : ee = 0
        · subst he
          have c2 : wr.cell? ⟨w.heap.size + 2, 2, none⟩ = some (.int .i64 0) := c2
          obtain ⟨hm, pre, hpre, hT⟩ := (hG rfl).out
          rw [List.drop_eq_nil_of_le (by rw [HV.out]; omega), List.append_nil] at hpre
          subst hpre
          obtain ⟨d1, d2, d3, d4⟩ := tk_done hT HV.out
          have HD := Lib.hid (show recTE V b = 0 ∧ recTt t V b = T ∧ recTV V b = V' ∧ recTn V b = kk from ⟨d1, by rw [d2, HT.out], d3, d4⟩)
          clear hG hBad hm hT d1 d2 d3 d4
          go_wp2_with fail
          refine Ord.region_ (fun w' => EyeB w' (w.heap.size + 2) A n c kk 0 ∧ RcB w' (w.heap.size + 3) T V') false [] (by kernel_rfl) (by kernel_rfl) ⟨hEy, hR8⟩ ?_
          have hEy : EyeB wr.drew (w.heap.size + 2) A n c kk 0 := hEy
          have hR8 : RcB wr.drew (w.heap.size + 3) T V' := hR8
          have hR4 : RcB wr.drew (w.heap.size + 1) 0 z12 := hR4
          have hb := hb.drew
          clear c2 hR2
          generalize wr.drew = wd at *
          refine Ord.e_rowS Try.underlying25 rfl (by rw [rcC_size T V' hV']; kernel_rfl) rfl (by unfold rcC; simp) (fun w' hS => (show RcB w' _ T V' from hS.2).all) ⟨hEy, hR8⟩ (by kernel_rfl) ?_
          (try simp only [Act.put, List.setIfInBounds_toArray, List.set_cons_zero, List.set_cons_succ])
          ((with_reducible refine Ord.e_p (v := ?_) ?_ ?_ ?_ ?_); rotate_left; (· exact rfl); (· kernel_rfl); (· intro w2; go_simp; try with_reducible rfl))
          (try simp only [Act.put, List.setIfInBounds_toArray, List.set_cons_zero, List.set_cons_succ])
          ((with_reducible refine Ord.e_p (v := ?_) ?_ ?_ ?_ ?_); rotate_left; (· exact rfl); (· kernel_rfl); (· intro w2; go_simp; try with_reducible rfl))
          (try simp only [Act.put, List.setIfInBounds_toArray, List.set_cons_zero, List.set_cons_succ])
          ((with_reducible refine Ord.e_p (v := ?_) ?_ ?_ ?_ ?_); rotate_left; (· exact rfl); (· kernel_rfl); (· intro w2; go_simp; try with_reducible rfl))
          (try simp only [Act.put, List.setIfInBounds_toArray, List.set_cons_zero, List.set_cons_succ])
          refine Ord.e_loadS Try.underlying3 rfl (fun w' hS => blk_cell (i := 1) (v := .int .i64 (kk : Int)) (show EyeB w' _ A n c kk 0 from hS.1) rfl) ⟨hEy, hR8⟩ rfl (by kernel_rfl) ?_
          (try simp only [Act.put, List.setIfInBounds_toArray, List.set_cons_zero, List.set_cons_succ])
          refine Ord.e_x rfl (by kernel_rfl) ?_
          refine wpList_store_row rfl _ _ _ rfl (w.heap.size + 1) (rcC T V').toArray rfl rfl _ _ hR4 (by rw [List.size_toArray, rcC_size T V' hV']; kernel_rfl) (by rw [List.size_toArray, List.size_toArray, rcC_size T V' hV']; rfl) (all_oneCell_toArray (rcC_one T V')) ?_
          obtain ⟨hz, hAz⟩ := rc_store T V' hV' wd (w.heap.size + 1) hR4
          have hbz := below_awG hb hAz (fun k hk => by omega) hb.size
          have hE9 := eye_aw hAz hEy (by omega)
          have hR9 : RcB _ (w.heap.size + 3) T V' := hAz.keep hR8 (by omega)
          generalize (wd.setRow (w.heap.size + 1) (rcC T V').toArray) = w5 at *
          go_wp2_with fail
          refine Ord.Seg.go ⟨hE9, hR9⟩ (fun h => by cases h) ?_
          (try simp only [Act.put, List.setIfInBounds_toArray, List.set_cons_zero, List.set_cons_succ])
          ((with_reducible refine Ord.e_p (v := ?_) ?_ ?_ ?_ ?_); rotate_left; (· exact rfl); (· kernel_rfl); (· intro w2; go_simp; try with_reducible rfl))
          (try simp only [Act.put, List.setIfInBounds_toArray, List.set_cons_zero, List.set_cons_succ])
          ((with_reducible refine Ord.e_p (v := ?_) ?_ ?_ ?_ ?_); rotate_left; (· exact rfl); (· kernel_rfl); (· intro w2; go_simp; try with_reducible rfl))
          (try simp only [Act.put, List.setIfInBounds_toArray, List.set_cons_zero, List.set_cons_succ])
          refine Ord.e_nil ?_
          clear hR4 hb hEy hR8 hAz hE9 hR9
          go_wp2
          exact bodyPost_ret (results_cell3 (fn := Try.f28) Try.results28 _ _ (w.heap.size + 1) _ _ _ _ rfl hz Try.underlying25 rfl (by rw [List.size_toArray, rcC_size T V' hV']; kernel_rfl)) rfl ⟨by rw [HD.out.1, HD.out.2.1, HD.out.2.2.1, HD.out.2.2.2]; rfl, hbz⟩
        · have he' : ¬ (ee : Int) = 0 := by omega
          have hte : recTE V b = ee := (hBad he).out
          obtain ⟨d2, d3, d4⟩ := recT_bad (t := t) (V := V) (b := b) (by rw [hte]; exact he)
          have HD := Lib.hid (show recTE V b = ee ∧ recTt t V b = 0 ∧ recTV V b = z12 ∧ recTn V b = 0 from ⟨hte, d2, d3, d4⟩)
          clear hG hBad he hte d2 d3 d4
          go_wp2_with fail
          refine Ord.region_ (fun w' => EyeB w' (w.heap.size + 2) A n c kk ee) false [] (by kernel_rfl) (by kernel_rfl) hEy ?_
          have hEy : EyeB wr.drew (w.heap.size + 2) A n c kk ee := hEy
          have hR4 : RcB wr.drew (w.heap.size + 1) 0 z12 := hR4
          have hb := hb.drew
          clear c2 hR2 hR8
          generalize wr.drew = wd at *
          (with_reducible refine Ord.e_p (v := .agg (rcC 0 z12).toArray) ?_ ?_ ?_ ?_)
          · exact rfl
          · kernel_rfl
          · intro w2; kernel_rfl
          (try simp only [Act.put, List.setIfInBounds_toArray, List.set_cons_zero, List.set_cons_succ])
          ((with_reducible refine Ord.e_p (v := ?_) ?_ ?_ ?_ ?_); rotate_left; (· exact rfl); (· kernel_rfl); (· intro w2; go_simp; try with_reducible rfl))
          (try simp only [Act.put, List.setIfInBounds_toArray, List.set_cons_zero, List.set_cons_succ])
          ((with_reducible refine Ord.e_p (v := ?_) ?_ ?_ ?_ ?_); rotate_left; (· exact rfl); (· kernel_rfl); (· intro w2; go_simp; try with_reducible rfl))
          (try simp only [Act.put, List.setIfInBounds_toArray, List.set_cons_zero, List.set_cons_succ])
          ((with_reducible refine Ord.e_p (v := ?_) ?_ ?_ ?_ ?_); rotate_left; (· exact rfl); (· kernel_rfl); (· intro w2; go_simp; try with_reducible rfl))
          (try simp only [Act.put, List.setIfInBounds_toArray, List.set_cons_zero, List.set_cons_succ])
          refine Ord.e_loadS Try.underlying32 rfl (fun w' hS => blk_cell (i := 2) (v := .int .i64 (ee : Int)) (show EyeB w' _ A n c kk ee from hS) rfl) hEy rfl (by kernel_rfl) ?_
          (try simp only [Act.put, List.setIfInBounds_toArray, List.set_cons_zero, List.set_cons_succ])
          refine Ord.e_x rfl (by kernel_rfl) ?_
          refine wpList_store_row rfl _ _ _ rfl (w.heap.size + 1) (rcC 0 z12).toArray rfl rfl _ _ hR4 (by kernel_rfl) (by kernel_rfl) (by kernel_rfl) ?_
          obtain ⟨hz, hAz⟩ := rc_store 0 z12 rfl wd (w.heap.size + 1) hR4
          have hbz := below_awG hb hAz (fun k hk => by omega) hb.size
          have hE9 := eye_aw hAz hEy (by omega)
          generalize (wd.setRow (w.heap.size + 1) (rcC 0 z12).toArray) = w5 at *
          go_wp2_with fail
          refine Ord.Seg.go hE9 (fun h => by cases h) ?_
          (try simp only [Act.put, List.setIfInBounds_toArray, List.set_cons_zero, List.set_cons_succ])
          ((with_reducible refine Ord.e_p (v := ?_) ?_ ?_ ?_ ?_); rotate_left; (· exact rfl); (· kernel_rfl); (· intro w2; go_simp; try with_reducible rfl))
          (try simp only [Act.put, List.setIfInBounds_toArray, List.set_cons_zero, List.set_cons_succ])
          ((with_reducible refine Ord.e_p (v := ?_) ?_ ?_ ?_ ?_); rotate_left; (· exact rfl); (· kernel_rfl); (· intro w2; go_simp; try with_reducible rfl))
          (try simp only [Act.put, List.setIfInBounds_toArray, List.set_cons_zero, List.set_cons_succ])
          refine Ord.e_nil ?_
          clear hR4 hb hEy hAz hE9
          go_wp2
          exact bodyPost_ret (results_cell3 (fn := Try.f28) Try.results28 _ _ (w.heap.size + 1) _ _ _ _ rfl hz Try.underlying25 rfl (by kernel_rfl)) rfl ⟨by rw [HD.out.1, HD.out.2.1, HD.out.2.2.1, HD.out.2.2.2]; rfl, hbz⟩


end Go.Proofs.Ytplgcfjcdjlnbaa
