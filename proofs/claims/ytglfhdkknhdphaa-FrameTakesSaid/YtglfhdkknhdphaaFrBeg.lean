/-
  frame.begins walked.
-/
import Derived.Test.YtglfhdkknhdphaaFrPut
import Derived.Stop.BytesEq
import Derived.Laws.CopyOwn
set_option linter.unusedSimpArgs false
set_option linter.unusedVariables false
namespace Go.Proofs.Ytglfhdkknhdphaa
open Go.RowKit NumLaw

def frBeg (b : List UInt8) : Bool := b.take 2 == ([181, 98] : List UInt8).take b.length
theorem frBeg_eq (b : List UInt8) : (b.take 2 ++ ([181, 98] : List UInt8).drop (b.take 2).length == [181, 98]) = frBeg b := by
  unfold frBeg
  match b with
  | [] => rfl
  | [x] => simp
  | x :: y :: l => simp
theorem arr2_eql (xs ys : List UInt8) (hx : xs.length = 2) (hy : ys.length = 2) (w : World) : (binOp .eql 153 (.agg (bv xs).toArray) (.agg (bv ys).toArray)).run Try.prog w = .ok (.bool (xs == ys)) w := by
  have h := run_equalIn_bytes (P := Try.prog) w 9998 153 5 2 Try.underlying153 Try.underlying5 (fun w => by obtain ⟨i, hi⟩ := info_parts u8_info; simp [sizeOf, typeInfo, hi.1, hi.2.2.1]) xs ys hx hy
  rw [run_eql_struct]
  rw [show (bv xs) = xs.map Extern.Stop.cell from rfl, show (bv ys) = ys.map Extern.Stop.cell from rfl, h]
  rfl
theorem arr2_guard : Try.prog.eqGuardType Try.prog.depth 153 = false := by kernel_rfl

set_option maxRecDepth 10000 in
set_option maxHeartbeats 1000000 in
theorem frbegins_any (A : Option Addr) (n c B : Nat) (b : List UInt8) (w : World) (h : Rd w B 1 A n c (bv b)) (hB : B ≤ w.heap.size) :
    Calls Try.prog 104 #[.slice A n c] w fun e w' => e = .returned (.bool (frBeg b)) ∧ Below w.heap.size w w' := by
  have hll := h.blen
  have hle := h.le
  have hmx := h.max
  unfold maxLen at hmx
  obtain ⟨k, hk⟩ : ∃ k, k = min n 2 := ⟨_, rfl⟩
  have hkn : k ≤ n := by omega
  have hk2 : k ≤ 2 := by omega
  have htk := h.btake hkn
  have hbt : b.take 2 = b.take k := by
    rcases Nat.lt_or_ge n 2 with g | g
    · rw [show k = n by omega, List.take_of_length_le (by omega), List.take_of_length_le (by omega)]
    · rw [show k = 2 by omega]
  have hE := Lib.hid (frBeg_eq b)
  rw [hbt] at hE
  obtain ⟨pre, hpre⟩ : ∃ pre, pre = b.take k := ⟨_, rfl⟩
  rw [← hpre] at hE htk
  have hpl : pre.length = k := by rw [hpre, List.length_take]; omega
  obtain ⟨r, hr⟩ : ∃ r, r = frBeg b := ⟨_, rfl⟩
  rw [← hr] at hE ⊢
  have hmin : min (n : Int) 2 = (k : Int) := by omega
  obtain ⟨i0, hi⟩ := info_parts u8_info
  have Hi := Lib.hid hi
  have hrun := fun w => run_cut_h (P := Try.prog) Try.underlying22 hi.1 A n c k (by omega) w
  have Hpl := Lib.hid hpl
  clear hll hbt hpre hr hi hk hpl
  have h1 : Below w.heap.size w ((w.alloc (.cells #[.int .u8 181, .int .u8 98] 153)).alloc (.cells #[.int .u8 181, .int .u8 98] 153)) := ((Below.refl _ _).alloc (Nat.le_refl _) _).alloc (by simp) _
  have hs0 : ((w.alloc (.cells #[.int .u8 181, .int .u8 98] 153)).alloc (.cells #[.int .u8 181, .int .u8 98] 153)).heap[w.heap.size]? = some (.cells #[.int .u8 181, .int .u8 98] 153) := (heap_alloc_old _ _ (by simp)).trans (heap_alloc_new w _)
  have hs1 : ((w.alloc (.cells #[.int .u8 181, .int .u8 98] 153)).alloc (.cells #[.int .u8 181, .int .u8 98] 153)).heap[w.heap.size + 1]? = some (.cells #[.int .u8 181, .int .u8 98] 153) := blk_new2 _ _ _
  have hq := arr2_eql (pre ++ ([181, 98] : List UInt8).drop pre.length) [181, 98] (by simp; rw [Hpl.out]; omega) rfl
  simp only [hE.out] at hq
  obtain ⟨x, y, hxy⟩ : ∃ x y, pre ++ ([181, 98] : List UInt8).drop pre.length = [x, y] := by
    have hl : (pre ++ ([181, 98] : List UInt8).drop pre.length).length = 2 := by simp; rw [Hpl.out]; omega
    match h : pre ++ ([181, 98] : List UInt8).drop pre.length, hl with
    | [x, y], _ => exact ⟨x, y, rfl⟩
  rw [hxy] at hq
  have Hq : Hid (∀ w, (binOp .eql 153 (.agg #[.int .u8 (x.toNat : Int), .int .u8 (y.toNat : Int)]) (.agg #[.int .u8 181, .int .u8 98])).run Try.prog w = .ok (.bool r) w) := Lib.hid hq
  have Hsp : Hid (splice [.int .u8 181, .int .u8 98] 0 (bv pre) = [.int .u8 (x.toNat : Int), .int .u8 (y.toNat : Int)]) := by
    refine Lib.hid ?_
    have : splice [.int .u8 181, .int .u8 98] 0 (bv pre) = bv (pre ++ ([181, 98] : List UInt8).drop pre.length) := by
      unfold splice
      rw [bv_app, bv_drop, bv_len]
      simp [bv]
    rw [this, hxy]
    rfl
  have hguard := arr2_guard
  clear hE hq
  rcases (by omega : (k = n ∧ n ≤ 2) ∨ (k = 2 ∧ 2 < n)) with ⟨rfl, g⟩ | ⟨rfl, g⟩
  · go_enter Try.func104, Try.ntmps104
    go_wp2_with fail
    replace h1 := h1.drew
    refine Ord.region_ (fun _ => True) false [] (by kernel_rfl) (by kernel_rfl) trivial ?_
    replace hs0 : ((w.alloc (.cells #[.int .u8 181, .int .u8 98] 153)).alloc (.cells #[.int .u8 181, .int .u8 98] 153)).drew.heap[w.heap.size]? = _ := hs0
    replace hs1 : ((w.alloc (.cells #[.int .u8 181, .int .u8 98] 153)).alloc (.cells #[.int .u8 181, .int .u8 98] 153)).drew.heap[w.heap.size + 1]? = _ := hs1
    generalize ((w.alloc (.cells #[.int .u8 181, .int .u8 98] 153)).alloc (.cells #[.int .u8 181, .int .u8 98] 153)).drew = w1 at *
    repeat (first | (refine Ord.e_p (v := ?_) rfl (by rfl) ?_ ?_; rotate_left; · (intro w2; go_simp; try with_reducible rfl)) | (refine Ord.e_u (by rfl) ?_)); (try simp only [Act.put, List.setIfInBounds_toArray, List.set_cons_zero, List.set_cons_succ])
    refine Ord.e_x rfl (by rfl) ?_
    refine wpList_copy_splice rfl (.tmp 11) (.tmp 14) 22 22 rfl 5 Try.underlying22 (by rw [Hi.out.1]; exact congrArg some Hi.out.2.2.1) (some ⟨w.heap.size + 1, 0, none⟩) A _ _ _ c rfl rfl (w.heap.size + 1) 0 [.int .u8 181, .int .u8 98] 153 hs1 (bv pre) (by rw [bv_len, Hpl.out]; exact (Nat.min_eq_left (by omega)).symm) (fun hp => ⟨rfl, ?_⟩) (by rw [bv_len, Hpl.out]; simp <;> omega) (bv_one pre) (w.heap.size + 1) w1 (Below.refl _ _) (Nat.le_refl _) ?_
    · rw [bv_len, Hpl.out] at hp
      obtain ⟨ad, e, _, hc⟩ := (htk.up (h1.mono hB)).at_ hp
      exact ⟨ad, e, hc⟩
    intro w2 hg2 hb2
    rw [Hsp.out] at hg2
    have hg2' := hg2.out
    replace hs0 := blk_old hs0 hb2 (by omega)
    have h2 : Below w.heap.size w w2 := h1.trans (hb2.mono (by omega))
    clear hs1 hb2 h1 hg2
    go_wp2_with fail
    refine Ord.Seg.go trivial (fun h => by cases h) ?_
    (try simp only [Act.put, List.setIfInBounds_toArray, List.set_cons_zero, List.set_cons_succ])
    refine Ord.e_nil ?_
    have c0 : w2.cell? ⟨w.heap.size + 1, 0, none⟩ = some (.int .u8 (x.toNat : Int)) := blk_cell hg2' rfl
    have c1 : w2.cell? ⟨w.heap.size + 1, 1, none⟩ = some (.int .u8 (y.toNat : Int)) := blk_cell hg2' rfl
    have d0 : w2.cell? ⟨w.heap.size, 0, none⟩ = some (.int .u8 181) := blk_cell hs0 rfl
    have d1 : w2.cell? ⟨w.heap.size, 1, none⟩ = some (.int .u8 98) := blk_cell hs0 rfl
    have hq := Hq.out
    clear hg2' hs0
    go_wp2
    go_ret
    exact ⟨rfl, h2⟩
  · have hrun2 : ∀ w, (Instr.slice 22 (.slice A n c) none (some (.int .i64 2)) none).run Try.prog w = .ok (.slice A 2 c) w := hrun
    clear hrun hmin
    go_enter Try.func104, Try.ntmps104
    go_wp2_with fail
    replace h1 := h1.drew
    refine Ord.region_ (fun _ => True) false [] (by kernel_rfl) (by kernel_rfl) trivial ?_
    replace hs0 : ((w.alloc (.cells #[.int .u8 181, .int .u8 98] 153)).alloc (.cells #[.int .u8 181, .int .u8 98] 153)).drew.heap[w.heap.size]? = _ := hs0
    replace hs1 : ((w.alloc (.cells #[.int .u8 181, .int .u8 98] 153)).alloc (.cells #[.int .u8 181, .int .u8 98] 153)).drew.heap[w.heap.size + 1]? = _ := hs1
    generalize ((w.alloc (.cells #[.int .u8 181, .int .u8 98] 153)).alloc (.cells #[.int .u8 181, .int .u8 98] 153)).drew = w1 at *
    repeat (first | (refine Ord.e_p (v := ?_) rfl (by rfl) ?_ ?_; rotate_left; · (intro w2; go_simp; try with_reducible rfl)) | (refine Ord.e_u (by rfl) ?_)); (try simp only [Act.put, List.setIfInBounds_toArray, List.set_cons_zero, List.set_cons_succ])
    refine Ord.e_x rfl (by rfl) ?_
    refine wpList_copy_splice rfl (.tmp 11) (.tmp 14) 22 22 rfl 5 Try.underlying22 (by rw [Hi.out.1]; exact congrArg some Hi.out.2.2.1) (some ⟨w.heap.size + 1, 0, none⟩) A _ _ _ c rfl rfl (w.heap.size + 1) 0 [.int .u8 181, .int .u8 98] 153 hs1 (bv pre) (by rw [bv_len, Hpl.out]; exact (Nat.min_eq_left (by omega)).symm) (fun hp => ⟨rfl, ?_⟩) (by rw [bv_len, Hpl.out]; simp <;> omega) (bv_one pre) (w.heap.size + 1) w1 (Below.refl _ _) (Nat.le_refl _) ?_
    · rw [bv_len, Hpl.out] at hp
      obtain ⟨ad, e, _, hc⟩ := (htk.up (h1.mono hB)).at_ hp
      exact ⟨ad, e, hc⟩
    intro w2 hg2 hb2
    rw [Hsp.out] at hg2
    have hg2' := hg2.out
    replace hs0 := blk_old hs0 hb2 (by omega)
    have h2 : Below w.heap.size w w2 := h1.trans (hb2.mono (by omega))
    clear hs1 hb2 h1 hg2
    go_wp2_with fail
    refine Ord.Seg.go trivial (fun h => by cases h) ?_
    (try simp only [Act.put, List.setIfInBounds_toArray, List.set_cons_zero, List.set_cons_succ])
    refine Ord.e_nil ?_
    have c0 : w2.cell? ⟨w.heap.size + 1, 0, none⟩ = some (.int .u8 (x.toNat : Int)) := blk_cell hg2' rfl
    have c1 : w2.cell? ⟨w.heap.size + 1, 1, none⟩ = some (.int .u8 (y.toNat : Int)) := blk_cell hg2' rfl
    have d0 : w2.cell? ⟨w.heap.size, 0, none⟩ = some (.int .u8 181) := blk_cell hs0 rfl
    have d1 : w2.cell? ⟨w.heap.size, 1, none⟩ = some (.int .u8 98) := blk_cell hs0 rfl
    have hq := Hq.out
    clear hg2' hs0
    go_wp2
    go_ret
    exact ⟨rfl, h2⟩

end Go.Proofs.Ytglfhdkknhdphaa
