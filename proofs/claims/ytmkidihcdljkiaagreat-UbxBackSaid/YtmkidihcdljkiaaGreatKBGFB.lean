/-
  Several texts in one: FrBeg FrTake FrLaw.
-/
import Derived.Test.YtmkidihcdljkiaaGreatKBFrPut
import Derived.Stop.BytesEq
import Derived.Laws.CopyOwn
/-
  frame.begins walked.
-/
set_option linter.unusedSimpArgs false
set_option linter.unusedVariables false
namespace Go.Proofs.YtmkidihcdljkiaaGreat
open Go.RowKit NumLaw

def frBeg (b : List UInt8) : Bool := b.take 2 == ([181, 98] : List UInt8).take b.length
theorem frBeg_eq (b : List UInt8) : (b.take 2 ++ ([181, 98] : List UInt8).drop (b.take 2).length == [181, 98]) = frBeg b := by
  unfold frBeg
  match b with
  | [] => rfl
  | [x] => simp
  | x :: y :: l => simp
theorem arr2_eql (xs ys : List UInt8) (hx : xs.length = 2) (hy : ys.length = 2) (w : World) : (binOp .eql 148 (.agg (bv xs).toArray) (.agg (bv ys).toArray)).run Tryz.prog w = .ok (.bool (xs == ys)) w := by
  have h := run_equalIn_bytes (P := Tryz.prog) w 9998 148 5 2 Tryz.underlying148 Tryz.underlying5 (fun w => by obtain ⟨i, hi⟩ := info_parts u8_info; simp [sizeOf, typeInfo, hi.1, hi.2.2.1]) xs ys hx hy
  rw [run_eql_struct]
  rw [show (bv xs) = xs.map Extern.Stop.cell from rfl, show (bv ys) = ys.map Extern.Stop.cell from rfl, h]
  rfl
theorem arr2_guard : Tryz.prog.eqGuardType Tryz.prog.depth 148 = false := by kernel_rfl

set_option maxRecDepth 10000 in
set_option maxHeartbeats 1000000 in
theorem frbegins_any (A : Option Addr) (n c B : Nat) (b : List UInt8) (w : World) (h : Rd w B 1 A n c (bv b)) (hB : B ≤ w.heap.size) :
    Calls Tryz.prog 63 #[.slice A n c] w fun e w' => e = .returned (.bool (frBeg b)) ∧ Below w.heap.size w w' := by
  have hll := h.blen
  have hle := h.le
  have hmx := h.max
  unfold maxLen at hmx
  obtain ⟨k, hk⟩ : ∃ k, k = min n 2 := ⟨_, rfl⟩
  have hkn : k ≤ n := by omega
  have hk2 : k ≤ 2 := by omega
  have htk := h.btake hkn
  have hbt : b.take 2 = b.take k := by
    rcases Nat.lt_or_ge n 2 with g | g
    · rw [show k = n by omega, List.take_of_length_le (by omega), List.take_of_length_le (by omega)]
    · rw [show k = 2 by omega]
  have hE := Lib.hid (frBeg_eq b)
  rw [hbt] at hE
  obtain ⟨pre, hpre⟩ : ∃ pre, pre = b.take k := ⟨_, rfl⟩
  rw [← hpre] at hE htk
  have hpl : pre.length = k := by rw [hpre, List.length_take]; omega
  obtain ⟨r, hr⟩ : ∃ r, r = frBeg b := ⟨_, rfl⟩
  rw [← hr] at hE ⊢
  have hmin : min (n : Int) 2 = (k : Int) := by omega
  obtain ⟨i0, hi⟩ := info_parts u8_info
  have Hi := Lib.hid hi
  have hrun := fun w => run_cut_h (P := Tryz.prog) Tryz.underlying38 hi.1 A n c k (by omega) w
  have Hpl := Lib.hid hpl
  clear hll hbt hpre hr hi hk hpl
  have h1 : Below w.heap.size w ((w.alloc (.cells #[.int .u8 181, .int .u8 98] 148)).alloc (.cells #[.int .u8 181, .int .u8 98] 148)) := ((Below.refl _ _).alloc (Nat.le_refl _) _).alloc (by simp) _
  have hs0 : ((w.alloc (.cells #[.int .u8 181, .int .u8 98] 148)).alloc (.cells #[.int .u8 181, .int .u8 98] 148)).heap[w.heap.size]? = some (.cells #[.int .u8 181, .int .u8 98] 148) := (heap_alloc_old _ _ (by simp)).trans (heap_alloc_new w _)
  have hs1 : ((w.alloc (.cells #[.int .u8 181, .int .u8 98] 148)).alloc (.cells #[.int .u8 181, .int .u8 98] 148)).heap[w.heap.size + 1]? = some (.cells #[.int .u8 181, .int .u8 98] 148) := blk_new2 _ _ _
  have hq := arr2_eql (pre ++ ([181, 98] : List UInt8).drop pre.length) [181, 98] (by simp; rw [Hpl.out]; omega) rfl
  simp only [hE.out] at hq
  obtain ⟨x, y, hxy⟩ : ∃ x y, pre ++ ([181, 98] : List UInt8).drop pre.length = [x, y] := by
    have hl : (pre ++ ([181, 98] : List UInt8).drop pre.length).length = 2 := by simp; rw [Hpl.out]; omega
    match h : pre ++ ([181, 98] : List UInt8).drop pre.length, hl with
    | [x, y], _ => exact ⟨x, y, rfl⟩
  rw [hxy] at hq
  have Hq : Hid (∀ w, (binOp .eql 148 (.agg #[.int .u8 (x.toNat : Int), .int .u8 (y.toNat : Int)]) (.agg #[.int .u8 181, .int .u8 98])).run Tryz.prog w = .ok (.bool r) w) := Lib.hid hq
  have Hsp : Hid (splice [.int .u8 181, .int .u8 98] 0 (bv pre) = [.int .u8 (x.toNat : Int), .int .u8 (y.toNat : Int)]) := by
    refine Lib.hid ?_
    have : splice [.int .u8 181, .int .u8 98] 0 (bv pre) = bv (pre ++ ([181, 98] : List UInt8).drop pre.length) := by
      unfold splice
      rw [bv_app, bv_drop, bv_len]
      simp [bv]
    rw [this, hxy]
    rfl
  have hguard := arr2_guard
  clear hE hq
  rcases (by omega : (k = n ∧ n ≤ 2) ∨ (k = 2 ∧ 2 < n)) with ⟨rfl, g⟩ | ⟨rfl, g⟩
  · go_enter Tryz.func63, Tryz.ntmps63
    go_wp2_with fail
    replace h1 := h1.drew
    refine Ord.region_ (fun _ => True) false [] (by kernel_rfl) (by kernel_rfl) trivial ?_
    replace hs0 : ((w.alloc (.cells #[.int .u8 181, .int .u8 98] 148)).alloc (.cells #[.int .u8 181, .int .u8 98] 148)).drew.heap[w.heap.size]? = _ := hs0
    replace hs1 : ((w.alloc (.cells #[.int .u8 181, .int .u8 98] 148)).alloc (.cells #[.int .u8 181, .int .u8 98] 148)).drew.heap[w.heap.size + 1]? = _ := hs1
    generalize ((w.alloc (.cells #[.int .u8 181, .int .u8 98] 148)).alloc (.cells #[.int .u8 181, .int .u8 98] 148)).drew = w1 at *
    repeat (first | (refine Ord.e_p (v := ?_) rfl (by rfl) ?_ ?_; rotate_left; · (intro w2; go_simp; try with_reducible rfl)) | (refine Ord.e_u (by rfl) ?_)); (try simp only [Act.put, List.setIfInBounds_toArray, List.set_cons_zero, List.set_cons_succ])
    refine Ord.e_x rfl (by rfl) ?_
    refine wpList_copy_splice rfl (.tmp 11) (.tmp 14) 38 38 rfl 5 Tryz.underlying38 (by rw [Hi.out.1]; exact congrArg some Hi.out.2.2.1) (some ⟨w.heap.size + 1, 0, none⟩) A _ _ _ c rfl rfl (w.heap.size + 1) 0 [.int .u8 181, .int .u8 98] 148 hs1 (bv pre) (by rw [bv_len, Hpl.out]; exact (Nat.min_eq_left (by omega)).symm) (fun hp => ⟨rfl, ?_⟩) (by rw [bv_len, Hpl.out]; simp <;> omega) (bv_one pre) (w.heap.size + 1) w1 (Below.refl _ _) (Nat.le_refl _) ?_
    · rw [bv_len, Hpl.out] at hp
      obtain ⟨ad, e, _, hc⟩ := (htk.up (h1.mono hB)).at_ hp
      exact ⟨ad, e, hc⟩
    intro w2 hg2 hb2
    rw [Hsp.out] at hg2
    have hg2' := hg2.out
    replace hs0 := blk_old hs0 hb2 (by omega)
    have h2 : Below w.heap.size w w2 := h1.trans (hb2.mono (by omega))
    clear hs1 hb2 h1 hg2
    go_wp2_with fail
    refine Ord.Seg.go trivial (fun h => by cases h) ?_
    (try simp only [Act.put, List.setIfInBounds_toArray, List.set_cons_zero, List.set_cons_succ])
    refine Ord.e_nil ?_
    have c0 : w2.cell? ⟨w.heap.size + 1, 0, none⟩ = some (.int .u8 (x.toNat : Int)) := blk_cell hg2' rfl
    have c1 : w2.cell? ⟨w.heap.size + 1, 1, none⟩ = some (.int .u8 (y.toNat : Int)) := blk_cell hg2' rfl
    have d0 : w2.cell? ⟨w.heap.size, 0, none⟩ = some (.int .u8 181) := blk_cell hs0 rfl
    have d1 : w2.cell? ⟨w.heap.size, 1, none⟩ = some (.int .u8 98) := blk_cell hs0 rfl
    have hq := Hq.out
    clear hg2' hs0
    go_wp2
    go_ret
    exact ⟨rfl, h2⟩
  · have hrun2 : ∀ w, (Instr.slice 38 (.slice A n c) none (some (.int .i64 2)) none).run Tryz.prog w = .ok (.slice A 2 c) w := hrun
    clear hrun hmin
    go_enter Tryz.func63, Tryz.ntmps63
    go_wp2_with fail
    replace h1 := h1.drew
    refine Ord.region_ (fun _ => True) false [] (by kernel_rfl) (by kernel_rfl) trivial ?_
    replace hs0 : ((w.alloc (.cells #[.int .u8 181, .int .u8 98] 148)).alloc (.cells #[.int .u8 181, .int .u8 98] 148)).drew.heap[w.heap.size]? = _ := hs0
    replace hs1 : ((w.alloc (.cells #[.int .u8 181, .int .u8 98] 148)).alloc (.cells #[.int .u8 181, .int .u8 98] 148)).drew.heap[w.heap.size + 1]? = _ := hs1
    generalize ((w.alloc (.cells #[.int .u8 181, .int .u8 98] 148)).alloc (.cells #[.int .u8 181, .int .u8 98] 148)).drew = w1 at *
    repeat (first | (refine Ord.e_p (v := ?_) rfl (by rfl) ?_ ?_; rotate_left; · (intro w2; go_simp; try with_reducible rfl)) | (refine Ord.e_u (by rfl) ?_)); (try simp only [Act.put, List.setIfInBounds_toArray, List.set_cons_zero, List.set_cons_succ])
    refine Ord.e_x rfl (by rfl) ?_
    refine wpList_copy_splice rfl (.tmp 11) (.tmp 14) 38 38 rfl 5 Tryz.underlying38 (by rw [Hi.out.1]; exact congrArg some Hi.out.2.2.1) (some ⟨w.heap.size + 1, 0, none⟩) A _ _ _ c rfl rfl (w.heap.size + 1) 0 [.int .u8 181, .int .u8 98] 148 hs1 (bv pre) (by rw [bv_len, Hpl.out]; exact (Nat.min_eq_left (by omega)).symm) (fun hp => ⟨rfl, ?_⟩) (by rw [bv_len, Hpl.out]; simp <;> omega) (bv_one pre) (w.heap.size + 1) w1 (Below.refl _ _) (Nat.le_refl _) ?_
    · rw [bv_len, Hpl.out] at hp
      obtain ⟨ad, e, _, hc⟩ := (htk.up (h1.mono hB)).at_ hp
      exact ⟨ad, e, hc⟩
    intro w2 hg2 hb2
    rw [Hsp.out] at hg2
    have hg2' := hg2.out
    replace hs0 := blk_old hs0 hb2 (by omega)
    have h2 : Below w.heap.size w w2 := h1.trans (hb2.mono (by omega))
    clear hs1 hb2 h1 hg2
    go_wp2_with fail
    refine Ord.Seg.go trivial (fun h => by cases h) ?_
    (try simp only [Act.put, List.setIfInBounds_toArray, List.set_cons_zero, List.set_cons_succ])
    refine Ord.e_nil ?_
    have c0 : w2.cell? ⟨w.heap.size + 1, 0, none⟩ = some (.int .u8 (x.toNat : Int)) := blk_cell hg2' rfl
    have c1 : w2.cell? ⟨w.heap.size + 1, 1, none⟩ = some (.int .u8 (y.toNat : Int)) := blk_cell hg2' rfl
    have d0 : w2.cell? ⟨w.heap.size, 0, none⟩ = some (.int .u8 181) := blk_cell hs0 rfl
    have d1 : w2.cell? ⟨w.heap.size, 1, none⟩ = some (.int .u8 98) := blk_cell hs0 rfl
    have hq := Hq.out
    clear hg2' hs0
    go_wp2
    go_ret
    exact ⟨rfl, h2⟩

end Go.Proofs.YtmkidihcdljkiaaGreat

/-
  frame.Take walked.
-/
set_option linter.unusedSimpArgs false
set_option linter.unusedVariables false
namespace Go.Proofs.YtmkidihcdljkiaaGreat
open Go.RowKit NumLaw

/-- What a frame's taking tells. -/
structure FrT where
  c : Nat
  i : Nat
  p : List UInt8
  size : Nat
  err : Nat
def frTake (b : List UInt8) : FrT :=
  if frBeg b = false then ⟨0, 0, [], 0, 3⟩ else
  match b with
  | _ :: _ :: c :: i :: l :: h :: _ =>
    if 1016 < l.toNat + 256 * h.toNat then ⟨0, 0, [], 0, 7⟩ else
    if b.length < l.toNat + 256 * h.toNat + 8 then ⟨0, 0, [], 0, 2⟩ else
    match openF ((b.take (l.toNat + 256 * h.toNat + 8)).drop 2) with
    | none => ⟨0, 0, [], 0, 4⟩
    | some body => ⟨c.toNat, i.toNat, body.drop 4, l.toNat + 256 * h.toNat + 8, 0⟩
  | _ => ⟨0, 0, [], 0, 2⟩
def RetT (w : World) (T : FrT) (e : Ending) (w' : World) : Prop :=
  ∃ A n cap, e = .returned (.tuple #[.agg #[.int .i64 (T.c : Int), .int .i64 (T.i : Int), .slice A n cap], .int .i64 (T.size : Int), .int .i64 (T.err : Int)]) ∧ Rd w' w'.heap.size 1 A n cap (bv T.p) ∧ Below w.heap.size w w'

/-- Three stores into a row of three cells. -/
theorem st3 {w : World} {g e : Nat} {a b c : Value} (h : w.heap[g]? = some (.cells #[a, b, c] e)) (x y z : Value) :
    w.cell? ⟨g, 0, none⟩ = some a ∧ w.frozen? ⟨g, 0, none⟩ = false ∧
    (w.setCell ⟨g, 0, none⟩ x).cell? ⟨g, 1, none⟩ = some b ∧ (w.setCell ⟨g, 0, none⟩ x).frozen? ⟨g, 1, none⟩ = false ∧
    ((w.setCell ⟨g, 0, none⟩ x).setCell ⟨g, 1, none⟩ y).cell? ⟨g, 2, none⟩ = some c ∧ ((w.setCell ⟨g, 0, none⟩ x).setCell ⟨g, 1, none⟩ y).frozen? ⟨g, 2, none⟩ = false ∧
    (((w.setCell ⟨g, 0, none⟩ x).setCell ⟨g, 1, none⟩ y).setCell ⟨g, 2, none⟩ z).heap[g]? = some (.cells #[x, y, z] e) ∧
    (((w.setCell ⟨g, 0, none⟩ x).setCell ⟨g, 1, none⟩ y).setCell ⟨g, 2, none⟩ z).heap.size = w.heap.size := by
  have h1 := blk_set (i := 0) h x
  have h2 := blk_set (i := 1) h1 y
  have h3 := blk_set (i := 2) h2 z
  exact ⟨blk_cell h rfl, blk_free h, blk_cell h1 rfl, blk_free h1, blk_cell h2 rfl, blk_free h2, h3, by simp [World.setCell]⟩
theorem st3_below {B : Nat} {w0 w : World} {g : Nat} (hb : Below B w0 w) (hg : B ≤ g) (x y z : Value) : Below B w0 (((w.setCell ⟨g, 0, none⟩ x).setCell ⟨g, 1, none⟩ y).setCell ⟨g, 2, none⟩ z) :=
  ((hb.setCell (p := ⟨g, 0, none⟩) hg x).setCell (p := ⟨g, 1, none⟩) hg y).setCell (p := ⟨g, 2, none⟩) hg z
theorem openF_len {l b : List UInt8} (h : openF l = some b) : b.length + 2 = l.length := by
  unfold openF at h
  split at h
  · cases h
  · split at h
    · injection h with h
      rw [← h, List.length_take]
      omega
    · cases h

set_option maxRecDepth 10000 in
set_option maxHeartbeats 4000000 in
theorem frTake_any (A : Option Addr) (n c B : Nat) (b : List UInt8) (w : World) (h : Rd w B 1 A n c (bv b)) (hB : B ≤ w.heap.size) (hn : n ≤ 1000000) :
    Calls Tryz.prog 38 #[.slice A n c] w (RetT w (frTake b)) := by
  have hll := h.blen
  have hle := h.le
  have hmx := h.max
  unfold maxLen at hmx
  obtain ⟨T, hT⟩ : ∃ T, T = frTake b := ⟨_, rfl⟩
  rw [← hT]
  have hres : (w.alloc (.cells #[.int .i64 0, .int .i64 0, .slice none 0 0] 40)).heap[w.heap.size]? = some (.cells #[.int .i64 0, .int .i64 0, .slice none 0 0] 40) := heap_alloc_new w _
  have h0 : Below w.heap.size w (w.alloc (.cells #[.int .i64 0, .int .i64 0, .slice none 0 0] 40)) := (Below.refl _ _).alloc (Nat.le_refl _) _
  have hbeg := frbegins_any A n c B b _ (h.up (h0.mono hB)) (Nat.le_trans hB h0.size)
  have hltr : w.heap.size < (w.alloc (.cells #[.int .i64 0, .int .i64 0, .slice none 0 0] 40)).heap.size := blk_lt hres
  cases hbg : frBeg b with
  | false =>
    obtain rfl : T = ⟨0, 0, [], 0, 3⟩ := by rw [hT]; unfold frTake; rw [if_pos hbg]
    rw [hbg] at hbeg
    clear hT hbg hll
    go_enter Tryz.func38, Tryz.ntmps38
    go_wp2_with fail
    go_fit hbeg
    rintro e w2 ⟨rfl, hb2⟩
    replace hres := blk_old hres hb2 hltr
    obtain ⟨s1, s2, s3, s4, s5, s6, he, hs⟩ := st3 hres (.int .i64 0) (.int .i64 0) (.slice none 0 0)
    have e0 := blk_cell (i := 0) (v := .int .i64 0) he rfl
    have e1 := blk_cell (i := 1) (v := .int .i64 0) he rfl
    have e2 := blk_cell (i := 2) (v := .slice none 0 0) he rfl
    go_wp2
    refine bodyPost_ret (v := .tuple #[.agg #[.int .i64 0, .int .i64 0, .slice none 0 0], .int .i64 0, .int .i64 3]) (by simp [results, go_sem, e0, e1, e2]) rfl ⟨none, 0, 0, rfl, Rd.none_ _ _ _, st3_below (bnx h0 hb2) (Nat.le_refl _) _ _ _⟩
  | true =>
    rw [hbg] at hbeg
    by_cases h6 : n < 6
    · obtain rfl : T = ⟨0, 0, [], 0, 2⟩ := by
        rw [hT]; unfold frTake; rw [if_neg (by rw [hbg]; simp)]
        match b, hll with
        | [], _ => rfl
        | [_], _ => rfl
        | [_, _], _ => rfl
        | [_, _, _], _ => rfl
        | [_, _, _, _], _ => rfl
        | [_, _, _, _, _], _ => rfl
        | _ :: _ :: _ :: _ :: _ :: _ :: _, hll => simp at hll; omega
      clear hT hbg hll
      go_enter Tryz.func38, Tryz.ntmps38
      go_wp2_with fail
      go_fit hbeg
      rintro e w2 ⟨rfl, hb2⟩
      replace hres := blk_old hres hb2 hltr
      obtain ⟨s1, s2, s3, s4, s5, s6, he, hs⟩ := st3 hres (.int .i64 0) (.int .i64 0) (.slice none 0 0)
      have e0 := blk_cell (i := 0) (v := .int .i64 0) he rfl
      have e1 := blk_cell (i := 1) (v := .int .i64 0) he rfl
      have e2 := blk_cell (i := 2) (v := .slice none 0 0) he rfl
      go_wp2
      refine bodyPost_ret (v := .tuple #[.agg #[.int .i64 0, .int .i64 0, .slice none 0 0], .int .i64 0, .int .i64 2]) (by simp [results, go_sem, e0, e1, e2]) rfl ⟨none, 0, 0, rfl, Rd.none_ _ _ _, st3_below (bnx h0 hb2) (Nat.le_refl _) _ _ _⟩
    · obtain ⟨x0, x1, x2, x3, x4, x5, rest, rfl⟩ : ∃ x0 x1 x2 x3 x4 x5 rest, b = x0 :: x1 :: x2 :: x3 :: x4 :: x5 :: rest := by
        match b, hll with
        | x0 :: x1 :: x2 :: x3 :: x4 :: x5 :: rest, _ => exact ⟨x0, x1, x2, x3, x4, x5, rest, rfl⟩
        | [], hll => simp at hll; omega
        | [_], hll => simp at hll; omega
        | [_, _], hll => simp at hll; omega
        | [_, _, _], hll => simp at hll; omega
        | [_, _, _, _], hll => simp at hll; omega
        | [_, _, _, _, _], hll => simp at hll; omega
      obtain ⟨N, hN⟩ : ∃ N, N = x4.toNat + 256 * x5.toNat := ⟨_, rfl⟩
      obtain ⟨bb, hbb⟩ : ∃ bb, bb = x0 :: x1 :: x2 :: x3 :: x4 :: x5 :: rest := ⟨_, rfl⟩
      have hT2 : T = if 1016 < N then ⟨0, 0, [], 0, 7⟩ else if n < N + 8 then ⟨0, 0, [], 0, 2⟩ else match openF ((bb.take (N + 8)).drop 2) with | none => ⟨0, 0, [], 0, 4⟩ | some body => ⟨x2.toNat, x3.toNat, body.drop 4, N + 8, 0⟩ := by
        rw [hT]; unfold frTake; rw [if_neg (by rw [hbg]; simp)]
        simp only [← hN, ← hbb]
        rw [show bb.length = n by rw [hbb]; exact hll]
      rw [← hbb] at h hll
      have hx2 := x2.toNat_lt
      have hx3 := x3.toNat_lt
      have hx4 := x4.toNat_lt
      have hx5 := x5.toNat_lt
      have hcut : Rd w B 1 (cutA A c 2 1) 4 (c - 2) (bv [x2, x3, x4, x5]) := by
        have := (h.btake (k := 6) (by omega)).bdrop (k := 2) (by omega)
        rw [hbb] at this
        exact this
      have hcutS := fun (S : Nat) (hS : S ≤ n) (h2 : 2 ≤ S) => (h.btake (k := S) hS).bdrop (k := 2) h2
      obtain ⟨i0, hi⟩ := info_parts u8_info
      have hi1 := hi.1
      have hrun : ∀ w, (Instr.slice 38 (.slice A n c) (some (.int .i64 2)) (some (.int .i64 6)) none).run Tryz.prog w = .ok (.slice (cutA A c 2 1) 4 (c - 2)) w := fun w => run_cut_lh (P := Tryz.prog) Tryz.underlying38 hi.1 hi.2.2.1 A n c 2 6 (by omega) (by omega) w
      have hrunS : ∀ S : Nat, 2 ≤ S → S ≤ c → ∀ w, (Instr.slice 38 (.slice A n c) (some (.int .i64 2)) (some (.int .i64 (S : Int))) none).run Tryz.prog w = .ok (.slice (cutA A c 2 1) (S - 2) (c - 2)) w := fun S h1 h2 w => run_cut_lh (P := Tryz.prog) Tryz.underlying38 hi.1 hi.2.2.1 A n c 2 S h1 h2 w
      have hrun4 : ∀ A' n' c', 4 ≤ n' → ∀ w, (Instr.slice 38 (.slice A' n' c') (some (.int .i64 4)) none none).run Tryz.prog w = .ok (.slice (cutA A' c' 4 1) (n' - 4) (c' - 4)) w := fun A' n' c' h1 w => run_cut_l (P := Tryz.prog) Tryz.underlying38 hi.1 hi.2.2.1 A' n' c' 4 h1 w
      have HrunS := Lib.hid hrunS
      have Hrun4 := Lib.hid hrun4
      have HcutS := Lib.hid hcutS
      have HT := Lib.hid hT2
      have Hbb := Lib.hid hbb
      have HN := Lib.hid hN
      have Hll := Lib.hid hll
      have hNb : N ≤ 65535 := by omega
      clear hT hT2 hbb hbg hN hll hrunS hrun4 hcutS hi
      have w1 : IntKind.i64.wrap (x2.toNat : Int) = (x2.toNat : Int) := by rw [IntKind.wrap_i64]; omega
      have w2' : IntKind.i64.wrap (x3.toNat : Int) = (x3.toNat : Int) := by rw [IntKind.wrap_i64]; omega
      have w3' : IntKind.i64.wrap (N : Int) = (N : Int) := by rw [IntKind.wrap_i64]; omega
      go_enter Tryz.func38, Tryz.ntmps38
      go_wp2_with fail
      go_fit hbeg
      rintro e w2 ⟨rfl, hb2⟩
      replace hres := blk_old hres hb2 hltr
      have hb2' := bnx h0 hb2
      clear hbeg hb2 h0 hltr
      go_wp2_with fail
      go_fit (rNew_any _ 4 (c - 2) B [x2, x3, x4, x5] w2 (hcut.up (hb2'.mono hB)) (Nat.le_trans hB hb2'.size) (by omega))
      rintro e w3 ⟨g, rfl, hr3, hg3, hb3⟩
      have hlt2 : w.heap.size < w2.heap.size := blk_lt hres
      replace hres := blk_old hres hb3 hlt2
      have hb3' := bnx hb2' hb3
      generalize w2.heap.size = lo at *
      clear hb2' hb3 hcut hrun
      go_wp2_with fail
      go_fit (rU_any lo g [x2, x3, x4, x5] false 1 w3 hr3)
      rintro e w4 ⟨rfl, hr4, hg4⟩
      rw [show rdF (nU 1) [x2, x3, x4, x5] false = false from rfl, show rdL (nU 1) [x2, x3, x4, x5] false = [x3, x4, x5] from rfl] at hr4
      rw [show num (rdB (nU 1) [x2, x3, x4, x5] false) = x2.toNat by show x2.toNat + 256 * 0 = _; omega]
      have hw3s : w.heap.size < w3.heap.size := blk_lt hres
      have hb4' : Below w.heap.size w w4 := hb3'.grown hg4 hb3'.size (fun k hk => by injection hk with hk; omega)
      have hres4 := (hg4.block _ hw3s (by intro e; injection e with e; omega)).trans hres
      clear hr3 hg4 hb3' hres
      go_wp2_with fail
      go_fit (rU_any lo g [x3, x4, x5] false 1 w4 hr4)
      rintro e w5 ⟨rfl, hr5, hg5⟩
      rw [show rdF (nU 1) [x3, x4, x5] false = false from rfl, show rdL (nU 1) [x3, x4, x5] false = [x4, x5] from rfl] at hr5
      rw [show num (rdB (nU 1) [x3, x4, x5] false) = x3.toNat by show x3.toNat + 256 * 0 = _; omega]
      have hw4s : w.heap.size < w4.heap.size := blk_lt hres4
      have hb5' : Below w.heap.size w w5 := hb4'.grown hg5 hb4'.size (fun k hk => by injection hk with hk; omega)
      have hres5 := (hg5.block _ hw4s (by intro e; injection e with e; omega)).trans hres4
      clear hr4 hg5 hb4' hres4
      go_wp2_with fail
      go_fit (rU_any lo g [x4, x5] false 2 w5 hr5)
      rintro e w6 ⟨rfl, hr6, hg6⟩
      rw [show num (rdB (nU 2) [x4, x5] false) = N by rw [HN.out]; show x4.toNat + 256 * (x5.toNat + 256 * 0) = _; omega]
      have hw5s : w.heap.size < w5.heap.size := blk_lt hres5
      have hb6' : Below w.heap.size w w6 := hb5'.grown hg6 hb5'.size (fun k hk => by injection hk with hk; omega)
      have hres := (hg6.block _ hw5s (by intro e; injection e with e; omega)).trans hres5
      clear hr5 hg6 hb5' hres5 hr6 hw3s hw4s hw5s hlt2 hg3
      have hsz := frsize_any (N : Int) w6
      by_cases hN : 1016 < N
      · rw [show frSize (N : Int) = 0 by unfold frSize frFits; rw [decide_eq_false (by omega)]; rfl] at hsz
        obtain rfl : T = ⟨0, 0, [], 0, 7⟩ := by rw [HT.out, if_pos hN]
        go_wp2_with fail
        go_fit hsz
        rintro e w7 ⟨rfl, rfl⟩
        obtain ⟨s1, s2, s3, s4, s5, s6, he, hs⟩ := st3 hres (.int .i64 0) (.int .i64 0) (.slice none 0 0)
        have e0 := blk_cell (i := 0) (v := .int .i64 0) he rfl
        have e1 := blk_cell (i := 1) (v := .int .i64 0) he rfl
        have e2 := blk_cell (i := 2) (v := .slice none 0 0) he rfl
        go_wp2
        refine bodyPost_ret (v := .tuple #[.agg #[.int .i64 0, .int .i64 0, .slice none 0 0], .int .i64 0, .int .i64 7]) (by simp [results, go_sem, e0, e1, e2]) rfl ⟨none, 0, 0, rfl, Rd.none_ _ _ _, st3_below (hb6') (Nat.le_refl _) _ _ _⟩
      · obtain ⟨S, hS⟩ : ∃ S, S = N + 8 := ⟨_, rfl⟩
        rw [show frSize (N : Int) = (S : Int) by unfold frSize frFits; rw [decide_eq_true (by omega), hS]; rfl] at hsz
        have hS2 : N + 8 ≤ S := by omega
        have hS3 : S ≤ N + 8 := by omega
        have HS := Lib.hid hS
        clear hS
        by_cases hnS : n < S
        · obtain rfl : T = ⟨0, 0, [], 0, 2⟩ := by rw [HT.out, if_neg hN, if_pos (by omega)]
          go_wp2_with fail
          go_fit hsz
          rintro e w7 ⟨rfl, rfl⟩
          obtain ⟨s1, s2, s3, s4, s5, s6, he, hs⟩ := st3 hres (.int .i64 0) (.int .i64 0) (.slice none 0 0)
          have e0 := blk_cell (i := 0) (v := .int .i64 0) he rfl
          have e1 := blk_cell (i := 1) (v := .int .i64 0) he rfl
          have e2 := blk_cell (i := 2) (v := .slice none 0 0) he rfl
          go_wp2
          refine bodyPost_ret (v := .tuple #[.agg #[.int .i64 0, .int .i64 0, .slice none 0 0], .int .i64 0, .int .i64 2]) (by simp [results, go_sem, e0, e1, e2]) rfl ⟨none, 0, 0, rfl, Rd.none_ _ _ _, st3_below (hb6') (Nat.le_refl _) _ _ _⟩
        · have hT2 := HT.out
          rw [if_neg hN, if_neg (by omega), ← HS.out] at hT2
          have hrunS := HrunS.out S (by omega) (by omega)
          have hop := flOpen_any (cutA A c 2 1) (S - 2) (c - 2) B _ w6 ((HcutS.out S (by omega) (by omega)).up (hb6'.mono hB)) (Nat.le_trans hB hb6'.size) (by omega)
          have hol : ∀ body, openF ((bb.take S).drop 2) = some body → body.length = S - 4 := fun body hb => by
            have := openF_len hb
            rw [List.length_drop, List.length_take, Hll.out] at this
            omega
          have hltw : w.heap.size < w6.heap.size := blk_lt hres
          cases ho : openF ((bb.take S).drop 2) with
          | none =>
            rw [ho] at hop hT2
            obtain rfl : T = ⟨0, 0, [], 0, 4⟩ := hT2
            clear ho hol
            go_wp2_with fail
            go_fit hsz
            rintro e w7 ⟨rfl, rfl⟩
            go_wp2_with fail
            go_fit hop
            rintro e w7 ⟨rfl, hb7⟩
            replace hres := blk_old hres hb7 hltw
            obtain ⟨s1, s2, s3, s4, s5, s6, he, hs⟩ := st3 hres (.int .i64 0) (.int .i64 0) (.slice none 0 0)
            have e0 := blk_cell (i := 0) (v := .int .i64 0) he rfl
            have e1 := blk_cell (i := 1) (v := .int .i64 0) he rfl
            have e2 := blk_cell (i := 2) (v := .slice none 0 0) he rfl
            go_wp2
            refine bodyPost_ret (v := .tuple #[.agg #[.int .i64 0, .int .i64 0, .slice none 0 0], .int .i64 0, .int .i64 4]) (by simp [results, go_sem, e0, e1, e2]) rfl ⟨none, 0, 0, rfl, Rd.none_ _ _ _, st3_below (bnx hb6' hb7) (Nat.le_refl _) _ _ _⟩
          | some body =>
            have hbl := hol body ho
            rw [ho] at hop hT2
            obtain rfl : T = ⟨x2.toNat, x3.toNat, body.drop 4, S, 0⟩ := hT2
            clear ho hol
            go_wp2_with fail
            go_fit hsz
            rintro e w7 ⟨rfl, rfl⟩
            go_wp2_with fail
            go_fit hop
            rintro e w7 ⟨A7, c7, n7, rfl, hown7, hb7⟩
            have hn7 := own_len hown7
            have hrun4 := Hrun4.out A7 n7 c7 (by omega)
            replace hres := blk_old hres hb7 hltw
            have hb7' := bnx hb6' hb7
            have hlt7 : w.heap.size < w7.heap.size := blk_lt hres
            obtain ⟨s1, s2, s3, s4, s5, s6, he, hs⟩ := st3 hres (.int .i64 (x2.toNat : Int)) (.int .i64 (x3.toNat : Int)) (.slice (cutA A7 c7 4 1) (n7 - 4) (c7 - 4))
            have e0 := blk_cell (i := 0) (v := .int .i64 (x2.toNat : Int)) he rfl
            have e1 := blk_cell (i := 1) (v := .int .i64 (x3.toNat : Int)) he rfl
            have e2 := blk_cell (i := 2) (v := .slice (cutA A7 c7 4 1) (n7 - 4) (c7 - 4)) he rfl
            go_wp2
            refine bodyPost_ret (v := .tuple #[.agg #[.int .i64 (x2.toNat : Int), .int .i64 (x3.toNat : Int), .slice (cutA A7 c7 4 1) (n7 - 4) (c7 - 4)], .int .i64 (S : Int), .int .i64 0]) (by simp [results, go_sem, e0, e1, e2]) rfl ⟨_, _, _, rfl, ?_, st3_below hb7' (Nat.le_refl _) _ _ _⟩
            have hown8 := own_set (own_set (own_set hown7 (show w.heap.size < w6.heap.size from hltw) (i := 0) (.int .i64 (x2.toNat : Int))) hltw (i := 1) (.int .i64 (x3.toNat : Int))) hltw (i := 2) (.slice (cutA A7 c7 4 1) (n7 - 4) (c7 - 4))
            exact (Rd.own hown8).bdrop (by omega)

end Go.Proofs.YtmkidihcdljkiaaGreat

/-
  Plain laws of frames: steady; there and back.
-/
set_option linter.unusedSimpArgs false
set_option linter.unusedVariables false
namespace Go.Proofs.YtmkidihcdljkiaaGreat
open Go.RowKit NumLaw

theorem frBeg_two {x y : UInt8} {l : List UInt8} : frBeg (x :: y :: l) = (decide (x = 181) && decide (y = 98)) := by
  unfold frBeg
  by_cases h1 : x = 181 <;> by_cases h2 : y = 98 <;> simp [h1, h2]
/-- What six bytes and more tell. -/
theorem frTake_six {x0 x1 x2 x3 x4 x5 : UInt8} {rest : List UInt8} (h0 : x0 = 181) (h1 : x1 = 98) : frTake (x0 :: x1 :: x2 :: x3 :: x4 :: x5 :: rest) =
    if 1016 < x4.toNat + 256 * x5.toNat then ⟨0, 0, [], 0, 7⟩ else if rest.length + 6 < x4.toNat + 256 * x5.toNat + 8 then ⟨0, 0, [], 0, 2⟩ else
    match openF (x2 :: x3 :: x4 :: x5 :: rest.take (x4.toNat + 256 * x5.toNat + 2)) with
    | none => ⟨0, 0, [], 0, 4⟩
    | some body => ⟨x2.toNat, x3.toNat, body.drop 4, x4.toNat + 256 * x5.toNat + 8, 0⟩ := by
  unfold frTake
  rw [if_neg (by rw [frBeg_two]; simp [h0, h1])]
  simp only [List.length_cons]
  rfl
theorem frTake_short {b : List UInt8} (h : b.length < 6) (hb : frBeg b = true) : frTake b = ⟨0, 0, [], 0, 2⟩ := by
  unfold frTake; rw [if_neg (by rw [hb]; simp)]
  match b, h with
  | [], _ => rfl
  | [_], _ => rfl
  | [_, _], _ => rfl
  | [_, _, _], _ => rfl
  | [_, _, _, _], _ => rfl
  | [_, _, _, _, _], _ => rfl
  | _ :: _ :: _ :: _ :: _ :: _ :: _, h => simp at h; omega
theorem openF_seal (l : List UInt8) : openF (sealF l) = some l := by
  unfold openF
  rw [if_neg (by rw [sealF_len]; omega), sealF_len, show l.length + 2 - 2 = l.length by omega]
  have : (sealF l).take l.length = l := by unfold sealF; simp
  rw [this, if_pos rfl]
theorem openF_some {l b : List UInt8} (h : openF l = some b) : sealF b = l := by
  unfold openF at h
  split at h
  · cases h
  · split at h
    · rename_i h2; injection h with h; rw [← h]; exact h2
    · cases h
theorem bytesN_two (n : Nat) : bytesN 2 n = [UInt8.ofNat (n % 256), UInt8.ofNat (n / 256 % 256)] := rfl
theorem ofNat_toNat (x : UInt8) : UInt8.ofNat (x.toNat % 256) = x := by
  apply UInt8.toNat_inj.1
  rw [UInt8.toNat_ofNat']
  have := x.toNat_lt
  omega
/-- P1504, there. -/
theorem frTake_put (c i : Int) (p more : List UInt8) (h : putE c i p.length = 0) : frTake (putB c i p ++ more) = ⟨c.toNat, i.toNat, p, (putB c i p).length, 0⟩ := by
  have hp : putB c i p = frB c i p := by unfold putB; rw [if_pos h]
  have hn : p.length ≤ 1016 := by
    unfold putE at h
    split at h
    · cases h
    · split at h
      · cases h
      · omega
  have hci : noB c = false ∧ noB i = false := by
    unfold putE at h
    split at h
    · cases h
    · rename_i ha; unfold anyNo at ha; simpa using ha
  obtain ⟨c, rfl, hc⟩ := noB_not hci.1
  obtain ⟨i, rfl, hi⟩ := noB_not hci.2
  rw [hp, frB_len]
  simp only [Int.toNat_natCast]
  obtain ⟨n, hn'⟩ : ∃ n, n = p.length := ⟨_, rfl⟩
  have e : frB (c : Int) (i : Int) p = 181 :: 98 :: UInt8.ofNat (c % 256) :: UInt8.ofNat (i % 256) :: UInt8.ofNat (n % 256) :: UInt8.ofNat (n / 256 % 256) :: (p ++ flB (frBody c i p)) := by
    unfold frB sealF
    rw [hn']
    rfl
  rw [e]
  simp only [List.cons_append]
  rw [frTake_six rfl rfl]
  have t1 : (UInt8.ofNat (n % 256)).toNat + 256 * (UInt8.ofNat (n / 256 % 256)).toNat = n := by
    rw [UInt8.toNat_ofNat', UInt8.toNat_ofNat']
    omega
  rw [t1, if_neg (by omega), if_neg (by simp [flB]; omega)]
  have t2 : (p ++ flB (frBody c i p) ++ more).take (n + 2) = p ++ flB (frBody c i p) := by
    rw [List.take_append_of_le_length (by simp [flB]; omega), List.take_of_length_le (by simp [flB]; omega)]
  rw [t2]
  have t3 : UInt8.ofNat (c % 256) :: UInt8.ofNat (i % 256) :: UInt8.ofNat (n % 256) :: UInt8.ofNat (n / 256 % 256) :: (p ++ flB (frBody c i p)) = sealF (frBody c i p) := by
    unfold sealF
    rw [hn']
    rfl
  rw [t3, openF_seal]
  have t4 : (UInt8.ofNat (c % 256)).toNat = c := by rw [UInt8.toNat_ofNat']; omega
  have t5 : (UInt8.ofNat (i % 256)).toNat = i := by rw [UInt8.toNat_ofNat']; omega
  have t6 : (frBody c i p).drop 4 = p := rfl
  simp only [t4, t5, t6, ← hn']
/-- P1504, back. -/
theorem frTake_back (more : List UInt8) (h : (frTake more).err = 0) :
    putE ((frTake more).c : Int) ((frTake more).i : Int) (frTake more).p.length = 0 ∧ (frTake more).size ≤ more.length ∧ 8 ≤ (frTake more).size ∧ putB ((frTake more).c : Int) ((frTake more).i : Int) (frTake more).p = more.take (frTake more).size := by
  cases hb : frBeg more with
  | false =>
    have e1 : frTake more = ⟨0, 0, [], 0, 3⟩ := by unfold frTake; rw [if_pos hb]
    rw [e1] at h; cases h
  | true =>
    by_cases h6 : more.length < 6
    · rw [frTake_short h6 hb] at h; cases h
    · match more, h6 with
      | x0 :: x1 :: x2 :: x3 :: x4 :: x5 :: rest, _ =>
        rw [frBeg_two] at hb
        simp only [Bool.and_eq_true, decide_eq_true_eq] at hb
        obtain ⟨rfl, rfl⟩ := hb
        rw [frTake_six rfl rfl] at h ⊢
        have l2 := x2.toNat_lt
        have l3 := x3.toNat_lt
        have l4 := x4.toNat_lt
        have l5 := x5.toNat_lt
        obtain ⟨N, hN⟩ : ∃ N, N = x4.toNat + 256 * x5.toNat := ⟨_, rfl⟩
        rw [← hN] at h ⊢
        by_cases h1 : 1016 < N
        · rw [if_pos h1] at h; cases h
        · rw [if_neg h1] at h ⊢
          by_cases h2 : rest.length + 6 < N + 8
          · rw [if_pos h2] at h; cases h
          · rw [if_neg h2] at h ⊢
            cases ho : openF (x2 :: x3 :: x4 :: x5 :: rest.take (N + 2)) with
            | none => rw [ho] at h; cases h
            | some body =>
              have hs := openF_some ho
              have hl := openF_len ho
              simp only [List.length_cons, List.length_take] at hl
              have hbl : body.length = N + 4 := by omega
              match body, hbl with
              | y2 :: y3 :: y4 :: y5 :: p, hbl =>
                have hpl : p.length = N := by simpa using hbl
                unfold sealF at hs
                simp only [List.cons_append, List.cons.injEq] at hs
                obtain ⟨rfl, rfl, rfl, rfl, hs⟩ := hs
                have hE : putE (y2.toNat : Int) (y3.toNat : Int) p.length = 0 := by
                  unfold putE
                  rw [if_neg (by unfold anyNo noB; simp; omega), if_neg (by omega)]
                refine ⟨hE, by simp; omega, by simp, ?_⟩
                show putB (y2.toNat : Int) (y3.toNat : Int) p = _
                unfold putB
                rw [if_pos hE]
                have hbody : frBody y2.toNat y3.toNat p = y2 :: y3 :: y4 :: y5 :: p := by
                  have e1 : bytesN 1 y2.toNat = [y2] := by show [UInt8.ofNat (y2.toNat % 256)] = _; rw [ofNat_toNat]
                  have e2 : bytesN 1 y3.toNat = [y3] := by show [UInt8.ofNat (y3.toNat % 256)] = _; rw [ofNat_toNat]
                  have e3 : bytesN 2 p.length = [y4, y5] := by
                    rw [hpl, hN, bytesN_two]
                    have a1 : (y4.toNat + 256 * y5.toNat) % 256 = y4.toNat % 256 := by omega
                    have a2 : (y4.toNat + 256 * y5.toNat) / 256 % 256 = y5.toNat % 256 := by omega
                    rw [a1, a2, ofNat_toNat, ofNat_toNat]
                  unfold frBody
                  rw [e1, e2, e3]
                  rfl
                unfold frB sealF
                simp only [Int.toNat_natCast]
                rw [hbody]
                simp only [List.cons_append, List.nil_append, hs]
                rfl
              | [], hbl => simp at hbl
              | [_], hbl => simp at hbl
              | [_, _], hbl => simp at hbl
              | [_, _, _], hbl => simp at hbl
      | [], h6 => simp at h6
      | [_], h6 => simp at h6
      | [_, _], h6 => simp at h6
      | [_, _, _], h6 => simp at h6
      | [_, _, _, _], h6 => simp at h6
      | [_, _, _, _, _], h6 => simp at h6
theorem frTake_none (b : List UInt8) (h : (frTake b).err ≠ 0) : (frTake b).c = 0 ∧ (frTake b).i = 0 ∧ (frTake b).p = [] ∧ (frTake b).size = 0 := by
  unfold frTake at h ⊢
  split
  · exact ⟨rfl, rfl, rfl, rfl⟩
  · rename_i hb
    rw [if_neg hb] at h
    split
    · split
      · exact ⟨rfl, rfl, rfl, rfl⟩
      · rename_i h1
        split
        · exact ⟨rfl, rfl, rfl, rfl⟩
        · rename_i h2
          split
          · exact ⟨rfl, rfl, rfl, rfl⟩
          · rename_i h3
            simp only [if_neg h1, if_neg h2, h3] at h
            exact absurd rfl h
    · exact ⟨rfl, rfl, rfl, rfl⟩

end Go.Proofs.YtmkidihcdljkiaaGreat
