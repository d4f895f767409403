/-
  fletch: both sums of bytes, and their seal, walked: the program's and the document's.
-/
import Derived.Test.YtglfhdkknhdphaaOctWr2
set_option linter.unusedSimpArgs false
set_option linter.unusedVariables false
namespace Go.Proofs.Ytglfhdkknhdphaa
open Go.RowKit NumLaw

def flS (s : Nat × Nat) (x : UInt8) : Nat × Nat := ((s.1 + x.toNat) % 256, (s.2 + (s.1 + x.toNat) % 256) % 256)
def flN (s : Nat × Nat) (l : List UInt8) : Nat × Nat := l.foldl flS s
theorem flN_snoc (s : Nat × Nat) (l : List UInt8) (x : UInt8) : flN s (l ++ [x]) = flS (flN s l) x := by unfold flN; rw [List.foldl_append]; rfl
theorem flN_lt (s : Nat × Nat) (l : List UInt8) (h : s.1 < 256 ∧ s.2 < 256) : (flN s l).1 < 256 ∧ (flN s l).2 < 256 := by
  unfold flN
  induction l generalizing s with
  | nil => exact h
  | cons x l ih => exact ih _ ⟨Nat.mod_lt _ (by omega), Nat.mod_lt _ (by omega)⟩
theorem u8_wrap (n : Nat) : IntKind.u8.wrap (n : Int) = ((n % 256 : Nat) : Int) := by
  simp [IntKind.wrap, IntKind.bits, IntKind.signed]
theorem u8_add (a b : Nat) : IntKind.u8.wrap ((a : Int) + (b : Int)) = (((a + b) % 256 : Nat) : Int) := by
  rw [← u8_wrap]; congr 1
/-- Both sums of a row, as bytes. -/
def flB (l : List UInt8) : List UInt8 := [UInt8.ofNat (flN (0, 0) l).1, UInt8.ofNat (flN (0, 0) l).2]
def sealF (l : List UInt8) : List UInt8 := l ++ flB l
theorem sealF_len (l : List UInt8) : (sealF l).length = l.length + 2 := by simp [sealF, flB]

def SumsAt (w : World) (g a b : Nat) : Prop := w.heap[g]? = some (.cells #[.int .u8 (a : Int), .int .u8 (b : Int)] 155)
set_option maxRecDepth 10000 in
set_option maxHeartbeats 400000 in
theorem fladd_any (g a b : Nat) (x : UInt8) (w : World) (h : SumsAt w g a b) :
    Calls Try.prog 126 #[.pointer (some ⟨g, 0, none⟩), .int .u8 (x.toNat : Int)] w fun e w' => e = .returned (.tuple #[]) ∧ SumsAt w' g (flS (a, b) x).1 (flS (a, b) x).2 ∧ Aw (fun k => k = g) w w' := by
  have e1 := u8_add a x.toNat
  have e2 := u8_add b ((a + x.toNat) % 256)
  have E : flS (a, b) x = ((a + x.toNat) % 256, (b + (a + x.toNat) % 256) % 256) := rfl
  rw [E]
  clear E
  generalize (b + (a + x.toNat) % 256) % 256 = b1 at *
  generalize (a + x.toNat) % 256 = a1 at *
  have c0 : w.cell? ⟨g, 0, none⟩ = some (.int .u8 (a : Int)) := blk_cell h rfl
  have f0 := blk_free (i := 0) h
  have h1 := blk_set (i := 0) h (.int .u8 (a1 : Int))
  go_enter Try.func126, Try.ntmps126
  go_wp2_with fail
  have hA : Aw (fun k => k = g) w (w.setCell ⟨g, 0, none⟩ (.int .u8 (a1 : Int))).drew := (((Aw.refl (fun k => k = g) w).set (p := ⟨g, 0, none⟩) _ rfl)).drew
  replace h1 : (w.setCell ⟨g, 0, none⟩ (.int .u8 (a1 : Int))).drew.heap[g]? = _ := h1
  refine Ord.region_ (fun _ => True) true [15, 19] (by kernel_rfl) (by kernel_rfl) trivial ?_
  generalize (w.setCell ⟨g, 0, none⟩ (.int .u8 (a1 : Int))).drew = w1 at *
  clear c0 f0 h
  have c0 : w1.cell? ⟨g, 0, none⟩ = some (.int .u8 (a1 : Int)) := blk_cell h1 rfl
  have c1 : w1.cell? ⟨g, 1, none⟩ = some (.int .u8 (b : Int)) := blk_cell h1 rfl
  have f1 := blk_free (i := 1) h1
  have h2 := blk_set (i := 1) h1 (.int .u8 (b1 : Int))
  repeat (first | (refine Ord.e_p (v := ?_) rfl (by rfl) ?_ ?_; rotate_left; · (intro w2; go_simp; try with_reducible rfl)) | (refine Ord.e_u (by rfl) ?_)); (try simp only [Act.put, List.setIfInBounds_toArray, List.set_cons_zero, List.set_cons_succ])
  refine Ord.e_load Try.underlying5 rfl c1 rfl (by rfl) (by rfl) ?_
  (try simp only [Act.put, List.setIfInBounds_toArray, List.set_cons_zero, List.set_cons_succ])
  repeat (first | (refine Ord.e_p (v := ?_) rfl (by rfl) ?_ ?_; rotate_left; · (intro w2; go_simp; try with_reducible rfl)) | (refine Ord.e_u (by rfl) ?_)); (try simp only [Act.put, List.setIfInBounds_toArray, List.set_cons_zero, List.set_cons_succ])
  refine Ord.e_load Try.underlying5 rfl c0 rfl (by rfl) (by rfl) ?_
  (try simp only [Act.put, List.setIfInBounds_toArray, List.set_cons_zero, List.set_cons_succ])
  repeat (first | (refine Ord.e_p (v := ?_) rfl (by rfl) ?_ ?_; rotate_left; · (intro w2; go_simp; try with_reducible rfl)) | (refine Ord.e_u (by rfl) ?_)); (try simp only [Act.put, List.setIfInBounds_toArray, List.set_cons_zero, List.set_cons_succ])
  refine Ord.e_x rfl (by rfl) ?_
  go_wp2
  refine Ord.Seg.go trivial (fun h => by cases h) ?_
  (try simp only [Act.put, List.setIfInBounds_toArray, List.set_cons_zero, List.set_cons_succ])
  refine Ord.e_nil ?_
  go_wp2
  ((try simp only [Exit.inBlock, Exit.then]); refine bodyPost_end (results_none rfl _ _ _) rfl ?_)
  exact ⟨rfl, h2, hA.set (p := ⟨g, 1, none⟩) _ rfl⟩

set_option maxRecDepth 10000 in
set_option maxHeartbeats 1000000 in
theorem flMore_any (a b : Nat) (A : Option Addr) (n c B : Nat) (l : List UInt8) (w : World) (h : Rd w B 1 A n c (bv l)) (hB : B ≤ w.heap.size) (hn : n ≤ 70368744177664) :
    Calls Try.prog 124 #[.int .u8 (a : Int), .int .u8 (b : Int), .slice A n c] w fun e w' => e = .returned (.tuple #[.int .u8 ((flN (a, b) l).1 : Int), .int .u8 ((flN (a, b) l).2 : Int)]) ∧ Below w.heap.size w w' := by
  have Hl := Lib.hid h.blen
  have hlen := h.le
  have hmx := h.max
  unfold maxLen at hmx
  obtain ⟨a3, ea⟩ : ∃ a3, a3 = (flN (a, b) l).1 := ⟨_, rfl⟩
  obtain ⟨b3, eb⟩ : ∃ b3, b3 = (flN (a, b) l).2 := ⟨_, rfl⟩
  rw [← ea, ← eb]
  have Ea := Lib.hid ea
  have Eb := Lib.hid eb
  clear ea eb
  go_enter Try.func124, Try.ntmps124
  go_wp2
  have hs : SumsAt (w.alloc (.cells #[.int .u8 (a : Int), .int .u8 (b : Int)] 155)) w.heap.size a b := heap_alloc_new w _
  have hb : Below w.heap.size w (w.alloc (.cells #[.int .u8 (a : Int), .int .u8 (b : Int)] 155)) := (Below.refl _ _).alloc (Nat.le_refl _) _
  generalize (w.alloc (.cells #[.int .u8 (a : Int), .int .u8 (b : Int)] 155)) = w1 at *
  go_loopw [16] (fun i wr => ∃ (k : Nat), k ≤ n ∧ i = .int .i64 k ∧ SumsAt wr w.heap.size (flN (a, b) (l.take k)).1 (flN (a, b) (l.take k)).2 ∧ Below w.heap.size w wr) (fun i _ => n - (intOf i).toNat)
  case atStart => exact ⟨0, by omega, rfl, hs, hb⟩
  case round =>
    clear hs hb w1
    obtain ⟨k, hk, rfl, hs, hb⟩ := hrel
    by_cases hlt : k < n
    · obtain ⟨ad, x, rfl, hx, hcell⟩ := (h.up (hb.mono hB)).byte hlt
      have Hx := Lib.hid (flN_snoc (a, b) (l.take k) x)
      rw [← take_succ hx] at Hx
      go_wp2_with fail
      go_fit (fladd_any w.heap.size _ _ x _ hs)
      rintro e w2 ⟨rfl, hs2, ha2⟩
      rw [show ((flN (a, b) (l.take k)).1, (flN (a, b) (l.take k)).2) = flN (a, b) (l.take k) from rfl, ← Hx.out] at hs2
      have hb2 : Below w.heap.size w w2 := ⟨ha2.os.trans hb.os, ha2.tape.trans hb.tape, ha2.output.trans hb.output, Nat.le_trans hb.size ha2.size, fun j hj => (ha2.block j (Nat.lt_of_lt_of_le hj hb.size) (by omega)).trans (hb.block j hj)⟩
      clear Hx hs
      go_wp2
      go_roundw
      case rel => exact ⟨k + 1, by omega, by go_num, hs2, hb2⟩
      case measure => simp [intOf]; omega
    · obtain rfl : k = n := by omega
      have ht : l.take k = l := List.take_of_length_le (by rw [Hl.out]; omega)
      rw [ht, ← Ea.out, ← Eb.out] at hs
      go_wp2_with fail
      refine Ord.region_ (fun _ => True) true [24, 26] (by kernel_rfl) (by kernel_rfl) trivial ?_
      replace hs : SumsAt wr.drew w.heap.size a3 b3 := hs
      replace hb := hb.drew
      generalize wr.drew = w3 at *
      have c0 : w3.cell? ⟨w.heap.size, 0, none⟩ = some (.int .u8 (a3 : Int)) := blk_cell hs rfl
      have c1 : w3.cell? ⟨w.heap.size, 1, none⟩ = some (.int .u8 (b3 : Int)) := blk_cell hs rfl
      repeat (first | (refine Ord.e_p (v := ?_) rfl (by rfl) ?_ ?_; rotate_left; · (intro w2; go_simp; try with_reducible rfl)) | (refine Ord.e_u (by rfl) ?_)); (try simp only [Act.put, List.setIfInBounds_toArray, List.set_cons_zero, List.set_cons_succ])
      refine Ord.e_load Try.underlying5 rfl c0 rfl (by rfl) (by rfl) ?_
      (try simp only [Act.put, List.setIfInBounds_toArray, List.set_cons_zero, List.set_cons_succ])
      repeat (first | (refine Ord.e_p (v := ?_) rfl (by rfl) ?_ ?_; rotate_left; · (intro w2; go_simp; try with_reducible rfl)) | (refine Ord.e_u (by rfl) ?_)); (try simp only [Act.put, List.setIfInBounds_toArray, List.set_cons_zero, List.set_cons_succ])
      refine Ord.e_load Try.underlying5 rfl c1 rfl (by rfl) (by rfl) ?_
      (try simp only [Act.put, List.setIfInBounds_toArray, List.set_cons_zero, List.set_cons_succ])
      repeat (first | (refine Ord.e_p (v := ?_) rfl (by rfl) ?_ ?_; rotate_left; · (intro w2; go_simp; try with_reducible rfl)) | (refine Ord.e_u (by rfl) ?_)); (try simp only [Act.put, List.setIfInBounds_toArray, List.set_cons_zero, List.set_cons_succ])
      refine Ord.e_nil ?_
      go_wp2
      go_ret2
      exact ⟨rfl, hb⟩
theorem flOf_any (A : Option Addr) (n c B : Nat) (l : List UInt8) (w : World) (h : Rd w B 1 A n c (bv l)) (hB : B ≤ w.heap.size) (hn : n ≤ 70368744177664) :
    Calls Try.prog 118 #[.slice A n c] w fun e w' => e = .returned (.tuple #[.int .u8 ((flN (0, 0) l).1 : Int), .int .u8 ((flN (0, 0) l).2 : Int)]) ∧ Below w.heap.size w w' := by
  have hc := flMore_any 0 0 A n c B l w h hB hn
  generalize (flN (0, 0) l).1 = a2 at *
  generalize (flN (0, 0) l).2 = b2 at *
  go_enter Try.func118, Try.ntmps118
  go_wp2_with fail
  go_fit hc
  rintro e w1 ⟨rfl, hb⟩
  go_wp2
  go_ret2
  exact ⟨rfl, hb⟩

/- the document's -/
set_option maxHeartbeats 400000 in
theorem flqMore_any (a b : Nat) (A : Option Addr) (n c B : Nat) (l : List UInt8) (w : World) (h : Rd w B 1 A n c (bv l)) :
    Calls Try.prog 125 #[.int .u8 (a : Int), .int .u8 (b : Int), .slice A n c] w fun e w' => e = .returned (.tuple #[.int .u8 ((flN (a, b) l).1 : Int), .int .u8 ((flN (a, b) l).2 : Int)]) ∧ w = w' := by
  have Hl := Lib.hid h.blen
  have hlen := h.le
  have hmx := h.max
  unfold maxLen at hmx
  obtain ⟨a3, ea⟩ : ∃ a3, a3 = (flN (a, b) l).1 := ⟨_, rfl⟩
  obtain ⟨b3, eb⟩ : ∃ b3, b3 = (flN (a, b) l).2 := ⟨_, rfl⟩
  rw [← ea, ← eb]
  have Ea := Lib.hid ea
  have Eb := Lib.hid eb
  clear ea eb
  go_enter Try.func125, Try.ntmps125
  go_wp2
  go_loop [0, 1, 8] (fun u v i => ∃ k : Nat, k ≤ n ∧ i = .int .i64 k ∧ u = .int .u8 ((flN (a, b) (l.take k)).1 : Int) ∧ v = .int .u8 ((flN (a, b) (l.take k)).2 : Int)) (fun _ _ i => n - (intOf i).toNat)
  case atStart => exact ⟨0, by omega, rfl, rfl, rfl⟩
  case round =>
    obtain ⟨k, hk, rfl, rfl, rfl⟩ := hrel
    by_cases hlt : k < n
    · obtain ⟨ad, x, rfl, hx, hcell⟩ := h.byte hlt
      have Hx := Lib.hid (flN_snoc (a, b) (l.take k) x)
      rw [← take_succ hx] at Hx
      obtain ⟨s, hs⟩ : ∃ s, s = flN (a, b) (l.take k) := ⟨_, rfl⟩
      rw [← hs] at Hx
      rw [← hs]
      clear hs
      have e1 := u8_add s.1 x.toNat
      have e2 := u8_add s.2 ((s.1 + x.toNat) % 256)
      have Hx' : Hid (flN (a, b) (l.take (k + 1)) = ((s.1 + x.toNat) % 256, (s.2 + (s.1 + x.toNat) % 256) % 256)) := Hx
      clear Hx
      generalize s.2 = s2 at *
      generalize s.1 = s1 at *
      generalize (s2 + (s1 + x.toNat) % 256) % 256 = b1 at *
      generalize (s1 + x.toNat) % 256 = a1 at *
      go_wp2
      go_round
      case rel => exact ⟨k + 1, by omega, by go_num, by rw [Hx'.out], by rw [Hx'.out]⟩
      case measure => simp [intOf]; omega
    · obtain rfl : k = n := by omega
      have ht : l.take k = l := List.take_of_length_le (by rw [Hl.out]; omega)
      rw [ht, ← Ea.out, ← Eb.out]
      go_wp2
      go_ret2
      exact ⟨rfl, rfl⟩
theorem flqOf_any (A : Option Addr) (n c B : Nat) (l : List UInt8) (w : World) (h : Rd w B 1 A n c (bv l)) :
    Calls Try.prog 119 #[.slice A n c] w fun e w' => e = .returned (.tuple #[.int .u8 ((flN (0, 0) l).1 : Int), .int .u8 ((flN (0, 0) l).2 : Int)]) ∧ w = w' := by
  have hc := flqMore_any 0 0 A n c B l w h
  generalize (flN (0, 0) l).1 = a2 at *
  generalize (flN (0, 0) l).2 = b2 at *
  go_enter Try.func119, Try.ntmps119
  go_wp2_with fail
  go_fit hc
  rintro e w1 ⟨rfl, rfl⟩
  go_wp2
  go_ret2
  exact ⟨rfl, rfl⟩

end Go.Proofs.Ytglfhdkknhdphaa
