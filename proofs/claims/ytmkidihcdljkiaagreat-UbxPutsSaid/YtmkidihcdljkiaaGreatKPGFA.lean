/-
  Several texts in one: Flet Flet2.
-/
import Derived.Test.YtmkidihcdljkiaaGreatKPGA
import Derived.Laws.CopyOwn
import Derived.Deep.OwnRows
import Derived.Laws.StructEq
/-
  fletch: both sums of bytes, and their seal, walked: the program's and the document's.
-/
set_option linter.unusedSimpArgs false
set_option linter.unusedVariables false
namespace Go.Proofs.YtmkidihcdljkiaaGreat
open Go.RowKit NumLaw

def flS (s : Nat × Nat) (x : UInt8) : Nat × Nat := ((s.1 + x.toNat) % 256, (s.2 + (s.1 + x.toNat) % 256) % 256)
def flN (s : Nat × Nat) (l : List UInt8) : Nat × Nat := l.foldl flS s
theorem flN_snoc (s : Nat × Nat) (l : List UInt8) (x : UInt8) : flN s (l ++ [x]) = flS (flN s l) x := by unfold flN; rw [List.foldl_append]; rfl
theorem flN_lt (s : Nat × Nat) (l : List UInt8) (h : s.1 < 256 ∧ s.2 < 256) : (flN s l).1 < 256 ∧ (flN s l).2 < 256 := by
  unfold flN
  induction l generalizing s with
  | nil => exact h
  | cons x l ih => exact ih _ ⟨Nat.mod_lt _ (by omega), Nat.mod_lt _ (by omega)⟩
theorem u8_wrap (n : Nat) : IntKind.u8.wrap (n : Int) = ((n % 256 : Nat) : Int) := by
  simp [IntKind.wrap, IntKind.bits, IntKind.signed]
theorem u8_add (a b : Nat) : IntKind.u8.wrap ((a : Int) + (b : Int)) = (((a + b) % 256 : Nat) : Int) := by
  rw [← u8_wrap]; congr 1
/-- Both sums of a row, as bytes. -/
def flB (l : List UInt8) : List UInt8 := [UInt8.ofNat (flN (0, 0) l).1, UInt8.ofNat (flN (0, 0) l).2]
def sealF (l : List UInt8) : List UInt8 := l ++ flB l
theorem sealF_len (l : List UInt8) : (sealF l).length = l.length + 2 := by simp [sealF, flB]

def SumsAt (w : World) (g a b : Nat) : Prop := w.heap[g]? = some (.cells #[.int .u8 (a : Int), .int .u8 (b : Int)] 152)
set_option maxRecDepth 10000 in
set_option maxHeartbeats 400000 in
theorem fladd_any (g a b : Nat) (x : UInt8) (w : World) (h : SumsAt w g a b) :
    Calls Tryz.prog 91 #[.pointer (some ⟨g, 0, none⟩), .int .u8 (x.toNat : Int)] w fun e w' => e = .returned (.tuple #[]) ∧ SumsAt w' g (flS (a, b) x).1 (flS (a, b) x).2 ∧ Aw (fun k => k = g) w w' := by
  have e1 := u8_add a x.toNat
  have e2 := u8_add b ((a + x.toNat) % 256)
  have E : flS (a, b) x = ((a + x.toNat) % 256, (b + (a + x.toNat) % 256) % 256) := rfl
  rw [E]
  clear E
  generalize (b + (a + x.toNat) % 256) % 256 = b1 at *
  generalize (a + x.toNat) % 256 = a1 at *
  have c0 : w.cell? ⟨g, 0, none⟩ = some (.int .u8 (a : Int)) := blk_cell h rfl
  have f0 := blk_free (i := 0) h
  have h1 := blk_set (i := 0) h (.int .u8 (a1 : Int))
  go_enter Tryz.func91, Tryz.ntmps91
  go_wp2_with fail
  have hA : Aw (fun k => k = g) w (w.setCell ⟨g, 0, none⟩ (.int .u8 (a1 : Int))).drew := (((Aw.refl (fun k => k = g) w).set (p := ⟨g, 0, none⟩) _ rfl)).drew
  replace h1 : (w.setCell ⟨g, 0, none⟩ (.int .u8 (a1 : Int))).drew.heap[g]? = _ := h1
  refine Ord.region_ (fun _ => True) true [15, 19] (by kernel_rfl) (by kernel_rfl) trivial ?_
  generalize (w.setCell ⟨g, 0, none⟩ (.int .u8 (a1 : Int))).drew = w1 at *
  clear c0 f0 h
  have c0 : w1.cell? ⟨g, 0, none⟩ = some (.int .u8 (a1 : Int)) := blk_cell h1 rfl
  have c1 : w1.cell? ⟨g, 1, none⟩ = some (.int .u8 (b : Int)) := blk_cell h1 rfl
  have f1 := blk_free (i := 1) h1
  have h2 := blk_set (i := 1) h1 (.int .u8 (b1 : Int))
  repeat (first | (refine Ord.e_p (v := ?_) rfl (by rfl) ?_ ?_; rotate_left; · (intro w2; go_simp; try with_reducible rfl)) | (refine Ord.e_u (by rfl) ?_)); (try simp only [Act.put, List.setIfInBounds_toArray, List.set_cons_zero, List.set_cons_succ])
  refine Ord.e_load Tryz.underlying5 rfl c1 rfl (by rfl) (by rfl) ?_
  (try simp only [Act.put, List.setIfInBounds_toArray, List.set_cons_zero, List.set_cons_succ])
  repeat (first | (refine Ord.e_p (v := ?_) rfl (by rfl) ?_ ?_; rotate_left; · (intro w2; go_simp; try with_reducible rfl)) | (refine Ord.e_u (by rfl) ?_)); (try simp only [Act.put, List.setIfInBounds_toArray, List.set_cons_zero, List.set_cons_succ])
  refine Ord.e_load Tryz.underlying5 rfl c0 rfl (by rfl) (by rfl) ?_
  (try simp only [Act.put, List.setIfInBounds_toArray, List.set_cons_zero, List.set_cons_succ])
  repeat (first | (refine Ord.e_p (v := ?_) rfl (by rfl) ?_ ?_; rotate_left; · (intro w2; go_simp; try with_reducible rfl)) | (refine Ord.e_u (by rfl) ?_)); (try simp only [Act.put, List.setIfInBounds_toArray, List.set_cons_zero, List.set_cons_succ])
  refine Ord.e_x rfl (by rfl) ?_
  go_wp2
  refine Ord.Seg.go trivial (fun h => by cases h) ?_
  (try simp only [Act.put, List.setIfInBounds_toArray, List.set_cons_zero, List.set_cons_succ])
  refine Ord.e_nil ?_
  go_wp2
  ((try simp only [Exit.inBlock, Exit.then]); refine bodyPost_end (results_none rfl _ _ _) rfl ?_)
  exact ⟨rfl, h2, hA.set (p := ⟨g, 1, none⟩) _ rfl⟩

set_option maxRecDepth 10000 in
set_option maxHeartbeats 1000000 in
theorem flMore_any (a b : Nat) (A : Option Addr) (n c B : Nat) (l : List UInt8) (w : World) (h : Rd w B 1 A n c (bv l)) (hB : B ≤ w.heap.size) (hn : n ≤ 70368744177664) :
    Calls Tryz.prog 86 #[.int .u8 (a : Int), .int .u8 (b : Int), .slice A n c] w fun e w' => e = .returned (.tuple #[.int .u8 ((flN (a, b) l).1 : Int), .int .u8 ((flN (a, b) l).2 : Int)]) ∧ Below w.heap.size w w' := by
  have Hl := Lib.hid h.blen
  have hlen := h.le
  have hmx := h.max
  unfold maxLen at hmx
  obtain ⟨a3, ea⟩ : ∃ a3, a3 = (flN (a, b) l).1 := ⟨_, rfl⟩
  obtain ⟨b3, eb⟩ : ∃ b3, b3 = (flN (a, b) l).2 := ⟨_, rfl⟩
  rw [← ea, ← eb]
  have Ea := Lib.hid ea
  have Eb := Lib.hid eb
  clear ea eb
  go_enter Tryz.func86, Tryz.ntmps86
  go_wp2
  have hs : SumsAt (w.alloc (.cells #[.int .u8 (a : Int), .int .u8 (b : Int)] 152)) w.heap.size a b := heap_alloc_new w _
  have hb : Below w.heap.size w (w.alloc (.cells #[.int .u8 (a : Int), .int .u8 (b : Int)] 152)) := (Below.refl _ _).alloc (Nat.le_refl _) _
  generalize (w.alloc (.cells #[.int .u8 (a : Int), .int .u8 (b : Int)] 152)) = w1 at *
  go_loopw [16] (fun i wr => ∃ (k : Nat), k ≤ n ∧ i = .int .i64 k ∧ SumsAt wr w.heap.size (flN (a, b) (l.take k)).1 (flN (a, b) (l.take k)).2 ∧ Below w.heap.size w wr) (fun i _ => n - (intOf i).toNat)
  case atStart => exact ⟨0, by omega, rfl, hs, hb⟩
  case round =>
    clear hs hb w1
    obtain ⟨k, hk, rfl, hs, hb⟩ := hrel
    by_cases hlt : k < n
    · obtain ⟨ad, x, rfl, hx, hcell⟩ := (h.up (hb.mono hB)).byte hlt
      have Hx := Lib.hid (flN_snoc (a, b) (l.take k) x)
      rw [← take_succ hx] at Hx
      go_wp2_with fail
      go_fit (fladd_any w.heap.size _ _ x _ hs)
      rintro e w2 ⟨rfl, hs2, ha2⟩
      rw [show ((flN (a, b) (l.take k)).1, (flN (a, b) (l.take k)).2) = flN (a, b) (l.take k) from rfl, ← Hx.out] at hs2
      have hb2 : Below w.heap.size w w2 := ⟨ha2.os.trans hb.os, ha2.tape.trans hb.tape, ha2.output.trans hb.output, Nat.le_trans hb.size ha2.size, fun j hj => (ha2.block j (Nat.lt_of_lt_of_le hj hb.size) (by omega)).trans (hb.block j hj)⟩
      clear Hx hs
      go_wp2
      go_roundw
      case rel => exact ⟨k + 1, by omega, by go_num, hs2, hb2⟩
      case measure => simp [intOf]; omega
    · obtain rfl : k = n := by omega
      have ht : l.take k = l := List.take_of_length_le (by rw [Hl.out]; omega)
      rw [ht, ← Ea.out, ← Eb.out] at hs
      go_wp2_with fail
      refine Ord.region_ (fun _ => True) true [24, 26] (by kernel_rfl) (by kernel_rfl) trivial ?_
      replace hs : SumsAt wr.drew w.heap.size a3 b3 := hs
      replace hb := hb.drew
      generalize wr.drew = w3 at *
      have c0 : w3.cell? ⟨w.heap.size, 0, none⟩ = some (.int .u8 (a3 : Int)) := blk_cell hs rfl
      have c1 : w3.cell? ⟨w.heap.size, 1, none⟩ = some (.int .u8 (b3 : Int)) := blk_cell hs rfl
      repeat (first | (refine Ord.e_p (v := ?_) rfl (by rfl) ?_ ?_; rotate_left; · (intro w2; go_simp; try with_reducible rfl)) | (refine Ord.e_u (by rfl) ?_)); (try simp only [Act.put, List.setIfInBounds_toArray, List.set_cons_zero, List.set_cons_succ])
      refine Ord.e_load Tryz.underlying5 rfl c0 rfl (by rfl) (by rfl) ?_
      (try simp only [Act.put, List.setIfInBounds_toArray, List.set_cons_zero, List.set_cons_succ])
      repeat (first | (refine Ord.e_p (v := ?_) rfl (by rfl) ?_ ?_; rotate_left; · (intro w2; go_simp; try with_reducible rfl)) | (refine Ord.e_u (by rfl) ?_)); (try simp only [Act.put, List.setIfInBounds_toArray, List.set_cons_zero, List.set_cons_succ])
      refine Ord.e_load Tryz.underlying5 rfl c1 rfl (by rfl) (by rfl) ?_
      (try simp only [Act.put, List.setIfInBounds_toArray, List.set_cons_zero, List.set_cons_succ])
      repeat (first | (refine Ord.e_p (v := ?_) rfl (by rfl) ?_ ?_; rotate_left; · (intro w2; go_simp; try with_reducible rfl)) | (refine Ord.e_u (by rfl) ?_)); (try simp only [Act.put, List.setIfInBounds_toArray, List.set_cons_zero, List.set_cons_succ])
      refine Ord.e_nil ?_
      go_wp2
      go_ret2
      exact ⟨rfl, hb⟩
theorem flOf_any (A : Option Addr) (n c B : Nat) (l : List UInt8) (w : World) (h : Rd w B 1 A n c (bv l)) (hB : B ≤ w.heap.size) (hn : n ≤ 70368744177664) :
    Calls Tryz.prog 75 #[.slice A n c] w fun e w' => e = .returned (.tuple #[.int .u8 ((flN (0, 0) l).1 : Int), .int .u8 ((flN (0, 0) l).2 : Int)]) ∧ Below w.heap.size w w' := by
  have hc := flMore_any 0 0 A n c B l w h hB hn
  generalize (flN (0, 0) l).1 = a2 at *
  generalize (flN (0, 0) l).2 = b2 at *
  go_enter Tryz.func75, Tryz.ntmps75
  go_wp2_with fail
  go_fit hc
  rintro e w1 ⟨rfl, hb⟩
  go_wp2
  go_ret2
  exact ⟨rfl, hb⟩

/- the document's -/
set_option maxHeartbeats 400000 in
theorem flqMore_any (a b : Nat) (A : Option Addr) (n c B : Nat) (l : List UInt8) (w : World) (h : Rd w B 1 A n c (bv l)) :
    Calls Tryz.prog 87 #[.int .u8 (a : Int), .int .u8 (b : Int), .slice A n c] w fun e w' => e = .returned (.tuple #[.int .u8 ((flN (a, b) l).1 : Int), .int .u8 ((flN (a, b) l).2 : Int)]) ∧ w = w' := by
  have Hl := Lib.hid h.blen
  have hlen := h.le
  have hmx := h.max
  unfold maxLen at hmx
  obtain ⟨a3, ea⟩ : ∃ a3, a3 = (flN (a, b) l).1 := ⟨_, rfl⟩
  obtain ⟨b3, eb⟩ : ∃ b3, b3 = (flN (a, b) l).2 := ⟨_, rfl⟩
  rw [← ea, ← eb]
  have Ea := Lib.hid ea
  have Eb := Lib.hid eb
  clear ea eb
  go_enter Tryz.func87, Tryz.ntmps87
  go_wp2
  go_loop [0, 1, 8] (fun u v i => ∃ k : Nat, k ≤ n ∧ i = .int .i64 k ∧ u = .int .u8 ((flN (a, b) (l.take k)).1 : Int) ∧ v = .int .u8 ((flN (a, b) (l.take k)).2 : Int)) (fun _ _ i => n - (intOf i).toNat)
  case atStart => exact ⟨0, by omega, rfl, rfl, rfl⟩
  case round =>
    obtain ⟨k, hk, rfl, rfl, rfl⟩ := hrel
    by_cases hlt : k < n
    · obtain ⟨ad, x, rfl, hx, hcell⟩ := h.byte hlt
      have Hx := Lib.hid (flN_snoc (a, b) (l.take k) x)
      rw [← take_succ hx] at Hx
      obtain ⟨s, hs⟩ : ∃ s, s = flN (a, b) (l.take k) := ⟨_, rfl⟩
      rw [← hs] at Hx
      rw [← hs]
      clear hs
      have e1 := u8_add s.1 x.toNat
      have e2 := u8_add s.2 ((s.1 + x.toNat) % 256)
      have Hx' : Hid (flN (a, b) (l.take (k + 1)) = ((s.1 + x.toNat) % 256, (s.2 + (s.1 + x.toNat) % 256) % 256)) := Hx
      clear Hx
      generalize s.2 = s2 at *
      generalize s.1 = s1 at *
      generalize (s2 + (s1 + x.toNat) % 256) % 256 = b1 at *
      generalize (s1 + x.toNat) % 256 = a1 at *
      go_wp2
      go_round
      case rel => exact ⟨k + 1, by omega, by go_num, by rw [Hx'.out], by rw [Hx'.out]⟩
      case measure => simp [intOf]; omega
    · obtain rfl : k = n := by omega
      have ht : l.take k = l := List.take_of_length_le (by rw [Hl.out]; omega)
      rw [ht, ← Ea.out, ← Eb.out]
      go_wp2
      go_ret2
      exact ⟨rfl, rfl⟩
theorem flqOf_any (A : Option Addr) (n c B : Nat) (l : List UInt8) (w : World) (h : Rd w B 1 A n c (bv l)) :
    Calls Tryz.prog 77 #[.slice A n c] w fun e w' => e = .returned (.tuple #[.int .u8 ((flN (0, 0) l).1 : Int), .int .u8 ((flN (0, 0) l).2 : Int)]) ∧ w = w' := by
  have hc := flqMore_any 0 0 A n c B l w h
  generalize (flN (0, 0) l).1 = a2 at *
  generalize (flN (0, 0) l).2 = b2 at *
  go_enter Tryz.func77, Tryz.ntmps77
  go_wp2_with fail
  go_fit hc
  rintro e w1 ⟨rfl, rfl⟩
  go_wp2
  go_ret2
  exact ⟨rfl, rfl⟩

end Go.Proofs.YtmkidihcdljkiaaGreat

/-
  fletch's Seal and Open, and the document's Seal, walked.
-/
set_option linter.unusedSimpArgs false
set_option linter.unusedVariables false
namespace Go.Proofs.YtmkidihcdljkiaaGreat
open Go.RowKit NumLaw

theorem stop_copy {P : Program} {w : World} {ops : Array Oper} {rest : List Oper} {a : Act} {Q : Exit → Act → World → Prop} {d : Option Tmp} {ar : Array Operand} {ts : Array TypeId} {ty : TypeId} {pos : String} {af : Array Edge} {g : Option (Nat × Bool)}
    (h : Stop (wpList P ops Q (⟨d, .call { callee := .builtin .copy, args := ar, argTypes := ts }, ty, pos, af, g⟩ :: rest) a w)) : wpList P ops Q (⟨d, .call { callee := .builtin .copy, args := ar, argTypes := ts }, ty, pos, af, g⟩ :: rest) a w := h
theorem made_rep (z : Value) (n : Nat) : madeCells #[z] n = (List.replicate n z).toArray := by
  apply Array.ext
  · simp [madeCells]
  · intro i h1 h2
    simp [madeCells, Nat.mod_one]
theorem own_blkAll {w : World} {base g : Nat} {e : TypeId} {cs : List Value} (h : w.heap[g]? = some (.cells cs.toArray e)) (hB : base ≤ g) {n : Nat} (hn : cs.length = n) (hm : n ≤ maxLen) : w.ownsRow base e 1 (.slice (some ⟨g, 0, none⟩) n n) n cs :=
  ⟨by omega, .inr ⟨g, n, cs.toArray, rfl, hB, h, Nat.le_refl _, hm, by simp [hn], by simp [← hn]⟩⟩
theorem u8_nat {n : Nat} (h : n < 256) : ((UInt8.ofNat n).toNat : Int) = (n : Int) := by
  rw [UInt8.toNat_ofNat']; congr 1; omega
theorem bv_flB (l : List UInt8) : bv (flB l) = [.int .u8 ((flN (0, 0) l).1 : Int), .int .u8 ((flN (0, 0) l).2 : Int)] := by
  have h := flN_lt (0, 0) l ⟨by decide, by decide⟩
  simp only [flB, bv, List.map_cons, List.map_nil, u8_nat h.1, u8_nat h.2]

set_option maxRecDepth 10000 in
set_option maxHeartbeats 1000000 in
theorem flSeal_any (A : Option Addr) (n c B : Nat) (l : List UInt8) (w : World) (h : Rd w B 1 A n c (bv l)) (hB : B ≤ w.heap.size) (hn : n ≤ 1000000000) :
    Calls Tryz.prog 57 #[.slice A n c] w (RetB w (sealF l)) := by
  have hll := h.blen
  obtain ⟨i0, hi⟩ := info_parts u8_info
  have hmk := run_make_row' (P := Tryz.prog) 38 5 (.int .u8 0) 1 Tryz.underlying38 u8_info rfl .i64 .i64 (n + 2) (by omega) (by omega)
  have ec : ((n + 2 : Nat) : Int) = (n : Int) + 2 := by omega
  rw [ec, made_rep] at hmk
  clear ec
  obtain ⟨a3, ea⟩ : ∃ a3, a3 = (flN (0, 0) l).1 := ⟨_, rfl⟩
  obtain ⟨b3, eb⟩ : ∃ b3, b3 = (flN (0, 0) l).2 := ⟨_, rfl⟩
  have hof := fun w' h' hB' => flOf_any A n c B l w' h' hB' (by omega)
  have es := Lib.hid (bv_flB l)
  rw [← ea, ← eb] at hof es
  have Ho := Lib.hid hof
  clear ea eb hof
  obtain ⟨z, hz⟩ : ∃ z, z = List.replicate (n + 2) (Value.int .u8 0) := ⟨_, rfl⟩
  rw [← hz] at hmk
  have hzl : z.length = n + 2 := by rw [hz]; simp
  have Hz := Lib.hid hz
  have Hl := Lib.hid hll
  clear hz hll
  go_enter Tryz.func57, Tryz.ntmps57
  go_wp2_with (with_reducible refine stop_copy ?_)
  have hg1 : (w.alloc (.cells z.toArray 5)).heap[w.heap.size]? = some (.cells z.toArray 5) := heap_alloc_new w _
  have hb1 : Below w.heap.size w (w.alloc (.cells z.toArray 5)) := (Below.refl _ _).alloc (Nat.le_refl _) _
  have hr1 := h.up (hb1.mono hB)
  refine go_ (wpList_copy_splice rfl (.tmp 9) (.tmp 10) 38 38 rfl 5 Tryz.underlying38 (by rw [hi.1]; exact congrArg some hi.2.2.1) (some ⟨w.heap.size, 0, none⟩) A _ _ n c rfl rfl w.heap.size 0 z 5 hg1 (bv l) (by rw [bv_len, Hl.out]; exact (Nat.min_eq_left (by omega)).symm) (fun hp => ⟨rfl, ?_⟩) (by rw [bv_len, Hl.out]; omega) (bv_one l) w.heap.size w hb1 (Nat.le_refl _) ?_)
  · obtain ⟨ad, e, _, hc⟩ := hr1.at_ (by rw [bv_len, Hl.out] at hp; exact hp)
    exact ⟨ad, e, hc⟩
  intro w2 hg2 hb2
  have hr2 := h.up (hb2.mono hB)
  have hcs : splice z 0 (bv l) = bv l ++ [.int .u8 0, .int .u8 0] := by
    unfold splice
    rw [Hz.out, bv_len, Hl.out, List.take_zero, List.nil_append, List.drop_replicate, show n + 2 - (0 + n) = 2 by omega]
    rfl
  rw [hcs] at hg2
  have hbl : (bv l).length = n := by rw [bv_len, Hl.out]
  have Hg2 := hg2.out
  clear hcs hmk hg1 hb1 hr1 hg2
  go_wp2_with fail
  go_fit (Ho.out w2 hr2 (Nat.le_trans hB hb2.size))
  rintro e w3 ⟨rfl, hb3⟩
  have hgw : w.heap.size < w2.heap.size := blk_lt Hg2
  have hg3 := blk_old Hg2 hb3 hgw
  have c3 : w3.cell? ⟨w.heap.size, n, none⟩ = some (.int .u8 0) := blk_cell hg3 (by simp [← hbl])
  have f3 := blk_free (i := n) hg3
  have hg4 := blk_set (i := n) hg3 (.int .u8 (a3 : Int))
  have c4 : (w3.setCell ⟨w.heap.size, n, none⟩ (.int .u8 (a3 : Int))).cell? ⟨w.heap.size, n + 1, none⟩ = some (.int .u8 0) := blk_cell hg4 (by simp [← hbl])
  have f4 := blk_free (i := n + 1) hg4
  have hg5 := blk_set (i := n + 1) hg4 (.int .u8 (b3 : Int))
  have ecs : ((bv l ++ [Value.int .u8 0, .int .u8 0]).toArray.setIfInBounds n (.int .u8 (a3 : Int))).setIfInBounds (n + 1) (.int .u8 (b3 : Int)) = (bv (sealF l)).toArray := by
    unfold sealF
    rw [bv_app, es.out, ← hbl]
    simp
  rw [ecs] at hg5
  clear hg4 hg3 Hg2 ecs
  have hb5 := ((hb2.trans (hb3.mono hb2.size)).setCell (p := ⟨w.heap.size, n, none⟩) (Nat.le_refl _) (.int .u8 (a3 : Int))).setCell (p := ⟨w.heap.size, n + 1, none⟩) (Nat.le_refl _) (.int .u8 (b3 : Int))
  go_wp2
  go_ret
  exact ⟨_, _, _, rfl, own_blkAll hg5 (Nat.le_refl _) (by rw [bv_len, sealF_len, Hl.out]) (by unfold maxLen; omega), hb5⟩

/- Open -/
/- the document's Seal -/
set_option maxHeartbeats 1000000 in
theorem flqSeal_any (A : Option Addr) (n c B : Nat) (l : List UInt8) (w : World) (h : Rd w B 1 A n c (bv l)) (hB : B ≤ w.heap.size) (hn : n ≤ 1000000000) :
    Calls Tryz.prog 59 #[.slice A n c] w (RetB w (sealF l)) := by
  have hll := h.blen
  obtain ⟨i0, hi⟩ := info_parts u8_info
  have Hi := Lib.hid hi
  obtain ⟨a3, ea⟩ : ∃ a3, a3 = (flN (0, 0) l).1 := ⟨_, rfl⟩
  obtain ⟨b3, eb⟩ : ∃ b3, b3 = (flN (0, 0) l).2 := ⟨_, rfl⟩
  have hof := flqOf_any A n c B l w h
  have es := Lib.hid (bv_flB l)
  rw [← ea, ← eb] at hof es
  clear ea eb hi
  have hown1 : (w.alloc (.cells #[] 5)).ownsRow w.heap.size 5 1 (.slice (some ⟨w.heap.size, 0, none⟩) 0 0) 0 [] := own_empty w _ _ (Nat.le_refl _) 1
  have hb1 : Below w.heap.size w (w.alloc (.cells #[] 5)) := (Below.refl _ _).alloc (Nat.le_refl _) _
  go_enter Tryz.func59, Tryz.ntmps59
  go_wp2_with fail
  go_fit hof
  rintro e w1 ⟨rfl, rfl⟩
  go_wp2_with (at_builtin; refine stop_ ?_)
  refine go_ (wpList_app Tryz.underlying38 Hi.out rfl (by omega) hown1 rfl (h.up (hb1.mono hB)) rfl (bv_one _) (k := n) (by omega) (List.nil_append _) (by unfold maxLen; omega) (by omega) (by simp) ?_)
  intro A2 c2 w2 hown2 hB2
  have hb2 := hB2 hb1 (by simp) (Nat.le_refl _)
  clear hB2
  go_wp2_with (at_builtin; refine stop_ ?_)
  have hr3 : Rd (w2.alloc (.cells #[.int .u8 (a3 : Int), .int .u8 (b3 : Int)] 5)) (w2.heap.size + 1) 1 (some ⟨w2.heap.size, 0, none⟩) 2 2 (bv (flB l)) := by
    have := rd_const w2 5 (flB l) (0, 0) (by simp [flB, maxLen])
    rw [es.out] at this ⊢
    exact this
  have hb3 : Below w2.heap.size w2 (w2.alloc (.cells #[.int .u8 (a3 : Int), .int .u8 (b3 : Int)] 5)) := (Below.refl _ _).alloc (Nat.le_refl _) _
  refine go_ (wpList_app Tryz.underlying38 Hi.out rfl (by omega) (own_up hown2 hb3 (Nat.le_refl _)) rfl hr3 rfl (bv_one _) (k := n + 2) rfl (bv_app _ _).symm (by unfold maxLen; omega) (by omega) (by simp; have := hb2.size; omega) ?_)
  intro A4 c4 w4 hown4 hB4
  have hb4 := hB4 (bnx hb2 hb3) (by simp; have := hb2.size; omega) (Nat.le_refl _)
  clear hB4
  go_wp2
  go_ret
  exact ⟨A4, c4, n + 2, rfl, hown4, hb4⟩

end Go.Proofs.YtmkidihcdljkiaaGreat
