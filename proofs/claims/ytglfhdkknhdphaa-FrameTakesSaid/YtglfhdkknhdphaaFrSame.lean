/-
  The document's Same walked; the law FrameSteady walked.
-/
import Derived.Test.YtglfhdkknhdphaaFrLaw
import Derived.Test.YtglfhdkknhdphaaFrPuts
set_option linter.unusedSimpArgs false
set_option linter.unusedVariables false
namespace Go.Proofs.Ytglfhdkknhdphaa
open Go.RowKit NumLaw

set_option maxRecDepth 10000 in
set_option maxHeartbeats 1000000 in
theorem frSame_any (c i : Int) (A : Option Addr) (n cap B : Nat) (p : List UInt8) (c' i' : Int) (A' : Option Addr) (n' cap' B' : Nat) (p' : List UInt8) (w : World) (h : Rd w B 1 A n cap (bv p)) (hB : B ≤ w.heap.size) (h' : Rd w B' 1 A' n' cap' (bv p')) (hB' : B' ≤ w.heap.size) :
    Calls Try.prog 72 #[.agg #[.int .i64 c, .int .i64 i, .slice A n cap], .agg #[.int .i64 c', .int .i64 i', .slice A' n' cap']] w fun e w' => e = .returned (.bool (decide (c = c' ∧ i = i' ∧ p = p'))) ∧ Below w.heap.size w w' := by
  have h1 : Below w.heap.size w (w.alloc (.cells #[.int .i64 c, .int .i64 i, .slice A n cap] 92)) := (Below.refl _ _).alloc (Nat.le_refl _) _
  have h2 := h1.alloc h1.size (.cells #[.int .i64 c', .int .i64 i', .slice A' n' cap'] 92)
  have hx : ((w.alloc (.cells #[.int .i64 c, .int .i64 i, .slice A n cap] 92)).alloc (.cells #[.int .i64 c', .int .i64 i', .slice A' n' cap'] 92)).heap[w.heap.size]? = some (.cells #[.int .i64 c, .int .i64 i, .slice A n cap] 92) := (heap_alloc_old _ _ (by simp)).trans (heap_alloc_new w _)
  have hy : ((w.alloc (.cells #[.int .i64 c, .int .i64 i, .slice A n cap] 92)).alloc (.cells #[.int .i64 c', .int .i64 i', .slice A' n' cap'] 92)).heap[w.heap.size + 1]? = some (.cells #[.int .i64 c', .int .i64 i', .slice A' n' cap'] 92) := blk_new2 _ _ _
  have v1 := run_str _ 22 9 5 Try.underlying22 Try.underlying5 Try.underlying9 (h.up (h2.mono hB))
  have v2 := run_str _ 22 9 5 Try.underlying22 Try.underlying5 Try.underlying9 (h'.up (h2.mono hB'))
  go_enter Try.func72, Try.ntmps72
  have c0 := blk_cell (i := 0) (v := .int .i64 c) hx rfl
  have c1 := blk_cell (i := 1) (v := .int .i64 i) hx rfl
  have c2 := blk_cell (i := 2) (v := .slice A n cap) hx rfl
  have d0 := blk_cell (i := 0) (v := .int .i64 c') hy rfl
  have d1 := blk_cell (i := 1) (v := .int .i64 i') hy rfl
  have d2 := blk_cell (i := 2) (v := .slice A' n' cap') hy rfl
  clear hx hy
  by_cases g1 : c = c'
  · subst g1
    by_cases g2 : i = i'
    · subst g2
      go_wp2
      go_ret
      exact ⟨congrArg (fun b => Ending.returned (.bool b)) (by rw [Bool.eq_iff_iff]; simp), h2⟩
    · go_wp2
      go_ret
      exact ⟨by simp [g2], h2⟩
  · go_wp2
    go_ret
    exact ⟨by simp [g1], h2⟩

/-- What a taking tells, laid in a box of its own. -/
theorem box3 {w : World} {a b c : Value} {e : TypeId} (B : Nat) (w0 : World) (hb : Below B w0 w) (hB : B ≤ w.heap.size) :
    (w.alloc (.cells #[a, b, c] e)).heap[w.heap.size]? = some (.cells #[a, b, c] e) ∧ Below B w0 (w.alloc (.cells #[a, b, c] e)) := ⟨heap_alloc_new w _, hb.alloc hB _⟩

set_option maxRecDepth 10000 in
set_option maxHeartbeats 2000000 in
theorem frsteady_any (A : Option Addr) (n cap : Nat) (b : List UInt8) (A' : Option Addr) (n' cap' : Nat) (more : List UInt8) (w : World) (h : Rd w w.heap.size 1 A n cap (bv b)) (h' : Rd w w.heap.size 1 A' n' cap' (bv more)) :
    Calls Try.prog 17 #[.slice A n cap, .slice A' n' cap'] w fun e w' => e = .returned (.bool true) ∧ Below w.heap.size w w' := by
  have hll := h.blen
  have hll' := h'.blen
  go_enter Try.func17, Try.ntmps17
  rcases (by omega : 2000 < n ∨ (¬ 2000 < n ∧ 2000 < n') ∨ (¬ 2000 < n ∧ ¬ 2000 < n')) with g1 | ⟨g1, g2⟩ | ⟨g1, g2⟩
  · go_wp2_with fail
    go_fit (knows15 _)
    rintro e w1 ⟨rfl, hb1⟩
    go_wp2
    go_ret
    exact ⟨rfl, hb1⟩
  · go_wp2_with fail
    go_fit (knows15 _)
    rintro e w1 ⟨rfl, hb1⟩
    go_wp2
    go_ret
    exact ⟨rfl, hb1⟩
  · obtain ⟨i0, hi0⟩ := info_parts u8_info
    have Hi := Lib.hid hi0
    have Hst := Lib.hid (frTake_steady b more)
    have hbm : (b ++ more).length = n + n' := by rw [List.length_append, hll, hll']
    have Hbm := Lib.hid hbm
    obtain ⟨T, hT⟩ : ∃ T, T = frTake b := ⟨_, rfl⟩
    obtain ⟨T2, hT2⟩ : ∃ T2, T2 = frTake (b ++ more) := ⟨_, rfl⟩
    have HT := Lib.hid hT
    have HT2 := Lib.hid hT2
    clear hi0 hT hT2 hbm hll hll'
    go_wp2_with fail
    go_fit (knows15 _)
    rintro e w1 ⟨rfl, hb1⟩
    go_wp2_with fail
    go_fit (frTake_any A n cap w.heap.size b w1 (h.up hb1) hb1.size (by omega))
    rw [← HT.out]
    rintro e w2 ⟨A2, n2, c2, rfl, hr2, hb2⟩
    have hb2' := bnx hb1 hb2
    clear hb1 hb2
    obtain ⟨hx, hb3⟩ := box3 (a := .int .i64 (T.c : Int)) (b := .int .i64 (T.i : Int)) (c := .slice A2 n2 c2) (e := 92) w.heap.size w hb2' hb2'.size
    have hr3 := hr2.nx ((Below.refl _ _).alloc (Nat.le_refl _) (.cells #[.int .i64 (T.c : Int), .int .i64 (T.i : Int), .slice A2 n2 c2] 92))
    have hlx := blk_lt hx
    go_wp2_with (at_builtin; refine stop_ ?_)
    have hs3 : (w2.alloc (.cells #[.int .i64 (T.c : Int), .int .i64 (T.i : Int), .slice A2 n2 c2] 92)).heap.size = w2.heap.size + 1 := World.size_alloc _ _
    generalize (w2.alloc (.cells #[.int .i64 (T.c : Int), .int .i64 (T.i : Int), .slice A2 n2 c2] 92)) = w3 at *
    have hown4 : (w3.alloc (.cells #[] 5)).ownsRow w3.heap.size 5 1 (.slice (some ⟨w2.heap.size + 1, 0, none⟩) 0 0) 0 [] := by rw [← hs3]; exact own_empty w3 _ _ (Nat.le_refl _) 1
    have hb4 : Below w3.heap.size w3 (w3.alloc (.cells #[] 5)) := (Below.refl _ _).alloc (Nat.le_refl _) _
    refine go_ (wpList_app Try.underlying22 Hi.out rfl (by omega) hown4 rfl (h.up (bnx hb3 hb4)) rfl (bv_one _) (k := n) (by omega) (List.nil_append _) (by unfold maxLen; omega) (by omega) hb4.size ?_)
    intro A5 c5 w5 hown5 hB5
    have hb5 := hB5 hb4 hb4.size (Nat.le_refl _)
    clear hB5 hown4 hb4
    go_wp2_with (at_builtin; refine stop_ ?_)
    refine go_ (wpList_app Try.underlying22 Hi.out rfl (by omega) hown5 rfl (h'.up (bnx hb3 hb5)) rfl (bv_one _) (k := n + n') rfl (bv_app _ _).symm (by unfold maxLen; omega) (by omega) hb5.size ?_)
    intro A6 c6 w6 hown6 hB6
    have hb6 := hB6 hb5 hb5.size (Nat.le_refl _)
    clear hB6 hown5 hb5
    go_wp2_with fail
    go_fit (frTake_any A6 (n + n') c6 w6.heap.size (b ++ more) w6 (Rd.own hown6) (Nat.le_refl _) (by omega))
    rw [← HT2.out]
    rintro e w7 ⟨A7, n7, c7, rfl, hr7, hb7⟩
    have hb7' := bnx hb6 hb7
    clear hb6 hb7 hown6
    obtain ⟨hy, hb8⟩ := box3 (a := .int .i64 (T2.c : Int)) (b := .int .i64 (T2.i : Int)) (c := .slice A7 n7 c7) (e := 92) w3.heap.size w3 hb7' hb7'.size
    have hr8 := hr7.nx ((Below.refl _ _).alloc (Nat.le_refl _) (.cells #[.int .i64 (T2.c : Int), .int .i64 (T2.i : Int), .slice A7 n7 c7] 92))
    have hlx : w2.heap.size < w3.heap.size := by omega
    have hx8 := blk_old hx hb8 hlx
    have hr3' := hr3.up hb8
    have hbw := bnx hb3 hb8
    have hsz8 := hb8.size
    by_cases he : T.err = 2
    · have he' : (T.err : Int) = 2 := by omega
      go_wp2_with fail
      go_fit (num15_any _ _)
      rintro e w9 ⟨rfl, rfl⟩
      go_wp2_with fail
      go_fit (num15_any _ _)
      rintro e w9 ⟨rfl, rfl⟩
      go_wp2
      go_ret
      exact ⟨rfl, hbw⟩
    · have he' : ¬ (T.err : Int) = 2 := by omega
      obtain rfl : T2 = T := by rw [HT2.out, HT.out]; exact Hst.out (by rw [← HT.out]; exact he)
      have c0 := blk_cell (i := 0) (v := .int .i64 (T2.c : Int)) hx8 rfl
      have c1 := blk_cell (i := 1) (v := .int .i64 (T2.i : Int)) hx8 rfl
      have c2 := blk_cell (i := 2) (v := .slice A2 n2 c2) hx8 rfl
      have d0 := blk_cell (i := 0) (v := .int .i64 (T2.c : Int)) hy rfl
      have d1 := blk_cell (i := 1) (v := .int .i64 (T2.i : Int)) hy rfl
      have d2 := blk_cell (i := 2) (v := .slice A7 n7 c7) hy rfl
      clear hx hy hx8
      go_wp2_with fail
      go_fit (num15_any _ _)
      rintro e w9 ⟨rfl, rfl⟩
      go_wp2_with fail
      go_fit (num15_any _ _)
      rintro e w9 ⟨rfl, rfl⟩
      go_wp2_with fail
      go_fit (frSame_any _ _ A2 n2 _ _ T2.p _ _ A7 n7 c7 _ T2.p _ hr3' hsz8 hr8 (Nat.le_refl _))
      rintro e w9 ⟨rfl, hb9⟩
      rw [decide_eq_true ⟨rfl, rfl, rfl⟩]
      go_wp2_with fail
      go_fit (num15_any _ _)
      rintro e w10 ⟨rfl, rfl⟩
      go_wp2_with fail
      go_fit (num15_any _ _)
      rintro e w10 ⟨rfl, rfl⟩
      go_wp2
      go_ret
      exact ⟨rfl, bnx hbw hb9⟩

end Go.Proofs.Ytglfhdkknhdphaa
