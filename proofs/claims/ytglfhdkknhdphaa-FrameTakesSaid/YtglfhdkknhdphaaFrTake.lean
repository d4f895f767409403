/-
  frame.Take walked.
-/
import Derived.Test.YtglfhdkknhdphaaFrBeg
set_option linter.unusedSimpArgs false
set_option linter.unusedVariables false
namespace Go.Proofs.Ytglfhdkknhdphaa
open Go.RowKit NumLaw

/-- What a frame's taking tells. -/
structure FrT where
  c : Nat
  i : Nat
  p : List UInt8
  size : Nat
  err : Nat
def frTake (b : List UInt8) : FrT :=
  if frBeg b = false then ⟨0, 0, [], 0, 3⟩ else
  match b with
  | _ :: _ :: c :: i :: l :: h :: _ =>
    if 1016 < l.toNat + 256 * h.toNat then ⟨0, 0, [], 0, 7⟩ else
    if b.length < l.toNat + 256 * h.toNat + 8 then ⟨0, 0, [], 0, 2⟩ else
    match openF ((b.take (l.toNat + 256 * h.toNat + 8)).drop 2) with
    | none => ⟨0, 0, [], 0, 4⟩
    | some body => ⟨c.toNat, i.toNat, body.drop 4, l.toNat + 256 * h.toNat + 8, 0⟩
  | _ => ⟨0, 0, [], 0, 2⟩
def RetT (w : World) (T : FrT) (e : Ending) (w' : World) : Prop :=
  ∃ A n cap, e = .returned (.tuple #[.agg #[.int .i64 (T.c : Int), .int .i64 (T.i : Int), .slice A n cap], .int .i64 (T.size : Int), .int .i64 (T.err : Int)]) ∧ Rd w' w'.heap.size 1 A n cap (bv T.p) ∧ Below w.heap.size w w'

/-- Three stores into a row of three cells. -/
theorem st3 {w : World} {g e : Nat} {a b c : Value} (h : w.heap[g]? = some (.cells #[a, b, c] e)) (x y z : Value) :
    w.cell? ⟨g, 0, none⟩ = some a ∧ w.frozen? ⟨g, 0, none⟩ = false ∧
    (w.setCell ⟨g, 0, none⟩ x).cell? ⟨g, 1, none⟩ = some b ∧ (w.setCell ⟨g, 0, none⟩ x).frozen? ⟨g, 1, none⟩ = false ∧
    ((w.setCell ⟨g, 0, none⟩ x).setCell ⟨g, 1, none⟩ y).cell? ⟨g, 2, none⟩ = some c ∧ ((w.setCell ⟨g, 0, none⟩ x).setCell ⟨g, 1, none⟩ y).frozen? ⟨g, 2, none⟩ = false ∧
    (((w.setCell ⟨g, 0, none⟩ x).setCell ⟨g, 1, none⟩ y).setCell ⟨g, 2, none⟩ z).heap[g]? = some (.cells #[x, y, z] e) ∧
    (((w.setCell ⟨g, 0, none⟩ x).setCell ⟨g, 1, none⟩ y).setCell ⟨g, 2, none⟩ z).heap.size = w.heap.size := by
  have h1 := blk_set (i := 0) h x
  have h2 := blk_set (i := 1) h1 y
  have h3 := blk_set (i := 2) h2 z
  exact ⟨blk_cell h rfl, blk_free h, blk_cell h1 rfl, blk_free h1, blk_cell h2 rfl, blk_free h2, h3, by simp [World.setCell]⟩
theorem st3_below {B : Nat} {w0 w : World} {g : Nat} (hb : Below B w0 w) (hg : B ≤ g) (x y z : Value) : Below B w0 (((w.setCell ⟨g, 0, none⟩ x).setCell ⟨g, 1, none⟩ y).setCell ⟨g, 2, none⟩ z) :=
  ((hb.setCell (p := ⟨g, 0, none⟩) hg x).setCell (p := ⟨g, 1, none⟩) hg y).setCell (p := ⟨g, 2, none⟩) hg z
theorem openF_len {l b : List UInt8} (h : openF l = some b) : b.length + 2 = l.length := by
  unfold openF at h
  split at h
  · cases h
  · split at h
    · injection h with h
      rw [← h, List.length_take]
      omega
    · cases h

set_option maxRecDepth 10000 in
set_option maxHeartbeats 4000000 in
theorem frTake_any (A : Option Addr) (n c B : Nat) (b : List UInt8) (w : World) (h : Rd w B 1 A n c (bv b)) (hB : B ≤ w.heap.size) (hn : n ≤ 1000000) :
    Calls Try.prog 70 #[.slice A n c] w (RetT w (frTake b)) := by
  have hll := h.blen
  have hle := h.le
  have hmx := h.max
  unfold maxLen at hmx
  obtain ⟨T, hT⟩ : ∃ T, T = frTake b := ⟨_, rfl⟩
  rw [← hT]
  have hres : (w.alloc (.cells #[.int .i64 0, .int .i64 0, .slice none 0 0] 92)).heap[w.heap.size]? = some (.cells #[.int .i64 0, .int .i64 0, .slice none 0 0] 92) := heap_alloc_new w _
  have h0 : Below w.heap.size w (w.alloc (.cells #[.int .i64 0, .int .i64 0, .slice none 0 0] 92)) := (Below.refl _ _).alloc (Nat.le_refl _) _
  have hbeg := frbegins_any A n c B b _ (h.up (h0.mono hB)) (Nat.le_trans hB h0.size)
  have hltr : w.heap.size < (w.alloc (.cells #[.int .i64 0, .int .i64 0, .slice none 0 0] 92)).heap.size := blk_lt hres
  cases hbg : frBeg b with
  | false =>
    obtain rfl : T = ⟨0, 0, [], 0, 3⟩ := by rw [hT]; unfold frTake; rw [if_pos hbg]
    rw [hbg] at hbeg
    clear hT hbg hll
    go_enter Try.func70, Try.ntmps70
    go_wp2_with fail
    go_fit hbeg
    rintro e w2 ⟨rfl, hb2⟩
    replace hres := blk_old hres hb2 hltr
    obtain ⟨s1, s2, s3, s4, s5, s6, he, hs⟩ := st3 hres (.int .i64 0) (.int .i64 0) (.slice none 0 0)
    have e0 := blk_cell (i := 0) (v := .int .i64 0) he rfl
    have e1 := blk_cell (i := 1) (v := .int .i64 0) he rfl
    have e2 := blk_cell (i := 2) (v := .slice none 0 0) he rfl
    go_wp2
    refine bodyPost_ret (v := .tuple #[.agg #[.int .i64 0, .int .i64 0, .slice none 0 0], .int .i64 0, .int .i64 3]) (by simp [results, go_sem, e0, e1, e2]) rfl ⟨none, 0, 0, rfl, Rd.none_ _ _ _, st3_below (bnx h0 hb2) (Nat.le_refl _) _ _ _⟩
  | true =>
    rw [hbg] at hbeg
    by_cases h6 : n < 6
    · obtain rfl : T = ⟨0, 0, [], 0, 2⟩ := by
        rw [hT]; unfold frTake; rw [if_neg (by rw [hbg]; simp)]
        match b, hll with
        | [], _ => rfl
        | [_], _ => rfl
        | [_, _], _ => rfl
        | [_, _, _], _ => rfl
        | [_, _, _, _], _ => rfl
        | [_, _, _, _, _], _ => rfl
        | _ :: _ :: _ :: _ :: _ :: _ :: _, hll => simp at hll; omega
      clear hT hbg hll
      go_enter Try.func70, Try.ntmps70
      go_wp2_with fail
      go_fit hbeg
      rintro e w2 ⟨rfl, hb2⟩
      replace hres := blk_old hres hb2 hltr
      obtain ⟨s1, s2, s3, s4, s5, s6, he, hs⟩ := st3 hres (.int .i64 0) (.int .i64 0) (.slice none 0 0)
      have e0 := blk_cell (i := 0) (v := .int .i64 0) he rfl
      have e1 := blk_cell (i := 1) (v := .int .i64 0) he rfl
      have e2 := blk_cell (i := 2) (v := .slice none 0 0) he rfl
      go_wp2
      refine bodyPost_ret (v := .tuple #[.agg #[.int .i64 0, .int .i64 0, .slice none 0 0], .int .i64 0, .int .i64 2]) (by simp [results, go_sem, e0, e1, e2]) rfl ⟨none, 0, 0, rfl, Rd.none_ _ _ _, st3_below (bnx h0 hb2) (Nat.le_refl _) _ _ _⟩
    · obtain ⟨x0, x1, x2, x3, x4, x5, rest, rfl⟩ : ∃ x0 x1 x2 x3 x4 x5 rest, b = x0 :: x1 :: x2 :: x3 :: x4 :: x5 :: rest := by
        match b, hll with
        | x0 :: x1 :: x2 :: x3 :: x4 :: x5 :: rest, _ => exact ⟨x0, x1, x2, x3, x4, x5, rest, rfl⟩
        | [], hll => simp at hll; omega
        | [_], hll => simp at hll; omega
        | [_, _], hll => simp at hll; omega
        | [_, _, _], hll => simp at hll; omega
        | [_, _, _, _], hll => simp at hll; omega
        | [_, _, _, _, _], hll => simp at hll; omega
      obtain ⟨N, hN⟩ : ∃ N, N = x4.toNat + 256 * x5.toNat := ⟨_, rfl⟩
      obtain ⟨bb, hbb⟩ : ∃ bb, bb = x0 :: x1 :: x2 :: x3 :: x4 :: x5 :: rest := ⟨_, rfl⟩
      have hT2 : T = if 1016 < N then ⟨0, 0, [], 0, 7⟩ else if n < N + 8 then ⟨0, 0, [], 0, 2⟩ else match openF ((bb.take (N + 8)).drop 2) with | none => ⟨0, 0, [], 0, 4⟩ | some body => ⟨x2.toNat, x3.toNat, body.drop 4, N + 8, 0⟩ := by
        rw [hT]; unfold frTake; rw [if_neg (by rw [hbg]; simp)]
        simp only [← hN, ← hbb]
        rw [show bb.length = n by rw [hbb]; exact hll]
      rw [← hbb] at h hll
      have hx2 := x2.toNat_lt
      have hx3 := x3.toNat_lt
      have hx4 := x4.toNat_lt
      have hx5 := x5.toNat_lt
      have hcut : Rd w B 1 (cutA A c 2 1) 4 (c - 2) (bv [x2, x3, x4, x5]) := by
        have := (h.btake (k := 6) (by omega)).bdrop (k := 2) (by omega)
        rw [hbb] at this
        exact this
      have hcutS := fun (S : Nat) (hS : S ≤ n) (h2 : 2 ≤ S) => (h.btake (k := S) hS).bdrop (k := 2) h2
      obtain ⟨i0, hi⟩ := info_parts u8_info
      have hi1 := hi.1
      have hrun : ∀ w, (Instr.slice 22 (.slice A n c) (some (.int .i64 2)) (some (.int .i64 6)) none).run Try.prog w = .ok (.slice (cutA A c 2 1) 4 (c - 2)) w := fun w => run_cut_lh (P := Try.prog) Try.underlying22 hi.1 hi.2.2.1 A n c 2 6 (by omega) (by omega) w
      have hrunS : ∀ S : Nat, 2 ≤ S → S ≤ c → ∀ w, (Instr.slice 22 (.slice A n c) (some (.int .i64 2)) (some (.int .i64 (S : Int))) none).run Try.prog w = .ok (.slice (cutA A c 2 1) (S - 2) (c - 2)) w := fun S h1 h2 w => run_cut_lh (P := Try.prog) Try.underlying22 hi.1 hi.2.2.1 A n c 2 S h1 h2 w
      have hrun4 : ∀ A' n' c', 4 ≤ n' → ∀ w, (Instr.slice 22 (.slice A' n' c') (some (.int .i64 4)) none none).run Try.prog w = .ok (.slice (cutA A' c' 4 1) (n' - 4) (c' - 4)) w := fun A' n' c' h1 w => run_cut_l (P := Try.prog) Try.underlying22 hi.1 hi.2.2.1 A' n' c' 4 h1 w
      have HrunS := Lib.hid hrunS
      have Hrun4 := Lib.hid hrun4
      have HcutS := Lib.hid hcutS
      have HT := Lib.hid hT2
      have Hbb := Lib.hid hbb
      have HN := Lib.hid hN
      have Hll := Lib.hid hll
      have hNb : N ≤ 65535 := by omega
      clear hT hT2 hbb hbg hN hll hrunS hrun4 hcutS hi
      have w1 : IntKind.i64.wrap (x2.toNat : Int) = (x2.toNat : Int) := by rw [IntKind.wrap_i64]; omega
      have w2' : IntKind.i64.wrap (x3.toNat : Int) = (x3.toNat : Int) := by rw [IntKind.wrap_i64]; omega
      have w3' : IntKind.i64.wrap (N : Int) = (N : Int) := by rw [IntKind.wrap_i64]; omega
      go_enter Try.func70, Try.ntmps70
      go_wp2_with fail
      go_fit hbeg
      rintro e w2 ⟨rfl, hb2⟩
      replace hres := blk_old hres hb2 hltr
      have hb2' := bnx h0 hb2
      clear hbeg hb2 h0 hltr
      go_wp2_with fail
      go_fit (rNew_any _ 4 (c - 2) B [x2, x3, x4, x5] w2 (hcut.up (hb2'.mono hB)) (Nat.le_trans hB hb2'.size) (by omega))
      rintro e w3 ⟨g, rfl, hr3, hg3, hb3⟩
      have hlt2 : w.heap.size < w2.heap.size := blk_lt hres
      replace hres := blk_old hres hb3 hlt2
      have hb3' := bnx hb2' hb3
      generalize w2.heap.size = lo at *
      clear hb2' hb3 hcut hrun
      go_wp2_with fail
      go_fit (rU_any lo g [x2, x3, x4, x5] false 1 w3 hr3)
      rintro e w4 ⟨rfl, hr4, hg4⟩
      rw [show rdF (nU 1) [x2, x3, x4, x5] false = false from rfl, show rdL (nU 1) [x2, x3, x4, x5] false = [x3, x4, x5] from rfl] at hr4
      rw [show num (rdB (nU 1) [x2, x3, x4, x5] false) = x2.toNat by show x2.toNat + 256 * 0 = _; omega]
      have hw3s : w.heap.size < w3.heap.size := blk_lt hres
      have hb4' : Below w.heap.size w w4 := hb3'.grown hg4 hb3'.size (fun k hk => by injection hk with hk; omega)
      have hres4 := (hg4.block _ hw3s (by intro e; injection e with e; omega)).trans hres
      clear hr3 hg4 hb3' hres
      go_wp2_with fail
      go_fit (rU_any lo g [x3, x4, x5] false 1 w4 hr4)
      rintro e w5 ⟨rfl, hr5, hg5⟩
      rw [show rdF (nU 1) [x3, x4, x5] false = false from rfl, show rdL (nU 1) [x3, x4, x5] false = [x4, x5] from rfl] at hr5
      rw [show num (rdB (nU 1) [x3, x4, x5] false) = x3.toNat by show x3.toNat + 256 * 0 = _; omega]
      have hw4s : w.heap.size < w4.heap.size := blk_lt hres4
      have hb5' : Below w.heap.size w w5 := hb4'.grown hg5 hb4'.size (fun k hk => by injection hk with hk; omega)
      have hres5 := (hg5.block _ hw4s (by intro e; injection e with e; omega)).trans hres4
      clear hr4 hg5 hb4' hres4
      go_wp2_with fail
      go_fit (rU_any lo g [x4, x5] false 2 w5 hr5)
      rintro e w6 ⟨rfl, hr6, hg6⟩
      rw [show num (rdB (nU 2) [x4, x5] false) = N by rw [HN.out]; show x4.toNat + 256 * (x5.toNat + 256 * 0) = _; omega]
      have hw5s : w.heap.size < w5.heap.size := blk_lt hres5
      have hb6' : Below w.heap.size w w6 := hb5'.grown hg6 hb5'.size (fun k hk => by injection hk with hk; omega)
      have hres := (hg6.block _ hw5s (by intro e; injection e with e; omega)).trans hres5
      clear hr5 hg6 hb5' hres5 hr6 hw3s hw4s hw5s hlt2 hg3
      have hsz := frsize_any (N : Int) w6
      by_cases hN : 1016 < N
      · rw [show frSize (N : Int) = 0 by unfold frSize frFits; rw [decide_eq_false (by omega)]; rfl] at hsz
        obtain rfl : T = ⟨0, 0, [], 0, 7⟩ := by rw [HT.out, if_pos hN]
        go_wp2_with fail
        go_fit hsz
        rintro e w7 ⟨rfl, rfl⟩
        obtain ⟨s1, s2, s3, s4, s5, s6, he, hs⟩ := st3 hres (.int .i64 0) (.int .i64 0) (.slice none 0 0)
        have e0 := blk_cell (i := 0) (v := .int .i64 0) he rfl
        have e1 := blk_cell (i := 1) (v := .int .i64 0) he rfl
        have e2 := blk_cell (i := 2) (v := .slice none 0 0) he rfl
        go_wp2
        refine bodyPost_ret (v := .tuple #[.agg #[.int .i64 0, .int .i64 0, .slice none 0 0], .int .i64 0, .int .i64 7]) (by simp [results, go_sem, e0, e1, e2]) rfl ⟨none, 0, 0, rfl, Rd.none_ _ _ _, st3_below (hb6') (Nat.le_refl _) _ _ _⟩
      · obtain ⟨S, hS⟩ : ∃ S, S = N + 8 := ⟨_, rfl⟩
        rw [show frSize (N : Int) = (S : Int) by unfold frSize frFits; rw [decide_eq_true (by omega), hS]; rfl] at hsz
        have hS2 : N + 8 ≤ S := by omega
        have hS3 : S ≤ N + 8 := by omega
        have HS := Lib.hid hS
        clear hS
        by_cases hnS : n < S
        · obtain rfl : T = ⟨0, 0, [], 0, 2⟩ := by rw [HT.out, if_neg hN, if_pos (by omega)]
          go_wp2_with fail
          go_fit hsz
          rintro e w7 ⟨rfl, rfl⟩
          obtain ⟨s1, s2, s3, s4, s5, s6, he, hs⟩ := st3 hres (.int .i64 0) (.int .i64 0) (.slice none 0 0)
          have e0 := blk_cell (i := 0) (v := .int .i64 0) he rfl
          have e1 := blk_cell (i := 1) (v := .int .i64 0) he rfl
          have e2 := blk_cell (i := 2) (v := .slice none 0 0) he rfl
          go_wp2
          refine bodyPost_ret (v := .tuple #[.agg #[.int .i64 0, .int .i64 0, .slice none 0 0], .int .i64 0, .int .i64 2]) (by simp [results, go_sem, e0, e1, e2]) rfl ⟨none, 0, 0, rfl, Rd.none_ _ _ _, st3_below (hb6') (Nat.le_refl _) _ _ _⟩
        · have hT2 := HT.out
          rw [if_neg hN, if_neg (by omega), ← HS.out] at hT2
          have hrunS := HrunS.out S (by omega) (by omega)
          have hop := flOpen_any (cutA A c 2 1) (S - 2) (c - 2) B _ w6 ((HcutS.out S (by omega) (by omega)).up (hb6'.mono hB)) (Nat.le_trans hB hb6'.size) (by omega)
          have hol : ∀ body, openF ((bb.take S).drop 2) = some body → body.length = S - 4 := fun body hb => by
            have := openF_len hb
            rw [List.length_drop, List.length_take, Hll.out] at this
            omega
          have hltw : w.heap.size < w6.heap.size := blk_lt hres
          cases ho : openF ((bb.take S).drop 2) with
          | none =>
            rw [ho] at hop hT2
            obtain rfl : T = ⟨0, 0, [], 0, 4⟩ := hT2
            clear ho hol
            go_wp2_with fail
            go_fit hsz
            rintro e w7 ⟨rfl, rfl⟩
            go_wp2_with fail
            go_fit hop
            rintro e w7 ⟨rfl, hb7⟩
            replace hres := blk_old hres hb7 hltw
            obtain ⟨s1, s2, s3, s4, s5, s6, he, hs⟩ := st3 hres (.int .i64 0) (.int .i64 0) (.slice none 0 0)
            have e0 := blk_cell (i := 0) (v := .int .i64 0) he rfl
            have e1 := blk_cell (i := 1) (v := .int .i64 0) he rfl
            have e2 := blk_cell (i := 2) (v := .slice none 0 0) he rfl
            go_wp2
            refine bodyPost_ret (v := .tuple #[.agg #[.int .i64 0, .int .i64 0, .slice none 0 0], .int .i64 0, .int .i64 4]) (by simp [results, go_sem, e0, e1, e2]) rfl ⟨none, 0, 0, rfl, Rd.none_ _ _ _, st3_below (bnx hb6' hb7) (Nat.le_refl _) _ _ _⟩
          | some body =>
            have hbl := hol body ho
            rw [ho] at hop hT2
            obtain rfl : T = ⟨x2.toNat, x3.toNat, body.drop 4, S, 0⟩ := hT2
            clear ho hol
            go_wp2_with fail
            go_fit hsz
            rintro e w7 ⟨rfl, rfl⟩
            go_wp2_with fail
            go_fit hop
            rintro e w7 ⟨A7, c7, n7, rfl, hown7, hb7⟩
            have hn7 := own_len hown7
            have hrun4 := Hrun4.out A7 n7 c7 (by omega)
            replace hres := blk_old hres hb7 hltw
            have hb7' := bnx hb6' hb7
            have hlt7 : w.heap.size < w7.heap.size := blk_lt hres
            obtain ⟨s1, s2, s3, s4, s5, s6, he, hs⟩ := st3 hres (.int .i64 (x2.toNat : Int)) (.int .i64 (x3.toNat : Int)) (.slice (cutA A7 c7 4 1) (n7 - 4) (c7 - 4))
            have e0 := blk_cell (i := 0) (v := .int .i64 (x2.toNat : Int)) he rfl
            have e1 := blk_cell (i := 1) (v := .int .i64 (x3.toNat : Int)) he rfl
            have e2 := blk_cell (i := 2) (v := .slice (cutA A7 c7 4 1) (n7 - 4) (c7 - 4)) he rfl
            go_wp2
            refine bodyPost_ret (v := .tuple #[.agg #[.int .i64 (x2.toNat : Int), .int .i64 (x3.toNat : Int), .slice (cutA A7 c7 4 1) (n7 - 4) (c7 - 4)], .int .i64 (S : Int), .int .i64 0]) (by simp [results, go_sem, e0, e1, e2]) rfl ⟨_, _, _, rfl, ?_, st3_below hb7' (Nat.le_refl _) _ _ _⟩
            have hown8 := own_set (own_set (own_set hown7 (show w.heap.size < w6.heap.size from hltw) (i := 0) (.int .i64 (x2.toNat : Int))) hltw (i := 1) (.int .i64 (x3.toNat : Int))) hltw (i := 2) (.slice (cutA A7 c7 4 1) (n7 - 4) (c7 - 4))
            exact (Rd.own hown8).bdrop (by omega)

end Go.Proofs.Ytglfhdkknhdphaa
