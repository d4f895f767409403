/-
  The document's Take walked; the law FrameTakes walked.
-/
import Derived.Test.YtmkidihcdljkiaaGreatKTGFB
import Derived.Test.YtmkidihcdljkiaaGreatKTFrPut
import Derived.Test.YtmkidihcdljkiaaGreatKTGA
set_option linter.unusedSimpArgs false
set_option linter.unusedVariables false
namespace Go.Proofs.YtmkidihcdljkiaaGreat
open Go.RowKit NumLaw
attribute [local go_sem] Addr.add_mid

/-- What is told of six bytes and more, as the document reckons it. -/
theorem frTake_doc {x2 x3 x4 x5 : UInt8} {rest : List UInt8} (hN : x4.toNat + 256 * x5.toNat ≤ 1016) (hl : x4.toNat + 256 * x5.toNat + 2 ≤ rest.length) :
    putE (x2.toNat : Int) (x3.toNat : Int) (rest.take (x4.toNat + 256 * x5.toNat)).length = 0 ∧
    frTake (181 :: 98 :: x2 :: x3 :: x4 :: x5 :: rest) = if putB (x2.toNat : Int) (x3.toNat : Int) (rest.take (x4.toNat + 256 * x5.toNat)) = (181 :: 98 :: x2 :: x3 :: x4 :: x5 :: rest).take (x4.toNat + 256 * x5.toNat + 8) then ⟨x2.toNat, x3.toNat, rest.take (x4.toNat + 256 * x5.toNat), x4.toNat + 256 * x5.toNat + 8, 0⟩ else ⟨0, 0, [], 0, 4⟩ := by
  rw [frTake_six rfl rfl]
  have l2 := x2.toNat_lt
  have l3 := x3.toNat_lt
  have l4 := x4.toNat_lt
  have l5 := x5.toNat_lt
  obtain ⟨N, hNN⟩ : ∃ N, N = x4.toNat + 256 * x5.toNat := ⟨_, rfl⟩
  rw [← hNN] at hN hl ⊢
  have hpl : (rest.take N).length = N := by rw [List.length_take]; omega
  have hE : putE (x2.toNat : Int) (x3.toNat : Int) (rest.take N).length = 0 := by
    unfold putE
    rw [if_neg (by unfold anyNo noB; simp; omega), if_neg (by omega)]
  refine ⟨hE, ?_⟩
  rw [if_neg (by omega), if_neg (by omega)]
  have hbody : frBody x2.toNat x3.toNat (rest.take N) = x2 :: x3 :: x4 :: x5 :: rest.take N := by
    have e1 : bytesN 1 x2.toNat = [x2] := by show [UInt8.ofNat (x2.toNat % 256)] = _; rw [ofNat_toNat]
    have e2 : bytesN 1 x3.toNat = [x3] := by show [UInt8.ofNat (x3.toNat % 256)] = _; rw [ofNat_toNat]
    have e3 : bytesN 2 (rest.take N).length = [x4, x5] := by
      rw [hpl, hNN, bytesN_two]
      have a1 : (x4.toNat + 256 * x5.toNat) % 256 = x4.toNat % 256 := by omega
      have a2 : (x4.toNat + 256 * x5.toNat) / 256 % 256 = x5.toNat % 256 := by omega
      rw [a1, a2, ofNat_toNat, ofNat_toNat]
    unfold frBody
    rw [e1, e2, e3]
    rfl
  have hput : putB (x2.toNat : Int) (x3.toNat : Int) (rest.take N) = 181 :: 98 :: sealF (x2 :: x3 :: x4 :: x5 :: rest.take N) := by
    unfold putB
    rw [if_pos hE]
    unfold frB
    simp only [Int.toNat_natCast]
    rw [hbody]
    rfl
  have ht8 : (181 :: 98 :: x2 :: x3 :: x4 :: x5 :: rest).take (N + 8) = 181 :: 98 :: x2 :: x3 :: x4 :: x5 :: rest.take (N + 2) := rfl
  rw [hput, ht8]
  have hop : openF (x2 :: x3 :: x4 :: x5 :: rest.take (N + 2)) = if sealF (x2 :: x3 :: x4 :: x5 :: rest.take N) = x2 :: x3 :: x4 :: x5 :: rest.take (N + 2) then some (x2 :: x3 :: x4 :: x5 :: rest.take N) else none := by
    unfold openF
    have hlen : (x2 :: x3 :: x4 :: x5 :: rest.take (N + 2)).length = N + 6 := by simp; omega
    rw [if_neg (by omega), hlen, show N + 6 - 2 = N + 4 by omega]
    have : (x2 :: x3 :: x4 :: x5 :: rest.take (N + 2)).take (N + 4) = x2 :: x3 :: x4 :: x5 :: rest.take N := by
      show x2 :: x3 :: x4 :: x5 :: (rest.take (N + 2)).take N = _
      rw [List.take_take, Nat.min_eq_left (by omega)]
    rw [this]
  rw [hop]
  by_cases hs : sealF (x2 :: x3 :: x4 :: x5 :: rest.take N) = x2 :: x3 :: x4 :: x5 :: rest.take (N + 2)
  · rw [if_pos hs, if_pos (by rw [hs])]
    rfl
  · rw [if_neg hs, if_neg (fun h => hs (by injection h with _ h; injection h))]

theorem st3_aw (w : World) (g : Nat) (x y z : Value) : Aw (fun k => k = g) w (((w.setCell ⟨g, 0, none⟩ x).setCell ⟨g, 1, none⟩ y).setCell ⟨g, 2, none⟩ z) :=
  (((Aw.refl (fun k => k = g) w).set (p := ⟨g, 0, none⟩) _ rfl).set (p := ⟨g, 1, none⟩) _ rfl).set (p := ⟨g, 2, none⟩) _ rfl
set_option maxRecDepth 10000 in
set_option maxHeartbeats 4000000 in
theorem frqTake_six (g off n c B : Nat) (x0 x1 x2 x3 x4 x5 : UInt8) (rest : List UInt8) (w : World) (h : Rd w B 1 (some ⟨g, off, none⟩) n c (bv (x0 :: x1 :: x2 :: x3 :: x4 :: x5 :: rest))) (hB : B ≤ w.heap.size) (hn : n ≤ 1000000) (g0 : x0 = 181) (g1 : x1 = 98) :
    Calls Tryz.prog 39 #[.slice (some ⟨g, off, none⟩) n c] w (RetT w (frTake (x0 :: x1 :: x2 :: x3 :: x4 :: x5 :: rest))) := by
  have hll := h.blen
  have hle := h.le
  have hmx := h.max
  unfold maxLen at hmx
  have h6 : 6 ≤ n := by simp at hll; omega
  have hres : (w.alloc (.cells #[.int .i64 0, .int .i64 0, .slice none 0 0] 40)).heap[w.heap.size]? = some (.cells #[.int .i64 0, .int .i64 0, .slice none 0 0] 40) := heap_alloc_new w _
  have h0 : Below w.heap.size w (w.alloc (.cells #[.int .i64 0, .int .i64 0, .slice none 0 0] 40)) := (Below.refl _ _).alloc (Nat.le_refl _) _
  have hh := h.up (h0.mono hB)
  have hcell : ∀ k, k < n → ∃ ad x, some (⟨g, off, none⟩ : Addr) = some ad ∧ (x0 :: x1 :: x2 :: x3 :: x4 :: x5 :: rest)[k]? = some x ∧ (w.alloc (.cells #[.int .i64 0, .int .i64 0, .slice none 0 0] 40)).cell? (ad.add k) = some (.int .u8 (x.toNat : Int)) := fun k hk => hh.byte hk
  have hgt0 : (0 : Int) < (n : Int) := by omega
  have hgt1 : (1 : Int) < (n : Int) := by omega
  have g0' : (x0.toNat : Int) = 181 := by rw [g0]; rfl
  have g1' : (x1.toNat : Int) = 98 := by rw [g1]; rfl
  obtain ⟨T, hT⟩ : ∃ T, T = frTake (x0 :: x1 :: x2 :: x3 :: x4 :: x5 :: rest) := ⟨_, rfl⟩
  rw [← hT]
  have l2 := x2.toNat_lt
  have l3 := x3.toNat_lt
  have l4 := x4.toNat_lt
  have l5 := x5.toNat_lt
  have hgB : g < B := by
    obtain ⟨ad', e', hb, _⟩ := h.at_ (by omega)
    injection e' with e'
    subst e'
    exact hb
  have hgw : g < w.heap.size := Nat.lt_of_lt_of_le hgB hB
  have m2 : w.cell? ⟨g, off + 2, none⟩ = some (.int .u8 (x2.toNat : Int)) := by
    obtain ⟨ad', x', e, hx', hc⟩ := h.byte (k := 2) (by omega)
    injection e with e
    subst e
    injection hx' with hx'
    subst hx'
    rwa [Addr.add_mid] at hc
  have m3 : w.cell? ⟨g, off + 3, none⟩ = some (.int .u8 (x3.toNat : Int)) := by
    obtain ⟨ad', x', e, hx', hc⟩ := h.byte (k := 3) (by omega)
    injection e with e
    subst e
    injection hx' with hx'
    subst hx'
    rwa [Addr.add_mid] at hc
  have cellk : ∀ k x, (x0 :: x1 :: x2 :: x3 :: x4 :: x5 :: rest)[k]? = some x → k < n → (w.alloc (.cells #[.int .i64 0, .int .i64 0, .slice none 0 0] 40)).cell? ⟨g, off + k, none⟩ = some (.int .u8 (x.toNat : Int)) := fun k x hx hk => by
    obtain ⟨ad', x', e, hx', hc⟩ := hcell k hk
    injection e with e
    subst e
    rw [hx'] at hx
    injection hx with hx
    subst hx
    rwa [Addr.add_mid] at hc
  have k0 := cellk 0 x0 rfl (by omega)
  have k1 := cellk 1 x1 rfl (by omega)
  rw [Nat.add_zero] at k0
  have k2 := cellk 2 x2 rfl (by omega)
  have k3 := cellk 3 x3 rfl (by omega)
  have k4 := cellk 4 x4 rfl (by omega)
  have k5 := cellk 5 x5 rfl (by omega)
  obtain ⟨N, hN⟩ : ∃ N, N = x4.toNat + 256 * x5.toNat := ⟨_, rfl⟩
  have a2 : IntKind.i64.wrap (x2.toNat : Int) = (x2.toNat : Int) := by rw [IntKind.wrap_i64]; omega
  have a3 : IntKind.i64.wrap (x3.toNat : Int) = (x3.toNat : Int) := by rw [IntKind.wrap_i64]; omega
  have a4 : IntKind.i64.wrap (x4.toNat : Int) = (x4.toNat : Int) := by rw [IntKind.wrap_i64]; omega
  have a5 : IntKind.i64.wrap (x5.toNat : Int) = (x5.toNat : Int) := by rw [IntKind.wrap_i64]; omega
  have m5 : IntKind.i64.wrap (256 * (x5.toNat : Int)) = 256 * (x5.toNat : Int) := by rw [IntKind.wrap_i64]; omega
  have s5' : IntKind.i64.wrap ((x4.toNat : Int) + 256 * (x5.toNat : Int)) = (N : Int) := by rw [IntKind.wrap_i64]; omega
  have hN1 : N ≤ 65535 := by omega
  have hi2 : (2 : Int) < (n : Int) := by omega
  have hi3 : (3 : Int) < (n : Int) := by omega
  have hi4 : (4 : Int) < (n : Int) := by omega
  have hi5 : (5 : Int) < (n : Int) := by omega
  have hdoc := @frTake_doc x2 x3 x4 x5 rest
  rw [← hN] at hdoc
  have hT2 : 1016 < N → T = ⟨0, 0, [], 0, 7⟩ := fun h => by rw [hT, frTake_six g0 g1, ← hN, if_pos h]
  have hT3 : ¬ 1016 < N → n < N + 8 → T = ⟨0, 0, [], 0, 2⟩ := fun h h2 => by rw [hT, frTake_six g0 g1, ← hN, if_neg h, if_pos (by simp at hll; omega)]
  have hT4 : ¬ 1016 < N → ¬ n < N + 8 → putE (x2.toNat : Int) (x3.toNat : Int) (rest.take N).length = 0 ∧ T = if putB (x2.toNat : Int) (x3.toNat : Int) (rest.take N) = (x0 :: x1 :: x2 :: x3 :: x4 :: x5 :: rest).take (N + 8) then ⟨x2.toNat, x3.toNat, rest.take N, N + 8, 0⟩ else ⟨0, 0, [], 0, 4⟩ := fun h h2 => by
    have := hdoc (by omega) (by simp at hll; omega)
    rw [g0, g1] at hT ⊢
    rw [hT]
    exact this
  have HT2 := Lib.hid hT2
  have HT3 := Lib.hid hT3
  have HT4 := Lib.hid hT4
  have HN := Lib.hid hN
  clear hdoc hT2 hT3 hT4 hT hN hcell cellk
  go_enter Tryz.func39, Tryz.ntmps39
  go_wp2_with fail
  refine Ord.region_ (fun _ => True) true [36, 40] (by kernel_rfl) (by kernel_rfl) trivial ?_
  have hh1 := hh.drew
  have h01 := h0.drew
  replace hres : (w.alloc (.cells #[.int .i64 0, .int .i64 0, .slice none 0 0] 40)).drew.heap[w.heap.size]? = _ := hres
  replace k2 : (w.alloc (.cells #[.int .i64 0, .int .i64 0, .slice none 0 0] 40)).drew.cell? _ = _ := k2
  replace k3 : (w.alloc (.cells #[.int .i64 0, .int .i64 0, .slice none 0 0] 40)).drew.cell? _ = _ := k3
  replace k4 : (w.alloc (.cells #[.int .i64 0, .int .i64 0, .slice none 0 0] 40)).drew.cell? _ = _ := k4
  replace k5 : (w.alloc (.cells #[.int .i64 0, .int .i64 0, .slice none 0 0] 40)).drew.cell? _ = _ := k5
  clear k0 k1 hh h0
  generalize (w.alloc (.cells #[.int .i64 0, .int .i64 0, .slice none 0 0] 40)).drew = w1 at *
  repeat (first | (refine Ord.e_p (v := ?_) rfl (by rfl) ?_ ?_; rotate_left; · (intro w2; go_simp; try with_reducible rfl)) | (refine Ord.e_u (by rfl) ?_)); (try simp only [Act.put, List.setIfInBounds_toArray, List.set_cons_zero, List.set_cons_succ])
  refine Ord.e_load Tryz.underlying5 rfl k4 rfl (by rfl) (by rfl) ?_
  (try simp only [Act.put, List.setIfInBounds_toArray, List.set_cons_zero, List.set_cons_succ])
  repeat (first | (refine Ord.e_p (v := ?_) rfl (by rfl) ?_ ?_; rotate_left; · (intro w2; go_simp; try with_reducible rfl)) | (refine Ord.e_u (by rfl) ?_)); (try simp only [Act.put, List.setIfInBounds_toArray, List.set_cons_zero, List.set_cons_succ])
  refine Ord.e_load Tryz.underlying5 rfl k5 rfl (by rfl) (by rfl) ?_
  (try simp only [Act.put, List.setIfInBounds_toArray, List.set_cons_zero, List.set_cons_succ])
  repeat (first | (refine Ord.e_p (v := ?_) rfl (by rfl) ?_ ?_; rotate_left; · (intro w2; go_simp; try with_reducible rfl)) | (refine Ord.e_u (by rfl) ?_)); (try simp only [Act.put, List.setIfInBounds_toArray, List.set_cons_zero, List.set_cons_succ])
  refine Ord.e_nil ?_
  clear k4 k5 a4 a5 m5 s5'
  clear g0' g1' hgt0 hgt1 hi4 hi5
  by_cases hN7 : 1016 < N
  · obtain rfl := HT2.out hN7
    obtain ⟨s1, s2, s3, s4, s5, s6, he, hs⟩ := st3 hres (.int .i64 0) (.int .i64 0) (.slice none 0 0)
    have e0 := blk_cell (i := 0) (v := .int .i64 0) he rfl
    have e1 := blk_cell (i := 1) (v := .int .i64 0) he rfl
    have e2 := blk_cell (i := 2) (v := .slice none 0 0) he rfl
    go_wp2
    refine bodyPost_ret (v := .tuple #[.agg #[.int .i64 0, .int .i64 0, .slice none 0 0], .int .i64 0, .int .i64 7]) (by simp [results, go_sem, e0, e1, e2]) rfl ⟨none, 0, 0, rfl, Rd.none_ _ _ _, st3_below h01 (Nat.le_refl _) _ _ _⟩
  · by_cases hS : n < N + 8
    · obtain rfl := HT3.out hN7 hS
      obtain ⟨s1, s2, s3, s4, s5, s6, he, hs⟩ := st3 hres (.int .i64 0) (.int .i64 0) (.slice none 0 0)
      have e0 := blk_cell (i := 0) (v := .int .i64 0) he rfl
      have e1 := blk_cell (i := 1) (v := .int .i64 0) he rfl
      have e2 := blk_cell (i := 2) (v := .slice none 0 0) he rfl
      go_wp2
      refine bodyPost_ret (v := .tuple #[.agg #[.int .i64 0, .int .i64 0, .slice none 0 0], .int .i64 0, .int .i64 2]) (by simp [results, go_sem, e0, e1, e2]) rfl ⟨none, 0, 0, rfl, Rd.none_ _ _ _, st3_below h01 (Nat.le_refl _) _ _ _⟩
    · have w6 : IntKind.i64.wrap ((N : Int) + 6) = (N : Int) + 6 := by rw [IntKind.wrap_i64]; omega
      obtain ⟨i0, hi⟩ := info_parts u8_info
      have Hi := Lib.hid hi
      have hrun6 : ∀ w, (Instr.slice 38 (.slice (some ⟨g, off, none⟩) n c) (some (.int .i64 6)) (some (.int .i64 ((N : Int) + 6))) none).run Tryz.prog w = .ok (.slice (cutA (some ⟨g, off, none⟩) c 6 1) N (c - 6)) w := fun w => by
        have := run_cut_lh (P := Tryz.prog) Tryz.underlying38 hi.1 hi.2.2.1 (some ⟨g, off, none⟩) n c 6 (N + 6) (by omega) (by omega) w
        rw [show ((N + 6 : Nat) : Int) = (N : Int) + 6 by omega, Nat.add_sub_cancel] at this
        exact this
      have hrd6 : Rd w1 B 1 (cutA (some ⟨g, off, none⟩) c 6 1) N (c - 6) (bv (rest.take N)) := by
        have := (hh1.btake (k := N + 6) (by omega)).bdrop (k := 6) (by omega)
        rw [Nat.add_sub_cancel] at this
        exact this
      obtain ⟨q1, q2⟩ := HT4.out hN7 hS
      have HQ2 := Lib.hid q2
      clear q2 hi HT2 HT3 HT4
      go_wp2_with fail
      refine Ord.region_m [8, 13, 15, 16] [[0, 1, 2, 3, 4, 5, 6, 7, 8, 9, 10, 11, 12, 13, 14, 15, 16], [0, 1, 2, 3, 4, 5, 6, 7, 8, 9, 10, 11, 12, 15, 13, 14, 16], [0, 1, 2, 3, 4, 5, 6, 7, 15, 8, 9, 10, 11, 12, 13, 14, 16]] (fun w' => Below w.heap.size w w') false [] (by kernel_rfl) (by kernel_rfl) h01.drew ?_
      replace h01 := h01.drew
      have hrw2 : w1.drew.heap[w.heap.size]? = _ := hres
      have hrd : Rd w B 1 (cutA (some ⟨g, off, none⟩) c 6 1) N (c - 6) (bv (rest.take N)) := by
        have := (h.btake (k := N + 6) (by omega)).bdrop (k := 6) (by omega)
        rw [Nat.add_sub_cancel] at this
        exact this
      clear hres hh1 hrd6
      generalize w1.drew = w2 at *
      have hlw2 : w.heap.size < w2.heap.size := blk_lt hrw2
      intro L hL
      simp only [List.mem_cons, List.not_mem_nil, or_false] at hL
      rcases hL with rfl | rfl | rfl
      · simp only [Ord.lst, List.filterMap_cons, List.filterMap_nil, List.getElem?_toArray, List.getElem?_cons_succ, List.getElem?_cons_zero]
        repeat (first | (refine Ord.e_p (v := ?_) rfl (by rfl) ?_ ?_; rotate_left; · (intro w2; go_simp; try with_reducible rfl)) | (refine Ord.e_u (by rfl) ?_)); (try simp only [Act.put, List.setIfInBounds_toArray, List.set_cons_zero, List.set_cons_succ])
        refine Ord.e_loadS Tryz.underlying5 rfl (fun w' hS => ((show Below _ w w' from hS).cell (p := ⟨g, off + 2, none⟩) hgw).trans m2) h01 rfl (by rfl) ?_
        (try simp only [Act.put, List.setIfInBounds_toArray, List.set_cons_zero, List.set_cons_succ])
        repeat (first | (refine Ord.e_p (v := ?_) rfl (by rfl) ?_ ?_; rotate_left; · (intro w2; go_simp; try with_reducible rfl)) | (refine Ord.e_u (by rfl) ?_)); (try simp only [Act.put, List.setIfInBounds_toArray, List.set_cons_zero, List.set_cons_succ])
        refine Ord.e_loadS Tryz.underlying5 rfl (fun w' hS => ((show Below _ w w' from hS).cell (p := ⟨g, off + 3, none⟩) hgw).trans m3) h01 rfl (by rfl) ?_
        (try simp only [Act.put, List.setIfInBounds_toArray, List.set_cons_zero, List.set_cons_succ])
        repeat (first | (refine Ord.e_p (v := ?_) rfl (by rfl) ?_ ?_; rotate_left; · (intro w2; go_simp; try with_reducible rfl)) | (refine Ord.e_u (by rfl) ?_)); (try simp only [Act.put, List.setIfInBounds_toArray, List.set_cons_zero, List.set_cons_succ])
        refine Ord.e_x rfl (by rfl) ?_
        go_wp2
        have hszv3 : (w2.alloc (.cells #[] 5)).heap.size ≤ w2.heap.size + 1 := Nat.le_of_eq (World.size_alloc _ _)
        have hsyv3 : w2.heap.size + 1 ≤ (w2.alloc (.cells #[] 5)).heap.size := Nat.le_of_eq (World.size_alloc _ _).symm
        have hlew2 : w.heap.size ≤ w2.heap.size := Below.size h01
        have hbv3 := Below.alloc h01 (Below.size h01) (.cells #[] 5)
        have hownv3 : (w2.alloc (.cells #[] 5)).ownsRow w.heap.size 5 1 (.slice (some ⟨w2.heap.size, 0, none⟩) 0 0) 0 [] := own_empty w2 _ _ (Below.size h01) 1
        have hrv3 := (heap_alloc_old w2 (.cells #[] 5) (blk_lt hrw2)).trans hrw2
        refine Ord.Seg.go hbv3 (fun h => by cases h) ?_
        (try simp only [Act.put, List.setIfInBounds_toArray, List.set_cons_zero, List.set_cons_succ])
        generalize (w2.alloc (.cells #[] 5)) = v3 at *
        repeat (first | (refine Ord.e_p (v := ?_) rfl (by rfl) ?_ ?_; rotate_left; · (intro w2; go_simp; try with_reducible rfl)) | (refine Ord.e_u (by rfl) ?_)); (try simp only [Act.put, List.setIfInBounds_toArray, List.set_cons_zero, List.set_cons_succ])
        refine Ord.e_x rfl (by rfl) ?_
        refine wpList_appG Tryz.underlying38 Hi.out rfl (by omega) hownv3 rfl (hrd.up (Below.mono hbv3 hB)) rfl (bv_one _) (k := N) (by omega) (List.nil_append _) (by unfold maxLen; omega) (by omega) (Below.size hbv3) ?_
        intro A4 c4 v4 hownv4 hgr hob
        replace hgr : World.grownBy v3 v4 (some w2.heap.size) := hgr
        replace hob : (Value.slice A4 N c4).ownBlock = some w2.heap.size ∨ (Value.slice A4 N c4).ownBlock = some v3.heap.size := hob
        have hbv4 := Below.grown hbv3 hgr (Below.size hbv3) (fun k hk => by injection hk with hk; omega)
        have hrv4 := (hgr.block _ (blk_lt hrv3) (by intro e; injection e with e; omega)).trans hrv3
        have hob2 : ∀ k, (Value.slice A4 N c4).ownBlock = some k → (k = w2.heap.size ∨ k = v3.heap.size) ∧ k < v4.heap.size := fun k hk => ⟨by rcases hob with h | h <;> (rw [h] at hk; injection hk with hk; omega), (own_blk hownv4 hk).2⟩
        have hszg := hgr.size
        clear hgr hob
        go_wp2_with fail
        refine Ord.Seg.go hbv4 (fun h => by cases h) ?_
        (try simp only [Act.put, List.setIfInBounds_toArray, List.set_cons_zero, List.set_cons_succ])
        repeat (first | (refine Ord.e_p (v := ?_) rfl (by rfl) ?_ ?_; rotate_left; · (intro w2; go_simp; try with_reducible rfl)) | (refine Ord.e_u (by rfl) ?_)); (try simp only [Act.put, List.setIfInBounds_toArray, List.set_cons_zero, List.set_cons_succ])
        refine Ord.e_x rfl (by rfl) ?_
        go_wp2
        have hszv5 : (v4.alloc (.cells #[.int .i64 0, .int .i64 0, .slice none 0 0] 40)).heap.size ≤ v4.heap.size + 1 := Nat.le_of_eq (World.size_alloc _ _)
        have hsyv5 : v4.heap.size + 1 ≤ (v4.alloc (.cells #[.int .i64 0, .int .i64 0, .slice none 0 0] 40)).heap.size := Nat.le_of_eq (World.size_alloc _ _).symm
        have hlev4 : w.heap.size ≤ v4.heap.size := Below.size hbv4
        have hbv5 := Below.alloc hbv4 (Below.size hbv4) (.cells #[.int .i64 0, .int .i64 0, .slice none 0 0] 40)
        have hfv5 := heap_alloc_new v4 (.cells #[.int .i64 0, .int .i64 0, .slice none 0 0] 40)
        have hne : w.heap.size < v4.heap.size := blk_lt hrv4
        have hownv5 := own_up hownv4 ((Below.refl _ _).alloc (Nat.le_refl _) (.cells #[.int .i64 0, .int .i64 0, .slice none 0 0] 40)) (Nat.le_refl _)
        have hrv5 := (heap_alloc_old v4 (.cells #[.int .i64 0, .int .i64 0, .slice none 0 0] 40) (blk_lt hrv4)).trans hrv4
        refine Ord.Seg.go hbv5 (fun h => by cases h) ?_
        (try simp only [Act.put, List.setIfInBounds_toArray, List.set_cons_zero, List.set_cons_succ])
        generalize (v4.alloc (.cells #[.int .i64 0, .int .i64 0, .slice none 0 0] 40)) = v5 at *
        repeat (first | (refine Ord.e_p (v := ?_) rfl (by rfl) ?_ ?_; rotate_left; · (intro w2; go_simp; try with_reducible rfl)) | (refine Ord.e_u (by rfl) ?_)); (try simp only [Act.put, List.setIfInBounds_toArray, List.set_cons_zero, List.set_cons_succ])
        refine Ord.e_x rfl (by rfl) ?_
        have hle9 : w.heap.size ≤ v4.heap.size := by omega
        obtain ⟨s1, s2, s3, s4, s5, s6, he, hs⟩ := st3 hfv5 (.int .i64 (x2.toNat : Int)) (.int .i64 (x3.toNat : Int)) (.slice A4 N c4)
        go_wp2
        have hbz := st3_below hbv5 hle9 (.int .i64 (x2.toNat : Int)) (.int .i64 (x3.toNat : Int)) (.slice A4 N c4)
        have hownz := own_aw hownv5 (st3_aw v5 v4.heap.size (.int .i64 (x2.toNat : Int)) (.int .i64 (x3.toNat : Int)) (.slice A4 N c4)) (fun k hk hu => by have := hob2 k hk; omega)
        have hrz := (st3_aw v5 v4.heap.size (.int .i64 (x2.toNat : Int)) (.int .i64 (x3.toNat : Int)) (.slice A4 N c4)).keep hrv5 (by omega)
        refine Ord.Seg.go hbz (fun h => by cases h) ?_
        (try simp only [Act.put, List.setIfInBounds_toArray, List.set_cons_zero, List.set_cons_succ])
        clear s1 s2 s3 s4 s5 s6 hs
        obtain ⟨gf, hgf⟩ : ∃ gf, gf = v4.heap.size := ⟨_, rfl⟩
        rw [← hgf] at he hbz hownz hrz ⊢
        have hgf1 : gf ≤ v4.heap.size := Nat.le_of_eq hgf
        have hgf2 : v4.heap.size ≤ gf := Nat.le_of_eq hgf.symm
        clear hgf
        generalize (((v5.setCell ⟨gf, 0, none⟩ (.int .i64 (x2.toNat : Int))).setCell ⟨gf, 1, none⟩ (.int .i64 (x3.toNat : Int))).setCell ⟨gf, 2, none⟩ (.slice A4 N c4)) = wz at *
        repeat (first | (refine Ord.e_p (v := ?_) rfl (by rfl) ?_ ?_; rotate_left; · (intro w2; go_simp; try with_reducible rfl)) | (refine Ord.e_u (by rfl) ?_)); (try simp only [Act.put, List.setIfInBounds_toArray, List.set_cons_zero, List.set_cons_succ])
        refine Ord.e_nil ?_
        have hgn : w.heap.size < gf := by omega
        have hrdz := Rd.own hownz
        have c0 := blk_cell (i := 0) (v := .int .i64 (x2.toNat : Int)) he rfl
        have c1 := blk_cell (i := 1) (v := .int .i64 (x3.toNat : Int)) he rfl
        have c2 := blk_cell (i := 2) (v := .slice A4 N c4) he rfl
        have hput := frqPut_any (x2.toNat : Int) (x3.toNat : Int) A4 N c4 wz.heap.size (rest.take N) wz hrdz (Nat.le_refl _)
        rw [q1] at hput
        go_wp2_with fail
        go_fit hput
        rintro e wp ⟨Ap, np, cp, rfl, hownp, hbp⟩
        have hep := blk_old he hbp (blk_lt he)
        have hrp := blk_old hrz hbp (blk_lt hrz)
        have hownq := (own_up hownz hbp (Nat.le_refl _)).drew
        have hbwp := (bnx hbz hbp).drew
        clear c0 c1 c2 hput he hrz hrdz hbz hownz
        have w8 : IntKind.i64.wrap ((N : Int) + 8) = (N : Int) + 8 := by rw [IntKind.wrap_i64]; omega
        have hrun8 : ∀ w, (Instr.slice 38 (.slice (some ⟨g, off, none⟩) n c) none (some (.int .i64 ((N : Int) + 8))) none).run Tryz.prog w = .ok (.slice (some ⟨g, off, none⟩) (N + 8) c) w := fun w => by
          have := run_cut_h (P := Tryz.prog) Tryz.underlying38 Hi.out.1 (some ⟨g, off, none⟩) n c (N + 8) (by omega) w
          rw [show ((N + 8 : Nat) : Int) = (N : Int) + 8 by omega] at this
          exact this
        have hrd8 := ((h.up (hbwp.mono hB)).btake (k := N + 8) (by omega)).more (B' := wp.drew.heap.size) (Nat.le_trans hB hbwp.size)
        have hownp8 := (Rd.own hownp).drew
        go_wp2_with fail
        refine Ord.region_ (fun _ => True) true [74, 79] (by kernel_rfl) (by kernel_rfl) trivial ?_
        replace hep : wp.drew.heap[gf]? = _ := hep
        replace hrp : wp.drew.heap[w.heap.size]? = _ := hrp
        replace hownq : wp.drew.ownsRow _ _ _ _ _ _ := hownq
        replace hownp8 : Rd wp.drew wp.drew.heap.size 1 _ _ _ _ := hownp8
        generalize wp.drew = wq at *
        generalize (x0 :: x1 :: x2 :: x3 :: x4 :: x5 :: rest).take (N + 8) = lt at *
        generalize putB (x2.toNat : Int) (x3.toNat : Int) (rest.take N) = lp at *
        repeat (first | (refine Ord.e_p (v := ?_) rfl (by rfl) ?_ ?_; rotate_left; · (intro w2; go_simp; try with_reducible rfl)) | (refine Ord.e_u (by rfl) ?_)); (try simp only [Act.put, List.setIfInBounds_toArray, List.set_cons_zero, List.set_cons_succ])
        refine Ord.e_str Tryz.underlying38 Tryz.underlying5 Tryz.underlying9 hownp8 rfl (by rfl) (by rfl) ?_
        (try simp only [Act.put, List.setIfInBounds_toArray, List.set_cons_zero, List.set_cons_succ])
        repeat (first | (refine Ord.e_p (v := ?_) rfl (by rfl) ?_ ?_; rotate_left; · (intro w2; go_simp; try with_reducible rfl)) | (refine Ord.e_u (by rfl) ?_)); (try simp only [Act.put, List.setIfInBounds_toArray, List.set_cons_zero, List.set_cons_succ])
        refine Ord.e_str Tryz.underlying38 Tryz.underlying5 Tryz.underlying9 hrd8 rfl (by rfl) (by rfl) ?_
        (try simp only [Act.put, List.setIfInBounds_toArray, List.set_cons_zero, List.set_cons_succ])
        obtain ⟨bq, hbq⟩ : ∃ bq : Bool, bq = !decide (lp = lt) := ⟨_, rfl⟩
        have HBQ := Lib.hid hbq
        clear hbq
        refine Ord.e_p (v := .bool bq) rfl (by rfl) (fun w2 => ?_) ?_
        · have hq := HBQ.out
          clear HBQ
          go_simp
          by_cases hh : lp = lt <;> simp [hh]
        (try simp only [Act.put, List.setIfInBounds_toArray, List.set_cons_zero, List.set_cons_succ])
        refine Ord.e_nil ?_
        clear hownp8 hrd8 hrun8 w8
        cases bq with
        | false =>
          have hlp : lp = lt := by have := HBQ.out; simpa using this
          obtain rfl : T = ⟨x2.toNat, x3.toNat, rest.take N, N + 8, 0⟩ := by rw [HQ2.out, if_pos hlp]
          clear hlp
          have c0 := blk_cell (i := 0) (v := .int .i64 (x2.toNat : Int)) hep rfl
          have c1 := blk_cell (i := 1) (v := .int .i64 (x3.toNat : Int)) hep rfl
          have c2 := blk_cell (i := 2) (v := .slice A4 N c4) hep rfl
          obtain ⟨s1, s2, s3, s4, s5, s6, he, hs⟩ := st3 hrp (.int .i64 (x2.toNat : Int)) (.int .i64 (x3.toNat : Int)) (.slice A4 N c4)
          have e0 := blk_cell (i := 0) (v := .int .i64 (x2.toNat : Int)) he rfl
          have e1 := blk_cell (i := 1) (v := .int .i64 (x3.toNat : Int)) he rfl
          have e2 := blk_cell (i := 2) (v := .slice A4 N c4) he rfl
          have hownr := own_aw hownq (st3_aw wq w.heap.size (.int .i64 (x2.toNat : Int)) (.int .i64 (x3.toNat : Int)) (.slice A4 N c4)) (fun k hk hu => by have := hob2 k hk; omega)
          go_wp2
          refine bodyPost_ret (v := .tuple #[.agg #[.int .i64 (x2.toNat : Int), .int .i64 (x3.toNat : Int), .slice A4 N c4], .int .i64 ((N : Int) + 8), .int .i64 0]) (by simp [results, go_sem, e0, e1, e2]) rfl ⟨A4, N, c4, rfl, ?_, st3_below hbwp (Nat.le_refl _) _ _ _⟩
          exact Rd.own hownr
        | true =>
          have hlp : ¬ lp = lt := by have := HBQ.out; simpa using this
          obtain rfl : T = ⟨0, 0, [], 0, 4⟩ := by rw [HQ2.out, if_neg hlp]
          obtain ⟨s1, s2, s3, s4, s5, s6, he, hs⟩ := st3 hrp (.int .i64 0) (.int .i64 0) (.slice none 0 0)
          have e0 := blk_cell (i := 0) (v := .int .i64 0) he rfl
          have e1 := blk_cell (i := 1) (v := .int .i64 0) he rfl
          have e2 := blk_cell (i := 2) (v := .slice none 0 0) he rfl
          go_wp2
          refine bodyPost_ret (v := .tuple #[.agg #[.int .i64 0, .int .i64 0, .slice none 0 0], .int .i64 0, .int .i64 4]) (by simp [results, go_sem, e0, e1, e2]) rfl ⟨none, 0, 0, rfl, Rd.none_ _ _ _, st3_below hbwp (Nat.le_refl _) _ _ _⟩
      · simp only [Ord.lst, List.filterMap_cons, List.filterMap_nil, List.getElem?_toArray, List.getElem?_cons_succ, List.getElem?_cons_zero]
        repeat (first | (refine Ord.e_p (v := ?_) rfl (by rfl) ?_ ?_; rotate_left; · (intro w2; go_simp; try with_reducible rfl)) | (refine Ord.e_u (by rfl) ?_)); (try simp only [Act.put, List.setIfInBounds_toArray, List.set_cons_zero, List.set_cons_succ])
        refine Ord.e_loadS Tryz.underlying5 rfl (fun w' hS => ((show Below _ w w' from hS).cell (p := ⟨g, off + 2, none⟩) hgw).trans m2) h01 rfl (by rfl) ?_
        (try simp only [Act.put, List.setIfInBounds_toArray, List.set_cons_zero, List.set_cons_succ])
        repeat (first | (refine Ord.e_p (v := ?_) rfl (by rfl) ?_ ?_; rotate_left; · (intro w2; go_simp; try with_reducible rfl)) | (refine Ord.e_u (by rfl) ?_)); (try simp only [Act.put, List.setIfInBounds_toArray, List.set_cons_zero, List.set_cons_succ])
        refine Ord.e_loadS Tryz.underlying5 rfl (fun w' hS => ((show Below _ w w' from hS).cell (p := ⟨g, off + 3, none⟩) hgw).trans m3) h01 rfl (by rfl) ?_
        (try simp only [Act.put, List.setIfInBounds_toArray, List.set_cons_zero, List.set_cons_succ])
        repeat (first | (refine Ord.e_p (v := ?_) rfl (by rfl) ?_ ?_; rotate_left; · (intro w2; go_simp; try with_reducible rfl)) | (refine Ord.e_u (by rfl) ?_)); (try simp only [Act.put, List.setIfInBounds_toArray, List.set_cons_zero, List.set_cons_succ])
        refine Ord.e_x rfl (by rfl) ?_
        go_wp2
        have hszv3 : (w2.alloc (.cells #[] 5)).heap.size ≤ w2.heap.size + 1 := Nat.le_of_eq (World.size_alloc _ _)
        have hsyv3 : w2.heap.size + 1 ≤ (w2.alloc (.cells #[] 5)).heap.size := Nat.le_of_eq (World.size_alloc _ _).symm
        have hlew2 : w.heap.size ≤ w2.heap.size := Below.size h01
        have hbv3 := Below.alloc h01 (Below.size h01) (.cells #[] 5)
        have hownv3 : (w2.alloc (.cells #[] 5)).ownsRow w.heap.size 5 1 (.slice (some ⟨w2.heap.size, 0, none⟩) 0 0) 0 [] := own_empty w2 _ _ (Below.size h01) 1
        have hrv3 := (heap_alloc_old w2 (.cells #[] 5) (blk_lt hrw2)).trans hrw2
        refine Ord.Seg.go hbv3 (fun h => by cases h) ?_
        (try simp only [Act.put, List.setIfInBounds_toArray, List.set_cons_zero, List.set_cons_succ])
        generalize (w2.alloc (.cells #[] 5)) = v3 at *
        repeat (first | (refine Ord.e_p (v := ?_) rfl (by rfl) ?_ ?_; rotate_left; · (intro w2; go_simp; try with_reducible rfl)) | (refine Ord.e_u (by rfl) ?_)); (try simp only [Act.put, List.setIfInBounds_toArray, List.set_cons_zero, List.set_cons_succ])
        refine Ord.e_x rfl (by rfl) ?_
        go_wp2
        have hszv4 : (v3.alloc (.cells #[.int .i64 0, .int .i64 0, .slice none 0 0] 40)).heap.size ≤ v3.heap.size + 1 := Nat.le_of_eq (World.size_alloc _ _)
        have hsyv4 : v3.heap.size + 1 ≤ (v3.alloc (.cells #[.int .i64 0, .int .i64 0, .slice none 0 0] 40)).heap.size := Nat.le_of_eq (World.size_alloc _ _).symm
        have hlev3 : w.heap.size ≤ v3.heap.size := Below.size hbv3
        have hbv4 := Below.alloc hbv3 (Below.size hbv3) (.cells #[.int .i64 0, .int .i64 0, .slice none 0 0] 40)
        have hfv4 := heap_alloc_new v3 (.cells #[.int .i64 0, .int .i64 0, .slice none 0 0] 40)
        have hne : w.heap.size < v3.heap.size := blk_lt hrv3
        have hownv4 := own_up hownv3 ((Below.refl _ _).alloc (Nat.le_refl _) (.cells #[.int .i64 0, .int .i64 0, .slice none 0 0] 40)) (Nat.le_refl _)
        have hrv4 := (heap_alloc_old v3 (.cells #[.int .i64 0, .int .i64 0, .slice none 0 0] 40) (blk_lt hrv3)).trans hrv3
        refine Ord.Seg.go hbv4 (fun h => by cases h) ?_
        (try simp only [Act.put, List.setIfInBounds_toArray, List.set_cons_zero, List.set_cons_succ])
        generalize (v3.alloc (.cells #[.int .i64 0, .int .i64 0, .slice none 0 0] 40)) = v4 at *
        repeat (first | (refine Ord.e_p (v := ?_) rfl (by rfl) ?_ ?_; rotate_left; · (intro w2; go_simp; try with_reducible rfl)) | (refine Ord.e_u (by rfl) ?_)); (try simp only [Act.put, List.setIfInBounds_toArray, List.set_cons_zero, List.set_cons_succ])
        refine Ord.e_x rfl (by rfl) ?_
        refine wpList_appG Tryz.underlying38 Hi.out rfl (by omega) hownv4 rfl (hrd.up (Below.mono hbv4 hB)) rfl (bv_one _) (k := N) (by omega) (List.nil_append _) (by unfold maxLen; omega) (by omega) (Below.size hbv4) ?_
        intro A4 c4 v5 hownv5 hgr hob
        replace hgr : World.grownBy v4 v5 (some w2.heap.size) := hgr
        replace hob : (Value.slice A4 N c4).ownBlock = some w2.heap.size ∨ (Value.slice A4 N c4).ownBlock = some v4.heap.size := hob
        have hbv5 := Below.grown hbv4 hgr (Below.size hbv4) (fun k hk => by injection hk with hk; omega)
        have hrv5 := (hgr.block _ (blk_lt hrv4) (by intro e; injection e with e; omega)).trans hrv4
        have hfv5 := (hgr.block _ (blk_lt hfv4) (by intro e; injection e with e; omega)).trans hfv4
        have hob2 : ∀ k, (Value.slice A4 N c4).ownBlock = some k → (k = w2.heap.size ∨ k = v4.heap.size) ∧ k < v5.heap.size := fun k hk => ⟨by rcases hob with h | h <;> (rw [h] at hk; injection hk with hk; omega), (own_blk hownv5 hk).2⟩
        have hszg := hgr.size
        clear hgr hob
        go_wp2_with fail
        refine Ord.Seg.go hbv5 (fun h => by cases h) ?_
        (try simp only [Act.put, List.setIfInBounds_toArray, List.set_cons_zero, List.set_cons_succ])
        repeat (first | (refine Ord.e_p (v := ?_) rfl (by rfl) ?_ ?_; rotate_left; · (intro w2; go_simp; try with_reducible rfl)) | (refine Ord.e_u (by rfl) ?_)); (try simp only [Act.put, List.setIfInBounds_toArray, List.set_cons_zero, List.set_cons_succ])
        refine Ord.e_x rfl (by rfl) ?_
        have hle9 : w.heap.size ≤ v3.heap.size := by omega
        obtain ⟨s1, s2, s3, s4, s5, s6, he, hs⟩ := st3 hfv5 (.int .i64 (x2.toNat : Int)) (.int .i64 (x3.toNat : Int)) (.slice A4 N c4)
        go_wp2
        have hbz := st3_below hbv5 hle9 (.int .i64 (x2.toNat : Int)) (.int .i64 (x3.toNat : Int)) (.slice A4 N c4)
        have hownz := own_aw hownv5 (st3_aw v5 v3.heap.size (.int .i64 (x2.toNat : Int)) (.int .i64 (x3.toNat : Int)) (.slice A4 N c4)) (fun k hk hu => by have := hob2 k hk; omega)
        have hrz := (st3_aw v5 v3.heap.size (.int .i64 (x2.toNat : Int)) (.int .i64 (x3.toNat : Int)) (.slice A4 N c4)).keep hrv5 (by omega)
        refine Ord.Seg.go hbz (fun h => by cases h) ?_
        (try simp only [Act.put, List.setIfInBounds_toArray, List.set_cons_zero, List.set_cons_succ])
        clear s1 s2 s3 s4 s5 s6 hs
        obtain ⟨gf, hgf⟩ : ∃ gf, gf = v3.heap.size := ⟨_, rfl⟩
        rw [← hgf] at he hbz hownz hrz ⊢
        have hgf1 : gf ≤ v3.heap.size := Nat.le_of_eq hgf
        have hgf2 : v3.heap.size ≤ gf := Nat.le_of_eq hgf.symm
        clear hgf
        generalize (((v5.setCell ⟨gf, 0, none⟩ (.int .i64 (x2.toNat : Int))).setCell ⟨gf, 1, none⟩ (.int .i64 (x3.toNat : Int))).setCell ⟨gf, 2, none⟩ (.slice A4 N c4)) = wz at *
        repeat (first | (refine Ord.e_p (v := ?_) rfl (by rfl) ?_ ?_; rotate_left; · (intro w2; go_simp; try with_reducible rfl)) | (refine Ord.e_u (by rfl) ?_)); (try simp only [Act.put, List.setIfInBounds_toArray, List.set_cons_zero, List.set_cons_succ])
        refine Ord.e_nil ?_
        have hgn : w.heap.size < gf := by omega
        have hrdz := Rd.own hownz
        have c0 := blk_cell (i := 0) (v := .int .i64 (x2.toNat : Int)) he rfl
        have c1 := blk_cell (i := 1) (v := .int .i64 (x3.toNat : Int)) he rfl
        have c2 := blk_cell (i := 2) (v := .slice A4 N c4) he rfl
        have hput := frqPut_any (x2.toNat : Int) (x3.toNat : Int) A4 N c4 wz.heap.size (rest.take N) wz hrdz (Nat.le_refl _)
        rw [q1] at hput
        go_wp2_with fail
        go_fit hput
        rintro e wp ⟨Ap, np, cp, rfl, hownp, hbp⟩
        have hep := blk_old he hbp (blk_lt he)
        have hrp := blk_old hrz hbp (blk_lt hrz)
        have hownq := (own_up hownz hbp (Nat.le_refl _)).drew
        have hbwp := (bnx hbz hbp).drew
        clear c0 c1 c2 hput he hrz hrdz hbz hownz
        have w8 : IntKind.i64.wrap ((N : Int) + 8) = (N : Int) + 8 := by rw [IntKind.wrap_i64]; omega
        have hrun8 : ∀ w, (Instr.slice 38 (.slice (some ⟨g, off, none⟩) n c) none (some (.int .i64 ((N : Int) + 8))) none).run Tryz.prog w = .ok (.slice (some ⟨g, off, none⟩) (N + 8) c) w := fun w => by
          have := run_cut_h (P := Tryz.prog) Tryz.underlying38 Hi.out.1 (some ⟨g, off, none⟩) n c (N + 8) (by omega) w
          rw [show ((N + 8 : Nat) : Int) = (N : Int) + 8 by omega] at this
          exact this
        have hrd8 := ((h.up (hbwp.mono hB)).btake (k := N + 8) (by omega)).more (B' := wp.drew.heap.size) (Nat.le_trans hB hbwp.size)
        have hownp8 := (Rd.own hownp).drew
        go_wp2_with fail
        refine Ord.region_ (fun _ => True) true [74, 79] (by kernel_rfl) (by kernel_rfl) trivial ?_
        replace hep : wp.drew.heap[gf]? = _ := hep
        replace hrp : wp.drew.heap[w.heap.size]? = _ := hrp
        replace hownq : wp.drew.ownsRow _ _ _ _ _ _ := hownq
        replace hownp8 : Rd wp.drew wp.drew.heap.size 1 _ _ _ _ := hownp8
        generalize wp.drew = wq at *
        generalize (x0 :: x1 :: x2 :: x3 :: x4 :: x5 :: rest).take (N + 8) = lt at *
        generalize putB (x2.toNat : Int) (x3.toNat : Int) (rest.take N) = lp at *
        repeat (first | (refine Ord.e_p (v := ?_) rfl (by rfl) ?_ ?_; rotate_left; · (intro w2; go_simp; try with_reducible rfl)) | (refine Ord.e_u (by rfl) ?_)); (try simp only [Act.put, List.setIfInBounds_toArray, List.set_cons_zero, List.set_cons_succ])
        refine Ord.e_str Tryz.underlying38 Tryz.underlying5 Tryz.underlying9 hownp8 rfl (by rfl) (by rfl) ?_
        (try simp only [Act.put, List.setIfInBounds_toArray, List.set_cons_zero, List.set_cons_succ])
        repeat (first | (refine Ord.e_p (v := ?_) rfl (by rfl) ?_ ?_; rotate_left; · (intro w2; go_simp; try with_reducible rfl)) | (refine Ord.e_u (by rfl) ?_)); (try simp only [Act.put, List.setIfInBounds_toArray, List.set_cons_zero, List.set_cons_succ])
        refine Ord.e_str Tryz.underlying38 Tryz.underlying5 Tryz.underlying9 hrd8 rfl (by rfl) (by rfl) ?_
        (try simp only [Act.put, List.setIfInBounds_toArray, List.set_cons_zero, List.set_cons_succ])
        obtain ⟨bq, hbq⟩ : ∃ bq : Bool, bq = !decide (lp = lt) := ⟨_, rfl⟩
        have HBQ := Lib.hid hbq
        clear hbq
        refine Ord.e_p (v := .bool bq) rfl (by rfl) (fun w2 => ?_) ?_
        · have hq := HBQ.out
          clear HBQ
          go_simp
          by_cases hh : lp = lt <;> simp [hh]
        (try simp only [Act.put, List.setIfInBounds_toArray, List.set_cons_zero, List.set_cons_succ])
        refine Ord.e_nil ?_
        clear hownp8 hrd8 hrun8 w8
        cases bq with
        | false =>
          have hlp : lp = lt := by have := HBQ.out; simpa using this
          obtain rfl : T = ⟨x2.toNat, x3.toNat, rest.take N, N + 8, 0⟩ := by rw [HQ2.out, if_pos hlp]
          clear hlp
          have c0 := blk_cell (i := 0) (v := .int .i64 (x2.toNat : Int)) hep rfl
          have c1 := blk_cell (i := 1) (v := .int .i64 (x3.toNat : Int)) hep rfl
          have c2 := blk_cell (i := 2) (v := .slice A4 N c4) hep rfl
          obtain ⟨s1, s2, s3, s4, s5, s6, he, hs⟩ := st3 hrp (.int .i64 (x2.toNat : Int)) (.int .i64 (x3.toNat : Int)) (.slice A4 N c4)
          have e0 := blk_cell (i := 0) (v := .int .i64 (x2.toNat : Int)) he rfl
          have e1 := blk_cell (i := 1) (v := .int .i64 (x3.toNat : Int)) he rfl
          have e2 := blk_cell (i := 2) (v := .slice A4 N c4) he rfl
          have hownr := own_aw hownq (st3_aw wq w.heap.size (.int .i64 (x2.toNat : Int)) (.int .i64 (x3.toNat : Int)) (.slice A4 N c4)) (fun k hk hu => by have := hob2 k hk; omega)
          go_wp2
          refine bodyPost_ret (v := .tuple #[.agg #[.int .i64 (x2.toNat : Int), .int .i64 (x3.toNat : Int), .slice A4 N c4], .int .i64 ((N : Int) + 8), .int .i64 0]) (by simp [results, go_sem, e0, e1, e2]) rfl ⟨A4, N, c4, rfl, ?_, st3_below hbwp (Nat.le_refl _) _ _ _⟩
          exact Rd.own hownr
        | true =>
          have hlp : ¬ lp = lt := by have := HBQ.out; simpa using this
          obtain rfl : T = ⟨0, 0, [], 0, 4⟩ := by rw [HQ2.out, if_neg hlp]
          obtain ⟨s1, s2, s3, s4, s5, s6, he, hs⟩ := st3 hrp (.int .i64 0) (.int .i64 0) (.slice none 0 0)
          have e0 := blk_cell (i := 0) (v := .int .i64 0) he rfl
          have e1 := blk_cell (i := 1) (v := .int .i64 0) he rfl
          have e2 := blk_cell (i := 2) (v := .slice none 0 0) he rfl
          go_wp2
          refine bodyPost_ret (v := .tuple #[.agg #[.int .i64 0, .int .i64 0, .slice none 0 0], .int .i64 0, .int .i64 4]) (by simp [results, go_sem, e0, e1, e2]) rfl ⟨none, 0, 0, rfl, Rd.none_ _ _ _, st3_below hbwp (Nat.le_refl _) _ _ _⟩
      · simp only [Ord.lst, List.filterMap_cons, List.filterMap_nil, List.getElem?_toArray, List.getElem?_cons_succ, List.getElem?_cons_zero]
        repeat (first | (refine Ord.e_p (v := ?_) rfl (by rfl) ?_ ?_; rotate_left; · (intro w2; go_simp; try with_reducible rfl)) | (refine Ord.e_u (by rfl) ?_)); (try simp only [Act.put, List.setIfInBounds_toArray, List.set_cons_zero, List.set_cons_succ])
        refine Ord.e_loadS Tryz.underlying5 rfl (fun w' hS => ((show Below _ w w' from hS).cell (p := ⟨g, off + 2, none⟩) hgw).trans m2) h01 rfl (by rfl) ?_
        (try simp only [Act.put, List.setIfInBounds_toArray, List.set_cons_zero, List.set_cons_succ])
        repeat (first | (refine Ord.e_p (v := ?_) rfl (by rfl) ?_ ?_; rotate_left; · (intro w2; go_simp; try with_reducible rfl)) | (refine Ord.e_u (by rfl) ?_)); (try simp only [Act.put, List.setIfInBounds_toArray, List.set_cons_zero, List.set_cons_succ])
        refine Ord.e_loadS Tryz.underlying5 rfl (fun w' hS => ((show Below _ w w' from hS).cell (p := ⟨g, off + 3, none⟩) hgw).trans m3) h01 rfl (by rfl) ?_
        (try simp only [Act.put, List.setIfInBounds_toArray, List.set_cons_zero, List.set_cons_succ])
        repeat (first | (refine Ord.e_p (v := ?_) rfl (by rfl) ?_ ?_; rotate_left; · (intro w2; go_simp; try with_reducible rfl)) | (refine Ord.e_u (by rfl) ?_)); (try simp only [Act.put, List.setIfInBounds_toArray, List.set_cons_zero, List.set_cons_succ])
        refine Ord.e_x rfl (by rfl) ?_
        go_wp2
        have hszv3 : (w2.alloc (.cells #[.int .i64 0, .int .i64 0, .slice none 0 0] 40)).heap.size ≤ w2.heap.size + 1 := Nat.le_of_eq (World.size_alloc _ _)
        have hsyv3 : w2.heap.size + 1 ≤ (w2.alloc (.cells #[.int .i64 0, .int .i64 0, .slice none 0 0] 40)).heap.size := Nat.le_of_eq (World.size_alloc _ _).symm
        have hlew2 : w.heap.size ≤ w2.heap.size := Below.size h01
        have hbv3 := Below.alloc h01 (Below.size h01) (.cells #[.int .i64 0, .int .i64 0, .slice none 0 0] 40)
        have hfv3 := heap_alloc_new w2 (.cells #[.int .i64 0, .int .i64 0, .slice none 0 0] 40)
        have hne : w.heap.size < w2.heap.size := blk_lt hrw2
        have hrv3 := (heap_alloc_old w2 (.cells #[.int .i64 0, .int .i64 0, .slice none 0 0] 40) (blk_lt hrw2)).trans hrw2
        refine Ord.Seg.go hbv3 (fun h => by cases h) ?_
        (try simp only [Act.put, List.setIfInBounds_toArray, List.set_cons_zero, List.set_cons_succ])
        generalize (w2.alloc (.cells #[.int .i64 0, .int .i64 0, .slice none 0 0] 40)) = v3 at *
        repeat (first | (refine Ord.e_p (v := ?_) rfl (by rfl) ?_ ?_; rotate_left; · (intro w2; go_simp; try with_reducible rfl)) | (refine Ord.e_u (by rfl) ?_)); (try simp only [Act.put, List.setIfInBounds_toArray, List.set_cons_zero, List.set_cons_succ])
        refine Ord.e_x rfl (by rfl) ?_
        go_wp2
        have hszv4 : (v3.alloc (.cells #[] 5)).heap.size ≤ v3.heap.size + 1 := Nat.le_of_eq (World.size_alloc _ _)
        have hsyv4 : v3.heap.size + 1 ≤ (v3.alloc (.cells #[] 5)).heap.size := Nat.le_of_eq (World.size_alloc _ _).symm
        have hlev3 : w.heap.size ≤ v3.heap.size := Below.size hbv3
        have hbv4 := Below.alloc hbv3 (Below.size hbv3) (.cells #[] 5)
        have hownv4 : (v3.alloc (.cells #[] 5)).ownsRow w.heap.size 5 1 (.slice (some ⟨v3.heap.size, 0, none⟩) 0 0) 0 [] := own_empty v3 _ _ (Below.size hbv3) 1
        have hfv4 := (heap_alloc_old v3 (.cells #[] 5) (blk_lt hfv3)).trans hfv3
        have hrv4 := (heap_alloc_old v3 (.cells #[] 5) (blk_lt hrv3)).trans hrv3
        refine Ord.Seg.go hbv4 (fun h => by cases h) ?_
        (try simp only [Act.put, List.setIfInBounds_toArray, List.set_cons_zero, List.set_cons_succ])
        generalize (v3.alloc (.cells #[] 5)) = v4 at *
        repeat (first | (refine Ord.e_p (v := ?_) rfl (by rfl) ?_ ?_; rotate_left; · (intro w2; go_simp; try with_reducible rfl)) | (refine Ord.e_u (by rfl) ?_)); (try simp only [Act.put, List.setIfInBounds_toArray, List.set_cons_zero, List.set_cons_succ])
        refine Ord.e_x rfl (by rfl) ?_
        refine wpList_appG Tryz.underlying38 Hi.out rfl (by omega) hownv4 rfl (hrd.up (Below.mono hbv4 hB)) rfl (bv_one _) (k := N) (by omega) (List.nil_append _) (by unfold maxLen; omega) (by omega) (Below.size hbv4) ?_
        intro A4 c4 v5 hownv5 hgr hob
        replace hgr : World.grownBy v4 v5 (some v3.heap.size) := hgr
        replace hob : (Value.slice A4 N c4).ownBlock = some v3.heap.size ∨ (Value.slice A4 N c4).ownBlock = some v4.heap.size := hob
        have hbv5 := Below.grown hbv4 hgr (Below.size hbv4) (fun k hk => by injection hk with hk; omega)
        have hrv5 := (hgr.block _ (blk_lt hrv4) (by intro e; injection e with e; omega)).trans hrv4
        have hfv5 := (hgr.block _ (blk_lt hfv4) (by intro e; injection e with e; omega)).trans hfv4
        have hob2 : ∀ k, (Value.slice A4 N c4).ownBlock = some k → (k = v3.heap.size ∨ k = v4.heap.size) ∧ k < v5.heap.size := fun k hk => ⟨by rcases hob with h | h <;> (rw [h] at hk; injection hk with hk; omega), (own_blk hownv5 hk).2⟩
        have hszg := hgr.size
        clear hgr hob
        go_wp2_with fail
        refine Ord.Seg.go hbv5 (fun h => by cases h) ?_
        (try simp only [Act.put, List.setIfInBounds_toArray, List.set_cons_zero, List.set_cons_succ])
        repeat (first | (refine Ord.e_p (v := ?_) rfl (by rfl) ?_ ?_; rotate_left; · (intro w2; go_simp; try with_reducible rfl)) | (refine Ord.e_u (by rfl) ?_)); (try simp only [Act.put, List.setIfInBounds_toArray, List.set_cons_zero, List.set_cons_succ])
        refine Ord.e_x rfl (by rfl) ?_
        have hle9 : w.heap.size ≤ w2.heap.size := by omega
        obtain ⟨s1, s2, s3, s4, s5, s6, he, hs⟩ := st3 hfv5 (.int .i64 (x2.toNat : Int)) (.int .i64 (x3.toNat : Int)) (.slice A4 N c4)
        go_wp2
        have hbz := st3_below hbv5 hle9 (.int .i64 (x2.toNat : Int)) (.int .i64 (x3.toNat : Int)) (.slice A4 N c4)
        have hownz := own_aw hownv5 (st3_aw v5 w2.heap.size (.int .i64 (x2.toNat : Int)) (.int .i64 (x3.toNat : Int)) (.slice A4 N c4)) (fun k hk hu => by have := hob2 k hk; omega)
        have hrz := (st3_aw v5 w2.heap.size (.int .i64 (x2.toNat : Int)) (.int .i64 (x3.toNat : Int)) (.slice A4 N c4)).keep hrv5 (by omega)
        refine Ord.Seg.go hbz (fun h => by cases h) ?_
        (try simp only [Act.put, List.setIfInBounds_toArray, List.set_cons_zero, List.set_cons_succ])
        clear s1 s2 s3 s4 s5 s6 hs
        obtain ⟨gf, hgf⟩ : ∃ gf, gf = w2.heap.size := ⟨_, rfl⟩
        rw [← hgf] at he hbz hownz hrz ⊢
        have hgf1 : gf ≤ w2.heap.size := Nat.le_of_eq hgf
        have hgf2 : w2.heap.size ≤ gf := Nat.le_of_eq hgf.symm
        clear hgf
        generalize (((v5.setCell ⟨gf, 0, none⟩ (.int .i64 (x2.toNat : Int))).setCell ⟨gf, 1, none⟩ (.int .i64 (x3.toNat : Int))).setCell ⟨gf, 2, none⟩ (.slice A4 N c4)) = wz at *
        repeat (first | (refine Ord.e_p (v := ?_) rfl (by rfl) ?_ ?_; rotate_left; · (intro w2; go_simp; try with_reducible rfl)) | (refine Ord.e_u (by rfl) ?_)); (try simp only [Act.put, List.setIfInBounds_toArray, List.set_cons_zero, List.set_cons_succ])
        refine Ord.e_nil ?_
        have hgn : w.heap.size < gf := by omega
        have hrdz := Rd.own hownz
        have c0 := blk_cell (i := 0) (v := .int .i64 (x2.toNat : Int)) he rfl
        have c1 := blk_cell (i := 1) (v := .int .i64 (x3.toNat : Int)) he rfl
        have c2 := blk_cell (i := 2) (v := .slice A4 N c4) he rfl
        have hput := frqPut_any (x2.toNat : Int) (x3.toNat : Int) A4 N c4 wz.heap.size (rest.take N) wz hrdz (Nat.le_refl _)
        rw [q1] at hput
        go_wp2_with fail
        go_fit hput
        rintro e wp ⟨Ap, np, cp, rfl, hownp, hbp⟩
        have hep := blk_old he hbp (blk_lt he)
        have hrp := blk_old hrz hbp (blk_lt hrz)
        have hownq := (own_up hownz hbp (Nat.le_refl _)).drew
        have hbwp := (bnx hbz hbp).drew
        clear c0 c1 c2 hput he hrz hrdz hbz hownz
        have w8 : IntKind.i64.wrap ((N : Int) + 8) = (N : Int) + 8 := by rw [IntKind.wrap_i64]; omega
        have hrun8 : ∀ w, (Instr.slice 38 (.slice (some ⟨g, off, none⟩) n c) none (some (.int .i64 ((N : Int) + 8))) none).run Tryz.prog w = .ok (.slice (some ⟨g, off, none⟩) (N + 8) c) w := fun w => by
          have := run_cut_h (P := Tryz.prog) Tryz.underlying38 Hi.out.1 (some ⟨g, off, none⟩) n c (N + 8) (by omega) w
          rw [show ((N + 8 : Nat) : Int) = (N : Int) + 8 by omega] at this
          exact this
        have hrd8 := ((h.up (hbwp.mono hB)).btake (k := N + 8) (by omega)).more (B' := wp.drew.heap.size) (Nat.le_trans hB hbwp.size)
        have hownp8 := (Rd.own hownp).drew
        go_wp2_with fail
        refine Ord.region_ (fun _ => True) true [74, 79] (by kernel_rfl) (by kernel_rfl) trivial ?_
        replace hep : wp.drew.heap[gf]? = _ := hep
        replace hrp : wp.drew.heap[w.heap.size]? = _ := hrp
        replace hownq : wp.drew.ownsRow _ _ _ _ _ _ := hownq
        replace hownp8 : Rd wp.drew wp.drew.heap.size 1 _ _ _ _ := hownp8
        generalize wp.drew = wq at *
        generalize (x0 :: x1 :: x2 :: x3 :: x4 :: x5 :: rest).take (N + 8) = lt at *
        generalize putB (x2.toNat : Int) (x3.toNat : Int) (rest.take N) = lp at *
        repeat (first | (refine Ord.e_p (v := ?_) rfl (by rfl) ?_ ?_; rotate_left; · (intro w2; go_simp; try with_reducible rfl)) | (refine Ord.e_u (by rfl) ?_)); (try simp only [Act.put, List.setIfInBounds_toArray, List.set_cons_zero, List.set_cons_succ])
        refine Ord.e_str Tryz.underlying38 Tryz.underlying5 Tryz.underlying9 hownp8 rfl (by rfl) (by rfl) ?_
        (try simp only [Act.put, List.setIfInBounds_toArray, List.set_cons_zero, List.set_cons_succ])
        repeat (first | (refine Ord.e_p (v := ?_) rfl (by rfl) ?_ ?_; rotate_left; · (intro w2; go_simp; try with_reducible rfl)) | (refine Ord.e_u (by rfl) ?_)); (try simp only [Act.put, List.setIfInBounds_toArray, List.set_cons_zero, List.set_cons_succ])
        refine Ord.e_str Tryz.underlying38 Tryz.underlying5 Tryz.underlying9 hrd8 rfl (by rfl) (by rfl) ?_
        (try simp only [Act.put, List.setIfInBounds_toArray, List.set_cons_zero, List.set_cons_succ])
        obtain ⟨bq, hbq⟩ : ∃ bq : Bool, bq = !decide (lp = lt) := ⟨_, rfl⟩
        have HBQ := Lib.hid hbq
        clear hbq
        refine Ord.e_p (v := .bool bq) rfl (by rfl) (fun w2 => ?_) ?_
        · have hq := HBQ.out
          clear HBQ
          go_simp
          by_cases hh : lp = lt <;> simp [hh]
        (try simp only [Act.put, List.setIfInBounds_toArray, List.set_cons_zero, List.set_cons_succ])
        refine Ord.e_nil ?_
        clear hownp8 hrd8 hrun8 w8
        cases bq with
        | false =>
          have hlp : lp = lt := by have := HBQ.out; simpa using this
          obtain rfl : T = ⟨x2.toNat, x3.toNat, rest.take N, N + 8, 0⟩ := by rw [HQ2.out, if_pos hlp]
          clear hlp
          have c0 := blk_cell (i := 0) (v := .int .i64 (x2.toNat : Int)) hep rfl
          have c1 := blk_cell (i := 1) (v := .int .i64 (x3.toNat : Int)) hep rfl
          have c2 := blk_cell (i := 2) (v := .slice A4 N c4) hep rfl
          obtain ⟨s1, s2, s3, s4, s5, s6, he, hs⟩ := st3 hrp (.int .i64 (x2.toNat : Int)) (.int .i64 (x3.toNat : Int)) (.slice A4 N c4)
          have e0 := blk_cell (i := 0) (v := .int .i64 (x2.toNat : Int)) he rfl
          have e1 := blk_cell (i := 1) (v := .int .i64 (x3.toNat : Int)) he rfl
          have e2 := blk_cell (i := 2) (v := .slice A4 N c4) he rfl
          have hownr := own_aw hownq (st3_aw wq w.heap.size (.int .i64 (x2.toNat : Int)) (.int .i64 (x3.toNat : Int)) (.slice A4 N c4)) (fun k hk hu => by have := hob2 k hk; omega)
          go_wp2
          refine bodyPost_ret (v := .tuple #[.agg #[.int .i64 (x2.toNat : Int), .int .i64 (x3.toNat : Int), .slice A4 N c4], .int .i64 ((N : Int) + 8), .int .i64 0]) (by simp [results, go_sem, e0, e1, e2]) rfl ⟨A4, N, c4, rfl, ?_, st3_below hbwp (Nat.le_refl _) _ _ _⟩
          exact Rd.own hownr
        | true =>
          have hlp : ¬ lp = lt := by have := HBQ.out; simpa using this
          obtain rfl : T = ⟨0, 0, [], 0, 4⟩ := by rw [HQ2.out, if_neg hlp]
          obtain ⟨s1, s2, s3, s4, s5, s6, he, hs⟩ := st3 hrp (.int .i64 0) (.int .i64 0) (.slice none 0 0)
          have e0 := blk_cell (i := 0) (v := .int .i64 0) he rfl
          have e1 := blk_cell (i := 1) (v := .int .i64 0) he rfl
          have e2 := blk_cell (i := 2) (v := .slice none 0 0) he rfl
          go_wp2
          refine bodyPost_ret (v := .tuple #[.agg #[.int .i64 0, .int .i64 0, .slice none 0 0], .int .i64 0, .int .i64 4]) (by simp [results, go_sem, e0, e1, e2]) rfl ⟨none, 0, 0, rfl, Rd.none_ _ _ _, st3_below hbwp (Nat.le_refl _) _ _ _⟩


end Go.Proofs.YtmkidihcdljkiaaGreat
