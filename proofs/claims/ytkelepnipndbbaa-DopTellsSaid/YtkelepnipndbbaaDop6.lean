/-
  The laws of layer 18 walked (printed by gen_dop6.py).
-/
import Derived.Test.YtkelepnipndbbaaDop2
import Derived.Test.YtkelepnipndbbaaDop5
import Derived.Laws.StructEq
set_option linter.unusedSimpArgs false
set_option linter.unusedVariables false
namespace Go.Proofs.Ytkelepnipndbbaa
open Go.RowKit NumLaw

theorem num18_any (n : Int) (w : World) : Calls Try.prog 43 #[.int .i64 n] w fun e w' => e = .returned (.int .i64 n) ∧ w = w' := by
  go_enter Try.func43, Try.ntmps43
  go_wp2
  go_ret
  exact ⟨rfl, rfl⟩
theorem dop_held : Try.prog.stoodInHeld 58 = false := by kernel_rfl
theorem dop_same (x0 x1 x2 x3 x4 x5 x6 x7 : Int) (w : World) : (binOp .eql 58 (.agg #[.int .i64 x0, .int .i64 x1, .int .i64 x2, .int .i64 x3, .int .i64 x4, .int .i64 x5, .int .i64 x6, .int .i64 x7]) (.agg #[.int .i64 x0, .int .i64 x1, .int .i64 x2, .int .i64 x3, .int .i64 x4, .int .i64 x5, .int .i64 x6, .int .i64 x7])).run Try.prog w = .ok (.bool true) w := by
  rw [run_eql_struct, run_equalIn_agg w 9999 _ _ _ (by simp only [Program.fieldsOf, Try.underlying58]) dop_held]
  simp [Program.fieldsOf, Try.underlying58, Op.eqFields, part, run_equalIn_int w _ _ _ _ _ _ Try.underlying2]
theorem dop_nsame (x0 x1 x2 x3 x4 x5 x6 x7 : Int) (w : World) : (binOp .neq 58 (.agg #[.int .i64 x0, .int .i64 x1, .int .i64 x2, .int .i64 x3, .int .i64 x4, .int .i64 x5, .int .i64 x6, .int .i64 x7]) (.agg #[.int .i64 x0, .int .i64 x1, .int .i64 x2, .int .i64 x3, .int .i64 x4, .int .i64 x5, .int .i64 x6, .int .i64 x7])).run Try.prog w = .ok (.bool false) w := by
  rw [run_neq_struct, run_equalIn_agg w 9999 _ _ _ (by simp only [Program.fieldsOf, Try.underlying58]) dop_held]
  simp [Program.fieldsOf, Try.underlying58, Op.eqFields, part, run_equalIn_int w _ _ _ _ _ _ Try.underlying2]
theorem tog_known : togR 300 400 = 500 := by
  unfold togR
  rw [if_pos (by omega)]
  have h : isq ((300 : Int).toNat * (300 : Int).toNat + (400 : Int).toNat * (400 : Int).toNat) = 500 := isq_uniq (by decide) (by decide)
  unfold nearR
  rw [h]
  decide
theorem sound_known : soundR 0 0 0 0 0 0 0 = true ∧ soundR 0 3 0 0 0 0 0 = false := by decide
set_option maxRecDepth 10000 in
set_option maxHeartbeats 1000000 in
theorem knows18 (w : World) : Calls Try.prog 36 #[] w fun e w' => e = .returned (.bool true) ∧ Below w.heap.size w w' := by
  have h1 := together_any 300 400 w (by omega) (by omega)
  have h2 := fun w => sound_any 0 0 0 0 0 0 0 0 w (by simp)
  have h3 := fun w => sound_any 0 0 3 0 0 0 0 0 w (by simp)
  rw [tog_known] at h1
  simp only [sound_known.1] at h2
  simp only [sound_known.2] at h3
  go_enter Try.func36, Try.ntmps36
  go_wp2_with fail
  go_fit h1
  rintro e w1 ⟨rfl, hb1⟩
  go_wp2_with fail
  go_fit (h2 _)
  rintro e w2 ⟨rfl, hb2⟩
  go_wp2_with fail
  go_fit (h3 _)
  rintro e w3 ⟨rfl, hb3⟩
  go_wp2
  go_ret
  exact ⟨rfl, bnx (bnx hb1 hb2) hb3⟩

set_option maxRecDepth 10000 in
set_option maxHeartbeats 1000000 in
theorem doptogether_any (a b : Nat) (w : World) (ha : a < 65536) (hb : b < 65536) :
    Calls Try.prog 7 #[.int .u16 a, .int .u16 b] w fun e w' => e = .returned (.bool true) ∧ Below w.heap.size w w' := by
  have h1 := together_any a b w (by omega) (by omega)
  have h2 := fun w => together_any b a w (by omega) (by omega)
  have h3 := fun w => together_any a (-1) w (by omega) (by omega)
  have h4 := fun w => together_any 65536 b w (by omega) (by omega)
  have e3 : togR a (-1) = 0 := by unfold togR; rw [if_neg (by omega)]
  have e4 : togR 65536 b = 0 := by unfold togR; rw [if_neg (by omega)]
  have e2 := togR_comm b a
  obtain ⟨g1, g2, g3⟩ := togR_ge (a := a) (b := b) (by omega) (by omega)
  rw [e3] at h3
  rw [e4] at h4
  rw [e2] at h2
  generalize togR a b = t at *
  clear e2 e3 e4
  go_enter Try.func7, Try.ntmps7
  go_wp2_with fail
  go_fit h1
  rintro e w1 ⟨rfl, hb1⟩
  go_wp2_with fail
  go_fit (h2 _)
  rintro e w2 ⟨rfl, hb2⟩
  go_wp2_with fail
  go_fit (h3 _)
  rintro e w3 ⟨rfl, hb3⟩
  go_wp2_with fail
  go_fit (h4 _)
  rintro e w4 ⟨rfl, hb4⟩
  go_wp2_with fail
  go_fit (knows18 _)
  rintro e w5 ⟨rfl, hb5⟩
  go_wp2
  go_ret
  exact ⟨rfl, bnx (bnx (bnx (bnx hb1 hb2) hb3) hb4) hb5⟩

set_option maxRecDepth 10000 in
set_option maxHeartbeats 8000000 in
theorem doptells_any (x0 x1 x2 x3 x4 x5 x6 x7 : Int) (A : Option Addr) (n c : Nat) (b : List UInt8) (a1 a2 : Int) (w : World) (hx : ∀ z ∈ [x0, x1, x2, x3, x4, x5, x6, x7], -9223372036854775808 ≤ z ∧ z ≤ 9223372036854775807) (h : Rd w w.heap.size 1 A n c (bv b)) (ha1 : -9223372036854775808 ≤ a1 ∧ a1 ≤ 9223372036854775807) (ha2 : -9223372036854775808 ≤ a2 ∧ a2 ≤ 9223372036854775807) :
    Calls Try.prog 8 #[.agg #[.int .i64 x0, .int .i64 x1, .int .i64 x2, .int .i64 x3, .int .i64 x4, .int .i64 x5, .int .i64 x6, .int .i64 x7], .slice A n c, .int .i64 a1, .int .i64 a2] w fun e w' => e = .returned (.bool true) ∧ Below w.heap.size w w' := by
  have hput := fun w => dopPut_any x0 x1 x2 x3 x4 x5 x6 x7 w hx
  have hqput := fun w => qdopPut_any x0 x1 x2 x3 x4 x5 x6 x7 w hx
  have hs := fun w => sound_any x0 x1 x2 x3 x4 x5 x6 x7 w hx
  have hqs := fun w => qsound_any x0 x1 x2 x3 x4 x5 x6 x7 w hx
  have hb0 : Below w.heap.size w (w.alloc (.cells #[.int .i64 x0, .int .i64 x1, .int .i64 x2, .int .i64 x3, .int .i64 x4, .int .i64 x5, .int .i64 x6, .int .i64 x7] 58)) := (Below.refl _ _).alloc (Nat.le_refl _) _
  have hd := heap_alloc_new w (.cells #[.int .i64 x0, .int .i64 x1, .int .i64 x2, .int .i64 x3, .int .i64 x4, .int .i64 x5, .int .i64 x6, .int .i64 x7] 58)
  obtain ⟨vs, hvs⟩ : ∃ vs, vs = [x0, x1, x2, x3, x4, x5, x6, x7] := ⟨_, rfl⟩
  rw [← hvs] at hput hqput
  generalize soundR x1 x2 x3 x4 x5 x6 x7 = sb at *
  generalize shP dopF vs = oP at *
  generalize shE dopF vs = oE at *
  have Hput := Lib.hid hput
  have Hqput := Lib.hid hqput
  have Hs := Lib.hid hs
  have Hqs := Lib.hid hqs
  clear hput hqput hs hqs hvs hx
  have hltd := blk_lt hd
  go_enter Try.func8, Try.ntmps8
  by_cases hn : 100 < n
  · go_wp2_with fail
    go_fit (knows18 _)
    rintro e w1 ⟨rfl, hb1⟩
    go_wp2
    go_ret
    exact ⟨rfl, bnx hb0 hb1⟩
  · go_wp2_with fail
    generalize (w.alloc (.cells #[.int .i64 x0, .int .i64 x1, .int .i64 x2, .int .i64 x3, .int .i64 x4, .int .i64 x5, .int .i64 x6, .int .i64 x7] 58)) = w0 at *
    go_fit (knows18 _)
    rintro e w1 ⟨rfl, hb1⟩
    replace hd := blk_old hd hb1 hltd
    replace hb1 := bnx hb0 hb1
    clear hb0 hltd
    have xc0 := blk_cell (i := 0) (v := .int .i64 x0) hd rfl
    have xc1 := blk_cell (i := 1) (v := .int .i64 x1) hd rfl
    have xc2 := blk_cell (i := 2) (v := .int .i64 x2) hd rfl
    have xc3 := blk_cell (i := 3) (v := .int .i64 x3) hd rfl
    have xc4 := blk_cell (i := 4) (v := .int .i64 x4) hd rfl
    have xc5 := blk_cell (i := 5) (v := .int .i64 x5) hd rfl
    have xc6 := blk_cell (i := 6) (v := .int .i64 x6) hd rfl
    have xc7 := blk_cell (i := 7) (v := .int .i64 x7) hd rfl
    go_wp2_with fail
    go_fit (Hput.out _)
    rintro e w2 ⟨A2, n2, c2, rfl, hown2, hb2⟩
    have hp2 := Rd.own hown2
    replace hd := blk_old hd hb2 (blk_lt hd)
    replace hb2 := bnx hb1 hb2
    clear hown2 hb1 xc0 xc1 xc2 xc3 xc4 xc5 xc6 xc7
    have xc0 := blk_cell (i := 0) (v := .int .i64 x0) hd rfl
    have xc1 := blk_cell (i := 1) (v := .int .i64 x1) hd rfl
    have xc2 := blk_cell (i := 2) (v := .int .i64 x2) hd rfl
    have xc3 := blk_cell (i := 3) (v := .int .i64 x3) hd rfl
    have xc4 := blk_cell (i := 4) (v := .int .i64 x4) hd rfl
    have xc5 := blk_cell (i := 5) (v := .int .i64 x5) hd rfl
    have xc6 := blk_cell (i := 6) (v := .int .i64 x6) hd rfl
    have xc7 := blk_cell (i := 7) (v := .int .i64 x7) hd rfl
    go_wp2_with fail
    go_fit (Hqput.out _)
    rintro e w3 ⟨A3, n3, c3, rfl, hown3, hb3⟩
    have hp3 := Rd.own hown3
    replace hp2 := hp2.nx hb3
    replace hd := blk_old hd hb3 (blk_lt hd)
    replace hb3 := bnx hb2 hb3
    clear hown3 hb2 xc0 xc1 xc2 xc3 xc4 xc5 xc6 xc7
    go_wp2_with fail
    go_fit (dopTake_any A n c w.heap.size b _ (h.up hb3) hb3.size (by omega))
    rintro e w4 ⟨y0, y1, y2, y3, y4, y5, y6, y7, hy, rfl, hb4⟩
    replace hb4 := hb4.alloc hb4.size (.cells #[.int .i64 y0, .int .i64 y1, .int .i64 y2, .int .i64 y3, .int .i64 y4, .int .i64 y5, .int .i64 y6, .int .i64 y7] 58)
    have hm := heap_alloc_new w4 (.cells #[.int .i64 y0, .int .i64 y1, .int .i64 y2, .int .i64 y3, .int .i64 y4, .int .i64 y5, .int .i64 y6, .int .i64 y7] 58)
    have hltm := blk_lt hm
    replace hp2 := hp2.nx hb4
    replace hp3 := hp3.nx hb4
    replace hd := blk_old hd hb4 (blk_lt hd)
    replace hb4 := bnx hb3 hb4
    clear hb3 hltm
    go_wp2_with fail
    generalize (w4.alloc (.cells #[.int .i64 y0, .int .i64 y1, .int .i64 y2, .int .i64 y3, .int .i64 y4, .int .i64 y5, .int .i64 y6, .int .i64 y7] 58)) = w5 at *
    generalize w4.heap.size = gm at *
    go_fit (qdopTake_any A n c w.heap.size b _ (h.up hb4) hb4.size (by omega))
    rintro e w6 ⟨z0, z1, z2, z3, z4, z5, z6, z7, hz, rfl, hb6⟩
    obtain ⟨rfl, rfl, rfl, rfl, rfl, rfl, rfl, rfl⟩ : z0 = y0 ∧ z1 = y1 ∧ z2 = y2 ∧ z3 = y3 ∧ z4 = y4 ∧ z5 = y5 ∧ z6 = y6 ∧ z7 = y7 := by
      rw [← hy] at hz
      simpa using hz
    clear hy hz
    generalize shTE dopF b = oG at *
    replace hb6 := hb6.alloc hb6.size (.cells #[.int .i64 z0, .int .i64 z1, .int .i64 z2, .int .i64 z3, .int .i64 z4, .int .i64 z5, .int .i64 z6, .int .i64 z7] 58)
    have hm2 := heap_alloc_new w6 (.cells #[.int .i64 z0, .int .i64 z1, .int .i64 z2, .int .i64 z3, .int .i64 z4, .int .i64 z5, .int .i64 z6, .int .i64 z7] 58)
    replace hp2 := hp2.nx hb6
    replace hp3 := hp3.nx hb6
    replace hd := blk_old hd hb6 (blk_lt hd)
    replace hm := blk_old hm hb6 (blk_lt hm)
    replace hb6 := bnx hb4 hb6
    clear hb4
    go_wp2_with fail
    generalize (w6.alloc (.cells #[.int .i64 z0, .int .i64 z1, .int .i64 z2, .int .i64 z3, .int .i64 z4, .int .i64 z5, .int .i64 z6, .int .i64 z7] 58)) = w7 at *
    generalize w6.heap.size = gm2 at *
    have hl1 := blk_lt hd
    have hl2 := blk_lt hm
    have hl3 := blk_lt hm2
    have r1 : w7.rangeAt w.heap.size 0 [.int .i64 x0, .int .i64 x1, .int .i64 x2, .int .i64 x3, .int .i64 x4, .int .i64 x5, .int .i64 x6, .int .i64 x7] := own_range hd 0 (fun j v hv => by simpa using hv)
    have r2 : w7.rangeAt gm 0 [.int .i64 z0, .int .i64 z1, .int .i64 z2, .int .i64 z3, .int .i64 z4, .int .i64 z5, .int .i64 z6, .int .i64 z7] := own_range hm 0 (fun j v hv => by simpa using hv)
    have r3 : w7.rangeAt gm2 0 [.int .i64 z0, .int .i64 z1, .int .i64 z2, .int .i64 z3, .int .i64 z4, .int .i64 z5, .int .i64 z6, .int .i64 z7] := own_range hm2 0 (fun j v hv => by simpa using hv)
    have hg1 := together_any a1 a2
    have hg2 := qTogether_any a1 a2
    have Hg1 := Lib.hid (fun w => hg1 w ha1 ha2)
    have Hg2 := Lib.hid (fun w => hg2 w ha1 ha2)
    clear hg1 hg2
    generalize togR a1 a2 = tg at *
    refine Ord.region_ (fun w' => Below w7.heap.size w7 w') false [] (by kernel_rfl) (by kernel_rfl) ((Below.refl _ _).drew) ?_
    have h2 : Below w7.heap.size w7 w7.drew := (Below.refl _ _).drew
    generalize w7.drew = v2 at *
    clear hd hm hm2
    refine Ord.e_rowS Try.underlying58 rfl (by kernel_rfl) rfl (by simp) (fun w' hS j v hv => ((show Below _ w7 w' from hS).cell (p := ⟨w.heap.size, 0 + j, none⟩) hl1).trans (r1 j v hv)) h2 (by kernel_rfl) ?_
    (try simp only [Act.put, List.setIfInBounds_toArray, List.set_cons_zero, List.set_cons_succ])
    refine Ord.e_x rfl (by kernel_rfl) ?_
    go_wp2_with fail
    go_fit (Hs.out _)
    rintro e v3 ⟨rfl, hb23⟩
    have h3 := h2.trans (hb23.mono h2.size)
    go_wp2_with fail
    refine Ord.Seg.go h3 (fun h => by cases h) ?_
    (try simp only [Act.put, List.setIfInBounds_toArray, List.set_cons_zero, List.set_cons_succ])
    clear h2 hb23
    refine Ord.e_rowS Try.underlying58 rfl (by kernel_rfl) rfl (by simp) (fun w' hS j v hv => ((show Below _ w7 w' from hS).cell (p := ⟨w.heap.size, 0 + j, none⟩) hl1).trans (r1 j v hv)) h3 (by kernel_rfl) ?_
    (try simp only [Act.put, List.setIfInBounds_toArray, List.set_cons_zero, List.set_cons_succ])
    refine Ord.e_x rfl (by kernel_rfl) ?_
    go_wp2_with fail
    go_fit (Hqs.out _)
    rintro e v4 ⟨rfl, hb34⟩
    have h4 := h3.trans (hb34.mono h3.size)
    go_wp2_with fail
    refine Ord.Seg.go h4 (fun h => by cases h) ?_
    (try simp only [Act.put, List.setIfInBounds_toArray, List.set_cons_zero, List.set_cons_succ])
    clear h3 hb34
    ((with_reducible refine Ord.e_p (v := ?_) ?_ ?_ ?_ ?_); rotate_left; (· exact rfl); (· kernel_rfl); (· intro w2; go_simp; try with_reducible rfl))
    (try simp only [Act.put, List.setIfInBounds_toArray, List.set_cons_zero, List.set_cons_succ])
    ((with_reducible refine Ord.e_p (v := ?_) ?_ ?_ ?_ ?_); rotate_left; (· exact rfl); (· kernel_rfl); (· intro w2; go_simp; try with_reducible rfl))
    (try simp only [Act.put, List.setIfInBounds_toArray, List.set_cons_zero, List.set_cons_succ])
    ((with_reducible refine Ord.e_p (v := ?_) ?_ ?_ ?_ ?_); rotate_left; (· exact rfl); (· kernel_rfl); (· intro w2; go_simp; try with_reducible rfl))
    (try simp only [Act.put, List.setIfInBounds_toArray, List.set_cons_zero, List.set_cons_succ])
    refine Ord.e_strS Try.underlying46 Try.underlying5 Try.underlying9 (fun w2 hS => hp2.up (show Below _ w7 w2 from hS)) h4 h4.size rfl (by kernel_rfl) ?_
    (try simp only [Act.put, List.setIfInBounds_toArray, List.set_cons_zero, List.set_cons_succ])
    ((with_reducible refine Ord.e_p (v := ?_) ?_ ?_ ?_ ?_); rotate_left; (· exact rfl); (· kernel_rfl); (· intro w2; go_simp; try with_reducible rfl))
    (try simp only [Act.put, List.setIfInBounds_toArray, List.set_cons_zero, List.set_cons_succ])
    refine Ord.e_strS Try.underlying46 Try.underlying5 Try.underlying9 (fun w2 hS => hp3.up (show Below _ w7 w2 from hS)) h4 h4.size rfl (by kernel_rfl) ?_
    (try simp only [Act.put, List.setIfInBounds_toArray, List.set_cons_zero, List.set_cons_succ])
    ((with_reducible refine Ord.e_p (v := ?_) ?_ ?_ ?_ ?_); rotate_left; (· exact rfl); (· kernel_rfl); (· intro w2; go_simp; try with_reducible rfl))
    (try simp only [Act.put, List.setIfInBounds_toArray, List.set_cons_zero, List.set_cons_succ])
    ((with_reducible refine Ord.e_p (v := ?_) ?_ ?_ ?_ ?_); rotate_left; (· exact rfl); (· kernel_rfl); (· intro w2; go_simp; try with_reducible rfl))
    (try simp only [Act.put, List.setIfInBounds_toArray, List.set_cons_zero, List.set_cons_succ])
    ((with_reducible refine Ord.e_p (v := ?_) ?_ ?_ ?_ ?_); rotate_left; (· exact rfl); (· kernel_rfl); (· intro w2; go_simp; try with_reducible rfl))
    (try simp only [Act.put, List.setIfInBounds_toArray, List.set_cons_zero, List.set_cons_succ])
    ((with_reducible refine Ord.e_p (v := ?_) ?_ ?_ ?_ ?_); rotate_left; (· exact rfl); (· kernel_rfl); (· intro w2; go_simp; try with_reducible rfl))
    (try simp only [Act.put, List.setIfInBounds_toArray, List.set_cons_zero, List.set_cons_succ])
    refine Ord.e_x rfl (by kernel_rfl) ?_
    go_wp2_with fail
    go_fit (num18_any _ _)
    rintro e v5 ⟨rfl, hv⟩
    subst hv
    go_wp2_with fail
    refine Ord.Seg.go h4 (fun h => by cases h) ?_
    (try simp only [Act.put, List.setIfInBounds_toArray, List.set_cons_zero, List.set_cons_succ])
    ((with_reducible refine Ord.e_p (v := ?_) ?_ ?_ ?_ ?_); rotate_left; (· exact rfl); (· kernel_rfl); (· intro w2; go_simp; try with_reducible rfl))
    (try simp only [Act.put, List.setIfInBounds_toArray, List.set_cons_zero, List.set_cons_succ])
    refine Ord.e_x rfl (by kernel_rfl) ?_
    go_wp2_with fail
    go_fit (num18_any _ _)
    rintro e v5 ⟨rfl, hv⟩
    subst hv
    go_wp2_with fail
    refine Ord.Seg.go h4 (fun h => by cases h) ?_
    (try simp only [Act.put, List.setIfInBounds_toArray, List.set_cons_zero, List.set_cons_succ])
    ((with_reducible refine Ord.e_p (v := ?_) ?_ ?_ ?_ ?_); rotate_left; (· exact rfl); (· kernel_rfl); (· intro w2; go_simp; try with_reducible rfl))
    (try simp only [Act.put, List.setIfInBounds_toArray, List.set_cons_zero, List.set_cons_succ])
    ((with_reducible refine Ord.e_p (v := ?_) ?_ ?_ ?_ ?_); rotate_left; (· exact rfl); (· kernel_rfl); (· intro w2; go_simp; try with_reducible rfl))
    (try simp only [Act.put, List.setIfInBounds_toArray, List.set_cons_zero, List.set_cons_succ])
    ((with_reducible refine Ord.e_p (v := ?_) ?_ ?_ ?_ ?_); rotate_left; (· exact rfl); (· kernel_rfl); (· intro w2; go_simp; try with_reducible rfl))
    (try simp only [Act.put, List.setIfInBounds_toArray, List.set_cons_zero, List.set_cons_succ])
    refine Ord.e_rowS Try.underlying58 rfl (by kernel_rfl) rfl (by simp) (fun w' hS j v hv => ((show Below _ w7 w' from hS).cell (p := ⟨gm, 0 + j, none⟩) hl2).trans (r2 j v hv)) h4 (by kernel_rfl) ?_
    (try simp only [Act.put, List.setIfInBounds_toArray, List.set_cons_zero, List.set_cons_succ])
    refine Ord.e_rowS Try.underlying58 rfl (by kernel_rfl) rfl (by simp) (fun w' hS j v hv => ((show Below _ w7 w' from hS).cell (p := ⟨gm2, 0 + j, none⟩) hl3).trans (r3 j v hv)) h4 (by kernel_rfl) ?_
    (try simp only [Act.put, List.setIfInBounds_toArray, List.set_cons_zero, List.set_cons_succ])
    have hsame := dop_same z0 z1 z2 z3 z4 z5 z6 z7
    ((with_reducible refine Ord.e_p (v := ?_) ?_ ?_ ?_ ?_); rotate_left; (· exact rfl); (· kernel_rfl); (· intro w2; go_simp; try with_reducible rfl))
    (try simp only [Act.put, List.setIfInBounds_toArray, List.set_cons_zero, List.set_cons_succ])
    ((with_reducible refine Ord.e_p (v := ?_) ?_ ?_ ?_ ?_); rotate_left; (· exact rfl); (· kernel_rfl); (· intro w2; go_simp; try with_reducible rfl))
    (try simp only [Act.put, List.setIfInBounds_toArray, List.set_cons_zero, List.set_cons_succ])
    ((with_reducible refine Ord.e_p (v := ?_) ?_ ?_ ?_ ?_); rotate_left; (· exact rfl); (· kernel_rfl); (· intro w2; go_simp; try with_reducible rfl))
    (try simp only [Act.put, List.setIfInBounds_toArray, List.set_cons_zero, List.set_cons_succ])
    clear hsame
    ((with_reducible refine Ord.e_p (v := ?_) ?_ ?_ ?_ ?_); rotate_left; (· exact rfl); (· kernel_rfl); (· intro w2; go_simp; try with_reducible rfl))
    (try simp only [Act.put, List.setIfInBounds_toArray, List.set_cons_zero, List.set_cons_succ])
    refine Ord.e_x rfl (by kernel_rfl) ?_
    go_wp2_with fail
    go_fit (num18_any _ _)
    rintro e v5 ⟨rfl, hv⟩
    subst hv
    go_wp2_with fail
    refine Ord.Seg.go h4 (fun h => by cases h) ?_
    (try simp only [Act.put, List.setIfInBounds_toArray, List.set_cons_zero, List.set_cons_succ])
    ((with_reducible refine Ord.e_p (v := ?_) ?_ ?_ ?_ ?_); rotate_left; (· exact rfl); (· kernel_rfl); (· intro w2; go_simp; try with_reducible rfl))
    (try simp only [Act.put, List.setIfInBounds_toArray, List.set_cons_zero, List.set_cons_succ])
    refine Ord.e_x rfl (by kernel_rfl) ?_
    go_wp2_with fail
    go_fit (num18_any _ _)
    rintro e v5 ⟨rfl, hv⟩
    subst hv
    go_wp2_with fail
    refine Ord.Seg.go h4 (fun h => by cases h) ?_
    (try simp only [Act.put, List.setIfInBounds_toArray, List.set_cons_zero, List.set_cons_succ])
    ((with_reducible refine Ord.e_p (v := ?_) ?_ ?_ ?_ ?_); rotate_left; (· exact rfl); (· kernel_rfl); (· intro w2; go_simp; try with_reducible rfl))
    (try simp only [Act.put, List.setIfInBounds_toArray, List.set_cons_zero, List.set_cons_succ])
    ((with_reducible refine Ord.e_p (v := ?_) ?_ ?_ ?_ ?_); rotate_left; (· exact rfl); (· kernel_rfl); (· intro w2; go_simp; try with_reducible rfl))
    (try simp only [Act.put, List.setIfInBounds_toArray, List.set_cons_zero, List.set_cons_succ])
    ((with_reducible refine Ord.e_p (v := ?_) ?_ ?_ ?_ ?_); rotate_left; (· exact rfl); (· kernel_rfl); (· intro w2; go_simp; try with_reducible rfl))
    (try simp only [Act.put, List.setIfInBounds_toArray, List.set_cons_zero, List.set_cons_succ])
    ((with_reducible refine Ord.e_p (v := ?_) ?_ ?_ ?_ ?_); rotate_left; (· exact rfl); (· kernel_rfl); (· intro w2; go_simp; try with_reducible rfl))
    (try simp only [Act.put, List.setIfInBounds_toArray, List.set_cons_zero, List.set_cons_succ])
    ((with_reducible refine Ord.e_p (v := ?_) ?_ ?_ ?_ ?_); rotate_left; (· exact rfl); (· kernel_rfl); (· intro w2; go_simp; try with_reducible rfl))
    (try simp only [Act.put, List.setIfInBounds_toArray, List.set_cons_zero, List.set_cons_succ])
    refine Ord.e_x rfl (by kernel_rfl) ?_
    go_wp2_with fail
    go_fit (Hg1.out _)
    rintro e v5 ⟨rfl, hb45⟩
    have h5 := h4.trans (hb45.mono h4.size)
    go_wp2_with fail
    refine Ord.Seg.go h5 (fun h => by cases h) ?_
    (try simp only [Act.put, List.setIfInBounds_toArray, List.set_cons_zero, List.set_cons_succ])
    clear h4 hb45
    ((with_reducible refine Ord.e_p (v := ?_) ?_ ?_ ?_ ?_); rotate_left; (· exact rfl); (· kernel_rfl); (· intro w2; go_simp; try with_reducible rfl))
    (try simp only [Act.put, List.setIfInBounds_toArray, List.set_cons_zero, List.set_cons_succ])
    ((with_reducible refine Ord.e_p (v := ?_) ?_ ?_ ?_ ?_); rotate_left; (· exact rfl); (· kernel_rfl); (· intro w2; go_simp; try with_reducible rfl))
    (try simp only [Act.put, List.setIfInBounds_toArray, List.set_cons_zero, List.set_cons_succ])
    refine Ord.e_x rfl (by kernel_rfl) ?_
    go_wp2_with fail
    go_fit (Hg2.out _)
    rintro e v6 ⟨rfl, hv⟩
    subst hv
    go_wp2_with fail
    refine Ord.Seg.go h5 (fun h => by cases h) ?_
    (try simp only [Act.put, List.setIfInBounds_toArray, List.set_cons_zero, List.set_cons_succ])
    ((with_reducible refine Ord.e_p (v := ?_) ?_ ?_ ?_ ?_); rotate_left; (· exact rfl); (· kernel_rfl); (· intro w2; go_simp; try with_reducible rfl))
    (try simp only [Act.put, List.setIfInBounds_toArray, List.set_cons_zero, List.set_cons_succ])
    ((with_reducible refine Ord.e_p (v := ?_) ?_ ?_ ?_ ?_); rotate_left; (· exact rfl); (· kernel_rfl); (· intro w2; go_simp; try with_reducible rfl))
    (try simp only [Act.put, List.setIfInBounds_toArray, List.set_cons_zero, List.set_cons_succ])
    ((with_reducible refine Ord.e_p (v := ?_) ?_ ?_ ?_ ?_); rotate_left; (· exact rfl); (· kernel_rfl); (· intro w2; go_simp; try with_reducible rfl))
    (try simp only [Act.put, List.setIfInBounds_toArray, List.set_cons_zero, List.set_cons_succ])
    refine Ord.e_nil ?_
    replace hb6 := hb6.trans (h5.mono hb6.size)
    clear r1 r2 r3 h5
    go_wp2
    go_ret
    exact ⟨rfl, hb6⟩
end Go.Proofs.Ytkelepnipndbbaa
