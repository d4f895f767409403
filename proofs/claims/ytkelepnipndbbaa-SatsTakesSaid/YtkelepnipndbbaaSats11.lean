/-
  SatsTakes walked (printed by gen_sats11.py).
-/
import Derived.Test.YtkelepnipndbbaaSats10
set_option linter.unusedSimpArgs false
set_option linter.unusedVariables false
namespace Go.Proofs.Ytkelepnipndbbaa
open Go.RowKit NumLaw
attribute [local go_sem] Addr.add_mid

theorem RdF.more17 {w : World} {B B' n c : Nat} {A : Option Addr} {l : List FieldV} (h : RdF w B A n c l) (hB : B ≤ B') : RdF w B' A n c l :=
  ⟨h.1, h.2.1, h.2.2.1, fun hn => by
    obtain ⟨g, off, e, hg, hr⟩ := h.2.2.2 hn
    exact ⟨g, off, e, Nat.lt_of_lt_of_le hg hB, hr⟩⟩
theorem satsTL_len : ∀ (n : Nat) (r : List UInt8), ∀ s ∈ (satsTL n r).2, s.length = 7
  | 0, r => by simp [satsTL]
  | n + 1, r => by
    by_cases h : shTE satF (r.take 12) = 0
    · rw [satsTL_ok h]
      intro s hs
      rcases List.mem_cons.1 hs with rfl | hs
      · exact (shape_back h).2.2
      · exact satsTL_len n _ s hs
    · rw [satsTL_bad h]; simp
theorem fv_nsame17 (a : Int) (b : Bool) (c d : Int) (w : World) : (binOp .neq 80 (.agg #[.int .i64 a, .bool b, .int .i64 c, .int .i64 d]) (.agg #[.int .i64 a, .bool b, .int .i64 c, .int .i64 d])).run Try.prog w = .ok (.bool false) w := by
  rw [run_neq_struct, run_equalIn_agg w 9999 _ _ _ (by simp only [Program.fieldsOf, Try.underlying80]) (by kernel_rfl)]
  simp [Program.fieldsOf, Try.underlying80, Op.eqFields, part, run_equalIn_int w _ _ _ _ _ _ Try.underlying3, run_equalIn_int w _ _ _ _ _ _ Try.underlying2, run_equalIn_bool' w _ _ _ _ Try.underlying4]
theorem satsTl_len (b : List UInt8) : ∀ s ∈ satsTl b, s.length = 7 := by
  unfold satsTl
  split
  · exact satsTL_len _ _
  · simp
set_option maxRecDepth 10000 in
set_option maxHeartbeats 8000000 in
theorem satstakes_any (A : Option Addr) (n c : Nat) (b : List UInt8) (w : World) (h : Rd w w.heap.size 1 A n c (bv b)) :
    Calls Try.prog 15 #[.slice A n c] w fun e w' => e = .returned (.bool true) ∧ Below w.heap.size w w' := by
  have hmx := h.max
  have hle := h.le
  unfold maxLen at hmx
  go_enter Try.func15, Try.ntmps15
  by_cases hn : 1000 < n
  · go_wp2_with fail
    go_fit (knows17 _)
    rintro e w1 ⟨rfl, hb1⟩
    go_wp2
    go_ret
    exact ⟨rfl, hb1⟩
  have hp := fun w' hr hB => satsTake_any A n c w.heap.size b w' hr hB (by omega)
  have hq := fun w' hr hB => qsatsTake_any A n c w.heap.size b w' hr hB (by omega)
  have hl7 := satsTl_len b
  unfold RetTSat at hp hq
  generalize satsTt b = oT at *
  generalize satsTE b = oE at *
  generalize satsTl b = oL at *
  have Hp := Lib.hid hp
  have Hq := Lib.hid hq
  have Hl7 := Lib.hid hl7
  clear hp hq hl7
  go_wp2_with fail
  go_fit (knows17 _)
  rintro e w1 ⟨rfl, hb1⟩
  go_wp2_with fail
  go_fit (Hp.out w1 (h.up hb1) hb1.size)
  rintro e w2 ⟨A2, n2, c2, rfl, hr2, hb12⟩
  have hb2 := bnx hb1 hb12
  have hbx := heap_alloc_new w2 (.cells #[.int .i64 oT, .slice A2 n2 c2] 89)
  have hbb : Below w2.heap.size w2 (w2.alloc (.cells #[.int .i64 oT, .slice A2 n2 c2] 89)) := (Below.refl _ _).alloc (Nat.le_refl _) _
  have hb3 := bnx hb2 hbb
  replace hr2 := hr2.nx hbb
  clear hb1 hb12 hb2 hbb
  go_wp2_with fail
  generalize (w2.alloc (.cells #[.int .i64 oT, .slice A2 n2 c2] 89)) = w3 at *
  generalize w2.heap.size = gp at *
  go_fit (Hq.out w3 (h.up hb3) hb3.size)
  rintro e w4 ⟨A4, n4, c4, rfl, hr4, hb34⟩
  have hb4 := bnx hb3 hb34
  replace hr2 := hr2.nx hb34
  replace hbx := blk_old hbx hb34 (blk_lt hbx)
  have hby := heap_alloc_new w4 (.cells #[.int .i64 oT, .slice A4 n4 c4] 89)
  have hbb : Below w4.heap.size w4 (w4.alloc (.cells #[.int .i64 oT, .slice A4 n4 c4] 89)) := (Below.refl _ _).alloc (Nat.le_refl _) _
  have hb5 := bnx hb4 hbb
  replace hr2 := hr2.nx hbb
  replace hr4 := hr4.nx hbb
  replace hbx := blk_old hbx hbb (blk_lt hbx)
  clear hb3 hb34 hb4 hbb
  go_wp2_with fail
  generalize (w4.alloc (.cells #[.int .i64 oT, .slice A4 n4 c4] 89)) = w5 at *
  generalize w4.heap.size = gq at *
  go_fit (satsHead_any w5)
  rintro e w6 ⟨A6, n6, c6, rfl, hn6, hf6, hb56⟩
  have hb6 := bnx hb5 hb56
  replace hr2 := hr2.nx hb56
  replace hr4 := hr4.nx hb56
  replace hbx := blk_old hbx hb56 (blk_lt hbx)
  replace hby := blk_old hby hb56 (blk_lt hby)
  go_wp2_with fail
  go_fit (qsatsHead_any w6)
  rintro e w7 ⟨A7, n7, c7, rfl, hn7, hf7, hb67⟩
  have hb7 := bnx hb6 hb67
  replace hr2 := hr2.nx hb67
  replace hr4 := hr4.nx hb67
  replace hbx := blk_old hbx hb67 (blk_lt hbx)
  replace hby := blk_old hby hb67 (blk_lt hby)
  replace hf6 := (hf6.up hb67).more17 hb67.size
  have e6 : n6 = 4 := by rw [← hf6.1]; rfl
  have e7 : n7 = 4 := by rw [← hf7.1]; rfl
  subst e6
  subst e7
  have hle6 := hf6.2.1
  have hle7 := hf7.2.1
  go_wp2_with fail
  go_loopw [9] (fun i wr => ∃ (k : Nat), k ≤ 4 ∧ i = .int .i64 k ∧ Below w7.heap.size w7 wr) (fun i _ => 4 - (intOf i).toNat)
  case atStart => exact ⟨0, by omega, rfl, Below.refl _ _⟩
  case round =>
    obtain ⟨k, hk, rfl, hb⟩ := hrel
    by_cases hlt : k < 4
    · obtain ⟨g1, off1, f, rfl, hg1, hx1, a0, a1, a2, a3, _⟩ := hf6.at_ hlt
      obtain ⟨g2, off2, f2, rfl, hg2, hx2, b0, b1, b2, b3, _⟩ := hf7.at_ hlt
      rw [hx1] at hx2
      injection hx2 with hx2
      subst hx2
      clear hx1
      obtain ⟨fs, fg, fl, fh⟩ := f
      simp only at a0 a1 a2 a3 b0 b1 b2 b3
      have hns := fv_nsame17 fs fg fl fh
      have r1 : w7.rangeAt g1 (off1 + k * 4) [.int .i64 fs, .bool fg, .int .i64 fl, .int .i64 fh] := fun j v hv => by
        match j, hv with
        | 0, hv => simp at hv; subst hv; exact a0
        | 1, hv => simp at hv; subst hv; exact a1
        | 2, hv => simp at hv; subst hv; exact a2
        | 3, hv => simp at hv; subst hv; exact a3
      have r2 : w7.rangeAt g2 (off2 + k * 4) [.int .i64 fs, .bool fg, .int .i64 fl, .int .i64 fh] := fun j v hv => by
        match j, hv with
        | 0, hv => simp at hv; subst hv; exact b0
        | 1, hv => simp at hv; subst hv; exact b1
        | 2, hv => simp at hv; subst hv; exact b2
        | 3, hv => simp at hv; subst hv; exact b3
      have R1 := Lib.hid r1
      have R2 := Lib.hid r2
      clear a0 a1 a2 a3 b0 b1 b2 b3 r1 r2
      go_wp2_with fail
      refine Ord.region_ (fun w' => Below w7.heap.size w7 w') false [] (by kernel_rfl) (by kernel_rfl) hb.drew ?_
      replace hb := hb.drew
      generalize wr.drew = wd at *
      ((with_reducible refine Ord.e_p (v := ?_) ?_ ?_ ?_ ?_); rotate_left; (· exact rfl); (· kernel_rfl); (· intro w2; go_simp; try with_reducible rfl))
      ((with_reducible refine Ord.e_p (v := ?_) ?_ ?_ ?_ ?_); rotate_left; (· exact rfl); (· kernel_rfl); (· intro w2; go_simp; try with_reducible rfl))
      ((with_reducible refine Ord.e_p (v := ?_) ?_ ?_ ?_ ?_); rotate_left; (· exact rfl); (· kernel_rfl); (· intro w2; go_simp; try with_reducible rfl))
      (try simp only [Act.put, List.setIfInBounds_toArray, List.set_cons_zero, List.set_cons_succ])
      refine Ord.e_rowS Try.underlying80 rfl (by kernel_rfl) rfl (by simp) (fun w' hS j v hv => ((show Below _ w7 w' from hS).cell (p := ⟨g1, off1 + k * 4 + j, none⟩) hg1).trans (R1.out j v hv)) hb (by kernel_rfl) ?_
      (try simp only [Act.put, List.setIfInBounds_toArray, List.set_cons_zero, List.set_cons_succ])
      ((with_reducible refine Ord.e_p (v := ?_) ?_ ?_ ?_ ?_); rotate_left; (· exact rfl); (· kernel_rfl); (· intro w2; go_simp; try with_reducible rfl))
      ((with_reducible refine Ord.e_p (v := ?_) ?_ ?_ ?_ ?_); rotate_left; (· exact rfl); (· kernel_rfl); (· intro w2; go_simp; try with_reducible rfl))
      ((with_reducible refine Ord.e_p (v := ?_) ?_ ?_ ?_ ?_); rotate_left; (· exact rfl); (· kernel_rfl); (· intro w2; go_simp; try with_reducible rfl))
      (try simp only [Act.put, List.setIfInBounds_toArray, List.set_cons_zero, List.set_cons_succ])
      refine Ord.e_rowS Try.underlying80 rfl (by kernel_rfl) rfl (by simp) (fun w' hS j v hv => ((show Below _ w7 w' from hS).cell (p := ⟨g2, off2 + k * 4 + j, none⟩) hg2).trans (R2.out j v hv)) hb (by kernel_rfl) ?_
      (try simp only [Act.put, List.setIfInBounds_toArray, List.set_cons_zero, List.set_cons_succ])
      ((with_reducible refine Ord.e_p (v := ?_) ?_ ?_ ?_ ?_); rotate_left; (· exact rfl); (· kernel_rfl); (· intro w2; go_simp; try with_reducible rfl))
      (try simp only [Act.put, List.setIfInBounds_toArray, List.set_cons_zero, List.set_cons_succ])
      refine Ord.e_nil ?_
      clear hns
      go_wp2
      go_roundw
      case rel => exact ⟨k + 1, by omega, by go_num, hb⟩
      case measure => simp [intOf]; omega
    · obtain rfl : k = 4 := by omega
      have hb8 := bnx hb7 hb
      replace hr2 := hr2.nx hb
      replace hr4 := hr4.nx hb
      replace hbx := blk_old hbx hb (blk_lt hbx)
      replace hby := blk_old hby hb (blk_lt hby)
      clear hle6 hle7 hf6 hf7
      generalize wr = w8 at *
      go_wp2_with fail
      go_fit (satsShape_any w8)
      rintro e w9 ⟨A9, n9, c9, rfl, hn9, hf9, hb89⟩
      have hb9 := bnx hb8 hb89
      replace hr2 := hr2.nx hb89
      replace hr4 := hr4.nx hb89
      replace hbx := blk_old hbx hb89 (blk_lt hbx)
      replace hby := blk_old hby hb89 (blk_lt hby)
      go_wp2_with fail
      go_fit (qsatsShape_any w9)
      rintro e wa ⟨Aa, na, ca, rfl, hna, hfa, hb9a⟩
      have hba := bnx hb9 hb9a
      replace hr2 := hr2.nx hb9a
      replace hr4 := hr4.nx hb9a
      replace hbx := blk_old hbx hb9a (blk_lt hbx)
      replace hby := blk_old hby hb9a (blk_lt hby)
      replace hf9 := (hf9.up hb9a).more17 hb9a.size
      have e9 : n9 = 7 := by rw [← hf9.1]; rfl
      have ea : na = 7 := by rw [← hfa.1]; rfl
      subst e9
      subst ea
      have hle9 := hf9.2.1
      have hlea := hfa.2.1
      clear hb89 hb9a
      go_wp2_with fail
      go_loopw [12] (fun i wr => ∃ (k : Nat), k ≤ 7 ∧ i = .int .i64 k ∧ Below wa.heap.size wa wr) (fun i _ => 7 - (intOf i).toNat)
      case atStart => exact ⟨0, by omega, rfl, Below.refl _ _⟩
      case round =>
        obtain ⟨k, hk, rfl, hb⟩ := hrel
        by_cases hlt : k < 7
        · obtain ⟨g1, off1, f, rfl, hg1, hx1, a0, a1, a2, a3, _⟩ := hf9.at_ hlt
          obtain ⟨g2, off2, f2, rfl, hg2, hx2, b0, b1, b2, b3, _⟩ := hfa.at_ hlt
          rw [hx1] at hx2
          injection hx2 with hx2
          subst hx2
          clear hx1
          obtain ⟨fs, fg, fl, fh⟩ := f
          simp only at a0 a1 a2 a3 b0 b1 b2 b3
          have hns := fv_nsame17 fs fg fl fh
          have r1 : wa.rangeAt g1 (off1 + k * 4) [.int .i64 fs, .bool fg, .int .i64 fl, .int .i64 fh] := fun j v hv => by
            match j, hv with
            | 0, hv => simp at hv; subst hv; exact a0
            | 1, hv => simp at hv; subst hv; exact a1
            | 2, hv => simp at hv; subst hv; exact a2
            | 3, hv => simp at hv; subst hv; exact a3
          have r2 : wa.rangeAt g2 (off2 + k * 4) [.int .i64 fs, .bool fg, .int .i64 fl, .int .i64 fh] := fun j v hv => by
            match j, hv with
            | 0, hv => simp at hv; subst hv; exact b0
            | 1, hv => simp at hv; subst hv; exact b1
            | 2, hv => simp at hv; subst hv; exact b2
            | 3, hv => simp at hv; subst hv; exact b3
          have R1 := Lib.hid r1
          have R2 := Lib.hid r2
          clear a0 a1 a2 a3 b0 b1 b2 b3 r1 r2
          go_wp2_with fail
          refine Ord.region_ (fun w' => Below wa.heap.size wa w') false [] (by kernel_rfl) (by kernel_rfl) hb.drew ?_
          replace hb := hb.drew
          generalize wr.drew = wd at *
          ((with_reducible refine Ord.e_p (v := ?_) ?_ ?_ ?_ ?_); rotate_left; (· exact rfl); (· kernel_rfl); (· intro w2; go_simp; try with_reducible rfl))
          ((with_reducible refine Ord.e_p (v := ?_) ?_ ?_ ?_ ?_); rotate_left; (· exact rfl); (· kernel_rfl); (· intro w2; go_simp; try with_reducible rfl))
          ((with_reducible refine Ord.e_p (v := ?_) ?_ ?_ ?_ ?_); rotate_left; (· exact rfl); (· kernel_rfl); (· intro w2; go_simp; try with_reducible rfl))
          (try simp only [Act.put, List.setIfInBounds_toArray, List.set_cons_zero, List.set_cons_succ])
          refine Ord.e_rowS Try.underlying80 rfl (by kernel_rfl) rfl (by simp) (fun w' hS j v hv => ((show Below _ wa w' from hS).cell (p := ⟨g1, off1 + k * 4 + j, none⟩) hg1).trans (R1.out j v hv)) hb (by kernel_rfl) ?_
          (try simp only [Act.put, List.setIfInBounds_toArray, List.set_cons_zero, List.set_cons_succ])
          ((with_reducible refine Ord.e_p (v := ?_) ?_ ?_ ?_ ?_); rotate_left; (· exact rfl); (· kernel_rfl); (· intro w2; go_simp; try with_reducible rfl))
          ((with_reducible refine Ord.e_p (v := ?_) ?_ ?_ ?_ ?_); rotate_left; (· exact rfl); (· kernel_rfl); (· intro w2; go_simp; try with_reducible rfl))
          ((with_reducible refine Ord.e_p (v := ?_) ?_ ?_ ?_ ?_); rotate_left; (· exact rfl); (· kernel_rfl); (· intro w2; go_simp; try with_reducible rfl))
          (try simp only [Act.put, List.setIfInBounds_toArray, List.set_cons_zero, List.set_cons_succ])
          refine Ord.e_rowS Try.underlying80 rfl (by kernel_rfl) rfl (by simp) (fun w' hS j v hv => ((show Below _ wa w' from hS).cell (p := ⟨g2, off2 + k * 4 + j, none⟩) hg2).trans (R2.out j v hv)) hb (by kernel_rfl) ?_
          (try simp only [Act.put, List.setIfInBounds_toArray, List.set_cons_zero, List.set_cons_succ])
          ((with_reducible refine Ord.e_p (v := ?_) ?_ ?_ ?_ ?_); rotate_left; (· exact rfl); (· kernel_rfl); (· intro w2; go_simp; try with_reducible rfl))
          (try simp only [Act.put, List.setIfInBounds_toArray, List.set_cons_zero, List.set_cons_succ])
          refine Ord.e_nil ?_
          clear hns
          go_wp2
          go_roundw
          case rel => exact ⟨k + 1, by omega, by go_num, hb⟩
          case measure => simp [intOf]; omega
        · obtain rfl : k = 7 := by omega

          have hbz := bnx hba hb
          replace hr2 := hr2.nx hb
          replace hr4 := hr4.nx hb
          replace hbx := blk_old hbx hb (blk_lt hbx)
          replace hby := blk_old hby hb (blk_lt hby)
          clear hle9 hlea hf9 hfa
          generalize wr = wz at *
          obtain rfl : n4 = n2 := by
            have i2 := hr2.1
            have i4 := hr4.1
            omega
          have p0 := blk_cell (i := 0) (v := .int .i64 oT) hbx rfl
          have p1 := blk_cell (i := 1) (v := .slice A2 n4 c2) hbx rfl
          have q0 := blk_cell (i := 0) (v := .int .i64 oT) hby rfl
          have q1 := blk_cell (i := 1) (v := .slice A4 n4 c4) hby rfl
          go_wp2_with fail
          go_fit (same17_any oT A2 A4 n4 c2 c4 oL wz hr2 hr4 Hl7.out)
          rintro e wy ⟨rfl, hbf⟩
          have hby' := bnx hbz hbf
          clear p0 p1 q0 q1
          go_wp2_with fail
          go_fit (num17_any _ _)
          rintro e w9 ⟨rfl, rfl⟩
          go_wp2_with fail
          go_fit (num17_any _ _)
          rintro e w9 ⟨rfl, rfl⟩
          go_wp2
          go_ret
          exact ⟨rfl, hby'⟩

end Go.Proofs.Ytkelepnipndbbaa
