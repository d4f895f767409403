/-
  Messages of layer 16 are compared; the law PvtPuts walked.
-/
import Derived.Test.YtkelepnipndbbaaPvt4
import Derived.Test.YtkelepnipndbbaaPvt11
import Derived.Laws.StructEq
set_option linter.unusedSimpArgs false
set_option linter.unusedVariables false
namespace Go.Proofs.Ytkelepnipndbbaa
open Go.RowKit NumLaw
attribute [local go_sem] Addr.add_mid

theorem RdF.more {w : World} {B B' n c : Nat} {A : Option Addr} {l : List FieldV} (h : RdF w B A n c l) (hB : B ≤ B') : RdF w B' A n c l :=
  ⟨h.1, h.2.1, h.2.2.1, fun hn => by obtain ⟨g, off, e, hg, r⟩ := h.2.2.2 hn; exact ⟨g, off, e, by omega, r⟩⟩
theorem pvt_held : Try.prog.stoodInHeld 66 = false := by kernel_rfl
theorem part_i64 (xs : List Int) (o : Nat) (x : Int) (w : World) (h : xs[o]? = some x) : (part 2 (pvC xs) o).run Try.prog w = .ok (.int .i64 x) w := by
  have h' : (pvC xs)[o]? = some (.int .i64 x) := pvC_at h
  have h2 : (pvC xs).getD o undef = .int .i64 x := by rw [Array.getD_eq_getD_getElem?, h']; rfl
  simp [part, isAgg, run_underlying Try.underlying2, h']
theorem eqF_same (xs : List Int) (d : Nat) (w : World) : ∀ (fs : List Field), (∀ f ∈ fs, f.type = 2 ∧ f.offset < xs.length) → (Op.eqFields (d + 1) (pvC xs) (pvC xs) fs).run Try.prog w = .ok true w
  | [], _ => by simp [Op.eqFields]
  | f :: fs, h => by
    obtain ⟨ht, ho⟩ := h f List.mem_cons_self
    have ih := eqF_same xs d w fs (fun g hg => h g (List.mem_cons_of_mem _ hg))
    have hp := part_i64 xs f.offset xs[f.offset] w (List.getElem?_eq_getElem ho)
    simp only [Op.eqFields, ht]
    split
    · simp only [Sem.run_bind, hp, Result.andThen_ok, run_equalIn_int w _ _ _ _ _ _ Try.underlying2, beq_self_eq_true, Bool.not_true, Bool.false_eq_true, if_false, Sem.run_ite]
      exact ih
    · exact ih
theorem pvt_fields : (Try.prog.fieldsOf 66).toList.all (fun f => f.type == 2 && decide (f.offset < 32)) = true := by kernel_rfl
theorem pvt_same (xs : List Int) (hl : xs.length = 32) (w : World) : (binOp .eql 66 (.agg (pvC xs)) (.agg (pvC xs))).run Try.prog w = .ok (.bool true) w := by
  rw [run_eql_struct, run_equalIn_agg w 9999 _ _ _ (by simp only [Program.fieldsOf, Try.underlying66]) pvt_held]
  rw [eqF_same xs 9998 w _ (fun f hf => by
    have := List.all_eq_true.1 pvt_fields f hf
    simp at this
    exact ⟨this.1, by omega⟩)]
  rfl
theorem pvt_nsame (xs : List Int) (hl : xs.length = 32) (w : World) : (binOp .neq 66 (.agg (pvC xs)) (.agg (pvC xs))).run Try.prog w = .ok (.bool false) w := by
  rw [run_neq_struct, run_equalIn_agg w 9999 _ _ _ (by simp only [Program.fieldsOf, Try.underlying66]) pvt_held]
  rw [eqF_same xs 9998 w _ (fun f hf => by
    have := List.all_eq_true.1 pvt_fields f hf
    simp at this
    exact ⟨this.1, by omega⟩)]
  rfl

theorem pvt_same' (xs : List Int) (hl : xs.length = 32) (w : World) : (binOp .eql 66 (.agg (xs.map (Value.int .i64)).toArray) (.agg (xs.map (Value.int .i64)).toArray)).run Try.prog w = .ok (.bool true) w := pvt_same xs hl w
theorem pof_vals {xs : List Int} (hl : xs.length = 32) : pofOk (valsOf xs) = true ∧ pofV (valsOf xs) = xs := by
  have h1 : pofOk (valsOf xs) = true := by
    unfold pofOk
    refine decide_eq_true ⟨valsOf_len hl, ?_⟩
    rw [valsOf_at hl, if_neg (by omega), if_pos rfl]
  exact ⟨h1, by unfold pofV; rw [if_pos h1, msgOf_valsOf hl]⟩
theorem fv_nsame (a : Int) (b : Bool) (c d : Int) (w : World) : (binOp .neq 80 (.agg #[.int .i64 a, .bool b, .int .i64 c, .int .i64 d]) (.agg #[.int .i64 a, .bool b, .int .i64 c, .int .i64 d])).run Try.prog w = .ok (.bool false) w := by
  rw [run_neq_struct, run_equalIn_agg w 9999 _ _ _ (by simp only [Program.fieldsOf, Try.underlying80]) (by kernel_rfl)]
  simp [Program.fieldsOf, Try.underlying80, Op.eqFields, part, run_equalIn_int w _ _ _ _ _ _ Try.underlying3, run_equalIn_int w _ _ _ _ _ _ Try.underlying2, run_equalIn_bool' w _ _ _ _ Try.underlying4]
set_option maxRecDepth 100000 in
set_option maxHeartbeats 8000000 in
theorem pvtputs_any (xs : List Int) (w : World) (hl : xs.length = 32) (hb : ∀ z ∈ xs, -9223372036854775808 ≤ z ∧ z ≤ 9223372036854775807) :
    Calls Try.prog 11 #[.agg (pvC xs)] w fun e w' => e = .returned (.bool true) ∧ Below w.heap.size w w' := by
  have hput := fun w => pvtPut_any xs w hl hb
  have hqput := fun w => qpvtPut_any xs w hl hb
  obtain ⟨oP, hoP⟩ : ∃ oP, oP = shP pvtF (valsOf xs) := ⟨_, rfl⟩
  obtain ⟨oE, hoE⟩ : ∃ oE, oE = shE pvtF (valsOf xs) := ⟨_, rfl⟩
  rw [← hoP, ← hoE] at hput hqput
  have Hput := Lib.hid hput
  have Hqput := Lib.hid hqput
  have Hl := Lib.hid hl
  obtain ⟨vs, hvs⟩ : ∃ vs, vs = valsOf xs := ⟨_, rfl⟩
  have hvl := valsOf_len hl
  have hpof := pof_vals hl
  have Hval := Lib.hid (fun w => values_any xs w hl)
  have Hqval := Lib.hid (fun w => qvalues_any xs w hl)
  rw [← hvs] at hvl hpof Hval Hqval
  have Hvl := Lib.hid hvl
  have Hpof := Lib.hid hpof
  have hb1 : Below w.heap.size w (w.alloc (.cells (pvC xs) 66)) := (Below.refl _ _).alloc (Nat.le_refl _) _
  have hbox := heap_alloc_new w (.cells (pvC xs) 66)
  have hsz32 : (Try.prog.info? 66).map (·.size) = some (pvC xs).size := by rw [pvC_size, hl, pvt_size]
  have Hsz := Lib.hid hsz32
  clear hput hqput hb hoP hoE hl hvs hvl hpof hsz32
  go_enter Try.func11, Try.ntmps11
  go_wp2_with (first | (with_reducible refine stop_loadT 66 ?_) | (with_reducible refine stop_storeT 66 ?_))
  generalize (w.alloc (.cells (pvC xs) 66)) = w1 at *
  refine go_ (wpList_load_row rfl _ _ rfl w.heap.size rfl _ _ _ _ hbox Try.underlying66 rfl Hsz.out ?_)
  go_wp2_with (first | (with_reducible refine stop_loadT 66 ?_) | (with_reducible refine stop_storeT 66 ?_))
  go_fit (Hput.out _)
  rintro e w2 ⟨A2, n2, c2, rfl, hown2, hb12⟩
  have hr2 := Rd.own hown2
  have hb2 := bnx hb1 hb12
  replace hbox := blk_old hbox hb12 (blk_lt hbox)
  clear hown2 hb1 hb12
  go_wp2_with (first | (with_reducible refine stop_loadT 66 ?_) | (with_reducible refine stop_storeT 66 ?_))
  refine go_ (wpList_load_row rfl _ _ rfl w.heap.size rfl _ _ _ _ hbox Try.underlying66 rfl Hsz.out ?_)
  go_wp2_with (first | (with_reducible refine stop_loadT 66 ?_) | (with_reducible refine stop_storeT 66 ?_))
  go_fit (Hqput.out _)
  rintro e w3 ⟨A3, n3, c3, rfl, hown3, hb23⟩
  have hr3 := Rd.own hown3
  replace hr2 := hr2.nx hb23
  have hb3 := bnx hb2 hb23
  replace hbox := blk_old hbox hb23 (blk_lt hbox)
  clear hown3 hb2 hb23
  go_wp2_with (first | (with_reducible refine stop_loadT 66 ?_) | (with_reducible refine stop_storeT 66 ?_))
  refine go_ (wpList_load_row rfl _ _ rfl w.heap.size rfl _ _ _ _ hbox Try.underlying66 rfl Hsz.out ?_)
  go_wp2_with (first | (with_reducible refine stop_loadT 66 ?_) | (with_reducible refine stop_storeT 66 ?_))
  go_fit (Hval.out _)
  rintro e w4 ⟨A4, n4, c4, rfl, hown4, hb34⟩
  have hof := of_any A4 n4 c4 w4.heap.size vs w4 (Rd.own hown4) (Nat.le_refl _)
  unfold RetM at hof
  rw [Hpof.out.1, Hpof.out.2] at hof
  have Hof := Lib.hid hof
  have hb4 := bnx hb3 hb34
  replace hr2 := hr2.nx hb34
  replace hr3 := hr3.nx hb34
  replace hbox := blk_old hbox hb34 (blk_lt hbox)
  clear hof hown4 hb3 hb34
  go_wp2_with (first | (with_reducible refine stop_loadT 66 ?_) | (with_reducible refine stop_storeT 66 ?_))
  go_fit Hof.out
  rintro e w5 ⟨rfl, hb45⟩
  have hb5 := bnx hb4 hb45
  replace hr2 := hr2.nx hb45
  replace hr3 := hr3.nx hb45
  replace hbox := blk_old hbox hb45 (blk_lt hbox)
  have q1 := heap_alloc_new w5 (.cells #[.int .i64 0, .int .i64 0, .int .i64 0, .int .i64 0, .int .i64 0, .int .i64 0, .int .i64 0, .int .i64 0, .int .i64 0, .int .i64 0, .int .i64 0, .int .i64 0, .int .i64 0, .int .i64 0, .int .i64 0, .int .i64 0, .int .i64 0, .int .i64 0, .int .i64 0, .int .i64 0, .int .i64 0, .int .i64 0, .int .i64 0, .int .i64 0, .int .i64 0, .int .i64 0, .int .i64 0, .int .i64 0, .int .i64 0, .int .i64 0, .int .i64 0, .int .i64 0] 66)
  have hb6 := hb5.alloc hb5.size (.cells #[.int .i64 0, .int .i64 0, .int .i64 0, .int .i64 0, .int .i64 0, .int .i64 0, .int .i64 0, .int .i64 0, .int .i64 0, .int .i64 0, .int .i64 0, .int .i64 0, .int .i64 0, .int .i64 0, .int .i64 0, .int .i64 0, .int .i64 0, .int .i64 0, .int .i64 0, .int .i64 0, .int .i64 0, .int .i64 0, .int .i64 0, .int .i64 0, .int .i64 0, .int .i64 0, .int .i64 0, .int .i64 0, .int .i64 0, .int .i64 0, .int .i64 0, .int .i64 0] 66)
  have hbl : Below w5.heap.size w5 (w5.alloc (.cells #[.int .i64 0, .int .i64 0, .int .i64 0, .int .i64 0, .int .i64 0, .int .i64 0, .int .i64 0, .int .i64 0, .int .i64 0, .int .i64 0, .int .i64 0, .int .i64 0, .int .i64 0, .int .i64 0, .int .i64 0, .int .i64 0, .int .i64 0, .int .i64 0, .int .i64 0, .int .i64 0, .int .i64 0, .int .i64 0, .int .i64 0, .int .i64 0, .int .i64 0, .int .i64 0, .int .i64 0, .int .i64 0, .int .i64 0, .int .i64 0, .int .i64 0, .int .i64 0] 66)) := (Below.refl _ _).alloc (Nat.le_refl _) _
  have hlt5 := blk_lt hbox
  replace hbox := blk_old hbox hbl hlt5
  replace hr2 := hr2.up hbl
  replace hr3 := hr3.up hbl
  have hge := hb5.size
  clear hb4 hb45 hb5 Hof
  go_wp2_with (first | (with_reducible refine stop_loadT 66 ?_) | (with_reducible refine stop_storeT 66 ?_))
  generalize (w5.alloc (.cells #[.int .i64 0, .int .i64 0, .int .i64 0, .int .i64 0, .int .i64 0, .int .i64 0, .int .i64 0, .int .i64 0, .int .i64 0, .int .i64 0, .int .i64 0, .int .i64 0, .int .i64 0, .int .i64 0, .int .i64 0, .int .i64 0, .int .i64 0, .int .i64 0, .int .i64 0, .int .i64 0, .int .i64 0, .int .i64 0, .int .i64 0, .int .i64 0, .int .i64 0, .int .i64 0, .int .i64 0, .int .i64 0, .int .i64 0, .int .i64 0, .int .i64 0, .int .i64 0] 66)) = w6 at *
  generalize w5.heap.size = g5 at *
  refine go_ (wpList_store_row rfl _ _ _ rfl g5 (pvC xs) rfl rfl _ _ q1 Hsz.out (by rw [pvC_size, Hl.out]; rfl) (pvC_one _) ?_)
  have hb7 := below_setRow hb6 hge (pvC xs)
  have hbl7 := below_setRow (Below.refl g5 w6) (Nat.le_refl _) (pvC xs)
  have q2 := setRow_heap _ _ _ (pvC xs) _ _ q1
  replace hbox := (hbl7.block _ hlt5).trans hbox
  replace hr2 := hr2.up hbl7
  replace hr3 := hr3.up hbl7
  generalize (w6.setRow g5 (pvC xs)) = w7 at *
  have hlt7 := blk_lt q2
  replace hr2 := hr2.more (show g5 ≤ w7.heap.size by omega)
  replace hr3 := hr3.more (show g5 ≤ w7.heap.size by omega)
  clear hb6 hbl hbl7 q1
  go_wp2_with fail
  go_fit (pvtShape_any _)
  rintro e w8 ⟨A8, n8, c8, rfl, hn8, hf8, hb78⟩
  replace hr2 := hr2.nx hb78
  replace hr3 := hr3.nx hb78
  replace hbox := blk_old hbox hb78 (blk_lt hbox)
  replace q2 := blk_old q2 hb78 (blk_lt q2)
  have hb8 := bnx hb7 hb78
  clear hb7 hb78
  go_wp2_with fail
  go_fit (qpvtShape_any _)
  rintro e w9 ⟨A9, n9, c9, rfl, hn9, hf9, hb89⟩
  replace hr2 := hr2.nx hb89
  replace hr3 := hr3.nx hb89
  replace hbox := blk_old hbox hb89 (blk_lt hbox)
  replace q2 := blk_old q2 hb89 (blk_lt q2)
  have hf8' := (hf8.up hb89).more hb89.size
  have hb9 := bnx hb8 hb89
  clear hb8 hb89 hf8 hlt5 hlt7
  have e8 : n8 = 33 := by rw [← hf8'.1, pvtF_len]
  have e9 : n9 = 33 := by rw [← hf9.1, pvtF_len]
  subst e8
  subst e9
  have hle8 := hf8'.2.1
  have hle9 := hf9.2.1
  go_wp2_with fail
  go_loopw [11] (fun i wr => ∃ (k : Nat), k ≤ 33 ∧ i = .int .i64 k ∧ Below w9.heap.size w9 wr) (fun i _ => 33 - (intOf i).toNat)
  case atStart => exact ⟨0, by omega, rfl, Below.refl _ _⟩
  case round =>
    obtain ⟨k, hk, rfl, hb⟩ := hrel
    by_cases hlt : k < 33
    · obtain ⟨g1, off1, f, rfl, hg1, hx1, a0, a1, a2, a3, _⟩ := hf8'.at_ hlt
      obtain ⟨g2, off2, f2, rfl, hg2, hx2, b0, b1, b2, b3, _⟩ := hf9.at_ hlt
      rw [hx1] at hx2
      injection hx2 with hx2
      subst hx2
      clear hx1
      obtain ⟨fs, fg, fl, fh⟩ := f
      simp only at a0 a1 a2 a3 b0 b1 b2 b3
      have hns := fv_nsame fs fg fl fh
      have r1 : w9.rangeAt g1 (off1 + k * 4) [.int .i64 fs, .bool fg, .int .i64 fl, .int .i64 fh] := fun j v hv => by
        match j, hv with
        | 0, hv => simp at hv; subst hv; exact a0
        | 1, hv => simp at hv; subst hv; exact a1
        | 2, hv => simp at hv; subst hv; exact a2
        | 3, hv => simp at hv; subst hv; exact a3
      have r2 : w9.rangeAt g2 (off2 + k * 4) [.int .i64 fs, .bool fg, .int .i64 fl, .int .i64 fh] := fun j v hv => by
        match j, hv with
        | 0, hv => simp at hv; subst hv; exact b0
        | 1, hv => simp at hv; subst hv; exact b1
        | 2, hv => simp at hv; subst hv; exact b2
        | 3, hv => simp at hv; subst hv; exact b3
      have R1 := Lib.hid r1
      have R2 := Lib.hid r2
      clear a0 a1 a2 a3 b0 b1 b2 b3 r1 r2
      go_wp2_with fail
      refine Ord.region_ (fun w' => Below w9.heap.size w9 w') false [] (by kernel_rfl) (by kernel_rfl) hb.drew ?_
      replace hb := hb.drew
      generalize wr.drew = wd at *
      ((with_reducible refine Ord.e_p (v := ?_) ?_ ?_ ?_ ?_); rotate_left; (· exact rfl); (· kernel_rfl); (· intro w2; go_simp; try with_reducible rfl))
      ((with_reducible refine Ord.e_p (v := ?_) ?_ ?_ ?_ ?_); rotate_left; (· exact rfl); (· kernel_rfl); (· intro w2; go_simp; try with_reducible rfl))
      ((with_reducible refine Ord.e_p (v := ?_) ?_ ?_ ?_ ?_); rotate_left; (· exact rfl); (· kernel_rfl); (· intro w2; go_simp; try with_reducible rfl))
      (try simp only [Act.put, List.setIfInBounds_toArray, List.set_cons_zero, List.set_cons_succ])
      refine Ord.e_rowS Try.underlying80 rfl (by kernel_rfl) rfl (by simp) (fun w' hS j v hv => ((show Below _ w9 w' from hS).cell (p := ⟨g1, off1 + k * 4 + j, none⟩) hg1).trans (R1.out j v hv)) hb (by kernel_rfl) ?_
      (try simp only [Act.put, List.setIfInBounds_toArray, List.set_cons_zero, List.set_cons_succ])
      ((with_reducible refine Ord.e_p (v := ?_) ?_ ?_ ?_ ?_); rotate_left; (· exact rfl); (· kernel_rfl); (· intro w2; go_simp; try with_reducible rfl))
      ((with_reducible refine Ord.e_p (v := ?_) ?_ ?_ ?_ ?_); rotate_left; (· exact rfl); (· kernel_rfl); (· intro w2; go_simp; try with_reducible rfl))
      ((with_reducible refine Ord.e_p (v := ?_) ?_ ?_ ?_ ?_); rotate_left; (· exact rfl); (· kernel_rfl); (· intro w2; go_simp; try with_reducible rfl))
      (try simp only [Act.put, List.setIfInBounds_toArray, List.set_cons_zero, List.set_cons_succ])
      refine Ord.e_rowS Try.underlying80 rfl (by kernel_rfl) rfl (by simp) (fun w' hS j v hv => ((show Below _ w9 w' from hS).cell (p := ⟨g2, off2 + k * 4 + j, none⟩) hg2).trans (R2.out j v hv)) hb (by kernel_rfl) ?_
      (try simp only [Act.put, List.setIfInBounds_toArray, List.set_cons_zero, List.set_cons_succ])
      ((with_reducible refine Ord.e_p (v := ?_) ?_ ?_ ?_ ?_); rotate_left; (· exact rfl); (· kernel_rfl); (· intro w2; go_simp; try with_reducible rfl))
      (try simp only [Act.put, List.setIfInBounds_toArray, List.set_cons_zero, List.set_cons_succ])
      refine Ord.e_nil ?_
      clear hns
      go_wp2
      go_roundw
      case rel => exact ⟨k + 1, by omega, by go_num, hb⟩
      case measure => simp [intOf]; omega
    · obtain rfl : k = 33 := by omega
      replace hbox := blk_old hbox hb (blk_lt hbox)
      replace q2 := blk_old q2 hb (blk_lt q2)
      replace hr2 := hr2.nx hb
      replace hr3 := hr3.nx hb
      replace hb9 := bnx hb9 hb
      clear hb hf8' hf9
      go_wp2_with fail
      generalize wr = w0 at *
      have hlb := blk_lt hbox
      have hlq := blk_lt q2
      have rb : w0.rangeAt w.heap.size 0 (xs.map (Value.int .i64)) := own_range hbox 0 (fun j v hv => by simpa [pvC] using hv)
      have rq : w0.rangeAt g5 0 (xs.map (Value.int .i64)) := own_range q2 0 (fun j v hv => by simpa [pvC] using hv)
      clear hbox q2 hle8 hle9 hn8 hn9
      have hsm := Lib.hid (pvt_same' xs Hl.out)
      refine Ord.region_ (fun w' => Below w0.heap.size w0 w') false [] (by kernel_rfl) (by kernel_rfl) ((Below.refl _ _).drew) ?_
      have h0 : Below w0.heap.size w0 w0.drew := (Below.refl _ _).drew
      generalize w0.drew = u0 at *
      ((with_reducible refine Ord.e_p (v := ?_) ?_ ?_ ?_ ?_); rotate_left; (· exact rfl); (· kernel_rfl); (· intro w2; go_simp; try with_reducible rfl))
      (try simp only [Act.put, List.setIfInBounds_toArray, List.set_cons_zero, List.set_cons_succ])
      refine Ord.e_strS Try.underlying46 Try.underlying5 Try.underlying9 (fun w' hS => hr2.up (show Below w0.heap.size w0 w' from hS)) h0 h0.size rfl (by kernel_rfl) ?_
      (try simp only [Act.put, List.setIfInBounds_toArray, List.set_cons_zero, List.set_cons_succ])
      ((with_reducible refine Ord.e_p (v := ?_) ?_ ?_ ?_ ?_); rotate_left; (· exact rfl); (· kernel_rfl); (· intro w2; go_simp; try with_reducible rfl))
      (try simp only [Act.put, List.setIfInBounds_toArray, List.set_cons_zero, List.set_cons_succ])
      refine Ord.e_strS Try.underlying46 Try.underlying5 Try.underlying9 (fun w' hS => hr3.up (show Below w0.heap.size w0 w' from hS)) h0 h0.size rfl (by kernel_rfl) ?_
      (try simp only [Act.put, List.setIfInBounds_toArray, List.set_cons_zero, List.set_cons_succ])
      (with_reducible refine Ord.e_p (v := .bool true) ?_ ?_ ?_ ?_)
      · exact rfl
      · kernel_rfl
      · intro w2; go_simp
      (try simp only [Act.put, List.setIfInBounds_toArray, List.set_cons_zero, List.set_cons_succ])
      ((with_reducible refine Ord.e_p (v := ?_) ?_ ?_ ?_ ?_); rotate_left; (· exact rfl); (· kernel_rfl); (· intro w2; go_simp; try with_reducible rfl))
      (try simp only [Act.put, List.setIfInBounds_toArray, List.set_cons_zero, List.set_cons_succ])
      ((with_reducible refine Ord.e_p (v := ?_) ?_ ?_ ?_ ?_); rotate_left; (· exact rfl); (· kernel_rfl); (· intro w2; go_simp; try with_reducible rfl))
      (try simp only [Act.put, List.setIfInBounds_toArray, List.set_cons_zero, List.set_cons_succ])
      refine Ord.e_x rfl (by kernel_rfl) ?_
      go_wp2_with fail
      go_fit (num16_any _ _)
      rintro e uz ⟨rfl, rfl⟩
      go_wp2_with fail
      refine Ord.Seg.go h0 (fun h => by cases h) ?_
      (try simp only [Act.put, List.setIfInBounds_toArray, List.set_cons_zero, List.set_cons_succ])
      ((with_reducible refine Ord.e_p (v := ?_) ?_ ?_ ?_ ?_); rotate_left; (· exact rfl); (· kernel_rfl); (· intro w2; go_simp; try with_reducible rfl))
      (try simp only [Act.put, List.setIfInBounds_toArray, List.set_cons_zero, List.set_cons_succ])
      refine Ord.e_x rfl (by kernel_rfl) ?_
      go_wp2_with fail
      go_fit (num16_any _ _)
      rintro e uz ⟨rfl, rfl⟩
      go_wp2_with fail
      refine Ord.Seg.go h0 (fun h => by cases h) ?_
      (try simp only [Act.put, List.setIfInBounds_toArray, List.set_cons_zero, List.set_cons_succ])
      ((with_reducible refine Ord.e_p (v := ?_) ?_ ?_ ?_ ?_); rotate_left; (· exact rfl); (· kernel_rfl); (· intro w2; go_simp; try with_reducible rfl))
      (try simp only [Act.put, List.setIfInBounds_toArray, List.set_cons_zero, List.set_cons_succ])
      ((with_reducible refine Ord.e_p (v := ?_) ?_ ?_ ?_ ?_); rotate_left; (· exact rfl); (· kernel_rfl); (· intro w2; go_simp; try with_reducible rfl))
      (try simp only [Act.put, List.setIfInBounds_toArray, List.set_cons_zero, List.set_cons_succ])
      ((with_reducible refine Ord.e_p (v := ?_) ?_ ?_ ?_ ?_); rotate_left; (· exact rfl); (· kernel_rfl); (· intro w2; go_simp; try with_reducible rfl))
      (try simp only [Act.put, List.setIfInBounds_toArray, List.set_cons_zero, List.set_cons_succ])
      refine Ord.e_rowS (cs := xs.map (Value.int .i64)) Try.underlying66 rfl (by rw [pvt_size, List.length_map, Hl.out]) rfl (by intro h; have := Hl.out; rw [List.map_eq_nil_iff.1 h] at this; cases this) (fun w' hS j v hv => ((show Below _ w0 w' from hS).cell (p := ⟨w.heap.size, 0 + j, none⟩) hlb).trans (rb j v hv)) h0 (by kernel_rfl) ?_
      (try simp only [Act.put, List.setIfInBounds_toArray, List.set_cons_zero, List.set_cons_succ])
      refine Ord.e_x rfl (by kernel_rfl) ?_
      go_wp2_with fail
      go_fit (Hval.out _)
      rintro e u1 ⟨Aa, na, ca, rfl, howna, hba⟩
      have h1 := h0.trans (hba.mono h0.size)
      have hra := Rd.own howna
      go_wp2_with fail
      refine Ord.Seg.go h1 (fun h => by cases h) ?_
      (try simp only [Act.put, List.setIfInBounds_toArray, List.set_cons_zero, List.set_cons_succ])
      clear hba howna
      refine Ord.e_rowS (cs := xs.map (Value.int .i64)) Try.underlying66 rfl (by rw [pvt_size, List.length_map, Hl.out]) rfl (by intro h; have := Hl.out; rw [List.map_eq_nil_iff.1 h] at this; cases this) (fun w' hS j v hv => ((show Below _ w0 w' from hS).cell (p := ⟨w.heap.size, 0 + j, none⟩) hlb).trans (rb j v hv)) h1 (by kernel_rfl) ?_
      (try simp only [Act.put, List.setIfInBounds_toArray, List.set_cons_zero, List.set_cons_succ])
      refine Ord.e_x rfl (by kernel_rfl) ?_
      go_wp2_with fail
      go_fit (Hqval.out _)
      rintro e u2 ⟨Ab, nb, cb, rfl, hownb, hbb⟩
      have h2 := h1.trans (hbb.mono h1.size)
      have hrb := Rd.own hownb
      replace hra := hra.nx hbb
      go_wp2_with fail
      refine Ord.Seg.go h2 (fun h => by cases h) ?_
      (try simp only [Act.put, List.setIfInBounds_toArray, List.set_cons_zero, List.set_cons_succ])
      clear hbb hownb h1
      have hsame := same_any Aa na ca u2.heap.size vs Ab nb cb u2.heap.size vs u2 hra (Nat.le_refl _) hrb (Nat.le_refl _)
      rw [decide_eq_true rfl] at hsame
      refine Ord.e_x rfl (by kernel_rfl) ?_
      go_wp2_with fail
      go_fit hsame
      rintro e u3 ⟨rfl, hbc⟩
      have h3 := h2.trans (hbc.mono h2.size)
      go_wp2_with fail
      refine Ord.Seg.go h3 (fun h => by cases h) ?_
      (try simp only [Act.put, List.setIfInBounds_toArray, List.set_cons_zero, List.set_cons_succ])
      clear hbc h2 hsame hra hrb
      ((with_reducible refine Ord.e_p (v := ?_) ?_ ?_ ?_ ?_); rotate_left; (· exact rfl); (· kernel_rfl); (· intro w2; go_simp; try with_reducible rfl))
      (try simp only [Act.put, List.setIfInBounds_toArray, List.set_cons_zero, List.set_cons_succ])
      ((with_reducible refine Ord.e_p (v := ?_) ?_ ?_ ?_ ?_); rotate_left; (· exact rfl); (· kernel_rfl); (· intro w2; go_simp; try with_reducible rfl))
      (try simp only [Act.put, List.setIfInBounds_toArray, List.set_cons_zero, List.set_cons_succ])
      refine Ord.e_rowS (cs := xs.map (Value.int .i64)) Try.underlying66 rfl (by rw [pvt_size, List.length_map, Hl.out]) rfl (by intro h; have := Hl.out; rw [List.map_eq_nil_iff.1 h] at this; cases this) (fun w' hS j v hv => ((show Below _ w0 w' from hS).cell (p := ⟨g5, 0 + j, none⟩) hlq).trans (rq j v hv)) h3 (by kernel_rfl) ?_
      (try simp only [Act.put, List.setIfInBounds_toArray, List.set_cons_zero, List.set_cons_succ])
      refine Ord.e_rowS (cs := xs.map (Value.int .i64)) Try.underlying66 rfl (by rw [pvt_size, List.length_map, Hl.out]) rfl (by intro h; have := Hl.out; rw [List.map_eq_nil_iff.1 h] at this; cases this) (fun w' hS j v hv => ((show Below _ w0 w' from hS).cell (p := ⟨w.heap.size, 0 + j, none⟩) hlb).trans (rb j v hv)) h3 (by kernel_rfl) ?_
      (try simp only [Act.put, List.setIfInBounds_toArray, List.set_cons_zero, List.set_cons_succ])
      have hsm1 := hsm.out
      ((with_reducible refine Ord.e_p (v := ?_) ?_ ?_ ?_ ?_); rotate_left; (· exact rfl); (· kernel_rfl); (· intro w2; go_simp; try with_reducible rfl))
      clear hsm1
      (try simp only [Act.put, List.setIfInBounds_toArray, List.set_cons_zero, List.set_cons_succ])
      ((with_reducible refine Ord.e_p (v := ?_) ?_ ?_ ?_ ?_); rotate_left; (· exact rfl); (· kernel_rfl); (· intro w2; go_simp; try with_reducible rfl))
      (try simp only [Act.put, List.setIfInBounds_toArray, List.set_cons_zero, List.set_cons_succ])
      ((with_reducible refine Ord.e_p (v := ?_) ?_ ?_ ?_ ?_); rotate_left; (· exact rfl); (· kernel_rfl); (· intro w2; go_simp; try with_reducible rfl))
      (try simp only [Act.put, List.setIfInBounds_toArray, List.set_cons_zero, List.set_cons_succ])
      ((with_reducible refine Ord.e_p (v := ?_) ?_ ?_ ?_ ?_); rotate_left; (· exact rfl); (· kernel_rfl); (· intro w2; go_simp; try with_reducible rfl))
      (try simp only [Act.put, List.setIfInBounds_toArray, List.set_cons_zero, List.set_cons_succ])
      ((with_reducible refine Ord.e_p (v := ?_) ?_ ?_ ?_ ?_); rotate_left; (· exact rfl); (· kernel_rfl); (· intro w2; go_simp; try with_reducible rfl))
      (try simp only [Act.put, List.setIfInBounds_toArray, List.set_cons_zero, List.set_cons_succ])
      ((with_reducible refine Ord.e_p (v := ?_) ?_ ?_ ?_ ?_); rotate_left; (· exact rfl); (· kernel_rfl); (· intro w2; go_simp; try with_reducible rfl))
      (try simp only [Act.put, List.setIfInBounds_toArray, List.set_cons_zero, List.set_cons_succ])
      refine Ord.e_x rfl (by kernel_rfl) ?_
      go_wp2_with fail
      go_fit (knows16 _)
      rintro e u4 ⟨rfl, hbk⟩
      have h4 := h3.trans (hbk.mono h3.size)
      go_wp2_with fail
      refine Ord.Seg.go h4 (fun h => by cases h) ?_
      (try simp only [Act.put, List.setIfInBounds_toArray, List.set_cons_zero, List.set_cons_succ])
      clear hbk
      ((with_reducible refine Ord.e_p (v := ?_) ?_ ?_ ?_ ?_); rotate_left; (· exact rfl); (· kernel_rfl); (· intro w2; go_simp; try with_reducible rfl))
      (try simp only [Act.put, List.setIfInBounds_toArray, List.set_cons_zero, List.set_cons_succ])
      ((with_reducible refine Ord.e_p (v := ?_) ?_ ?_ ?_ ?_); rotate_left; (· exact rfl); (· kernel_rfl); (· intro w2; go_simp; try with_reducible rfl))
      (try simp only [Act.put, List.setIfInBounds_toArray, List.set_cons_zero, List.set_cons_succ])
      refine Ord.e_nil ?_
      have hbf := bnx hb9 h4
      clear h0 h3 h4 rb rq
      go_wp2
      go_ret
      exact ⟨rfl, hbf⟩

end Go.Proofs.Ytkelepnipndbbaa
