/-
  The document's Same of layer 17: two messages of the same numbers are the same.
-/
import Derived.Test.YtmkidihcdljkiaaGreatKPGSU
set_option linter.unusedSimpArgs false
set_option linter.unusedVariables false
namespace Go.Proofs.YtmkidihcdljkiaaGreat
open Go.RowKit NumLaw
attribute [local go_sem] Addr.add_mid
attribute [-go_sem] run_neq_struct

theorem sat_nsame (s : List Int) (hs : s.length = 7) (w : World) : (binOp .neq 99 (.agg (saC s).toArray) (.agg (saC s).toArray)).run Tryz.prog w = .ok (.bool false) w := by
  obtain ⟨x0, x1, x2, x3, x4, x5, x6, rfl⟩ := len7 s hs
  rw [run_neq_struct, run_equalIn_agg w 9999 _ _ _ (by simp only [Program.fieldsOf, Tryz.underlying99]) sat_held]
  simp [saC, Program.fieldsOf, Tryz.underlying99, Op.eqFields, part, run_equalIn_int w _ _ _ _ _ _ Tryz.underlying2]
set_option maxRecDepth 10000 in
set_option maxHeartbeats 4000000 in
theorem same17_any (t : Int) (A A' : Option Addr) (n c c' : Nat) (l : List (List Int)) (w : World) (h : RdR w w.heap.size 7 A n c (l.map saC)) (h' : RdR w w.heap.size 7 A' n c' (l.map saC)) (hlen : ∀ s ∈ l, s.length = 7) :
    Calls Tryz.prog 31 #[.agg #[.int .i64 t, .slice A n c], .agg #[.int .i64 t, .slice A' n c']] w fun e w' => e = .returned (.bool true) ∧ Below w.heap.size w w' := by
  have hle := h.2.2.1
  have hmx := h.2.2.2.1
  have hle' := h'.2.2.1
  have hmx' := h'.2.2.2.1
  unfold maxLen at hmx hmx'
  have Hlen := Lib.hid hlen
  clear hlen
  obtain ⟨a0, a1, hs, hb⟩ := al2 w (.cells #[.int .i64 t, .slice A n c] 26) (.cells #[.int .i64 t, .slice A' n c'] 26)
  clear hs
  have c0 := blk_cell (i := 0) (v := .int .i64 t) a0 rfl
  have c1 := blk_cell (i := 1) (v := .slice A n c) a0 rfl
  have d0 := blk_cell (i := 0) (v := .int .i64 t) a1 rfl
  have d1 := blk_cell (i := 1) (v := .slice A' n c') a1 rfl
  have g0 := blk_lt a0
  have g1 := blk_lt a1
  have hr := h.up hb
  have hr' := h'.up hb
  go_enter Tryz.func31, Tryz.ntmps31
  go_wp2_with fail
  generalize ((w.alloc (.cells #[.int .i64 t, .slice A n c] 26)).alloc (.cells #[.int .i64 t, .slice A' n c'] 26)) = w1 at *
  clear a0 a1
  go_loopw [5] (fun i wr => ∃ (k : Nat), k ≤ n ∧ i = .int .i64 k ∧ Below w1.heap.size w1 wr) (fun i _ => n - (intOf i).toNat)
  case atStart => exact ⟨0, by omega, rfl, Below.refl _ _⟩
  case round =>
    clear c0 d0
    obtain ⟨k, hk, rfl, hbr⟩ := hrel
    have k1 : wr.cell? ⟨w.heap.size, 1, none⟩ = some (.slice A n c) := (hbr.cell (p := ⟨w.heap.size, 1, none⟩) g0).trans c1
    by_cases hlt : k < n
    · obtain ⟨ga, off, rr, rfl, hga, hx, hrl, hrow⟩ := hr.at_ hlt
      obtain ⟨gb, off', rr', rfl, hgb, hx', hrl', hrow'⟩ := hr'.at_ hlt
      rw [hx] at hx'
      injection hx' with hx'
      subst hx'
      obtain ⟨s, hs, rfl⟩ : ∃ s, l[k]? = some s ∧ saC s = rr := by simpa using hx
      have hne := sat_nsame s (Hlen.out s (List.mem_of_getElem? hs))
      have R1 := Lib.hid hrow
      have R2 := Lib.hid hrow'
      have Hrl := Lib.hid hrl
      have hga1 : ga < w1.heap.size := by omega
      have hgb1 : gb < w1.heap.size := by omega
      clear hx hs hrl hrl' hrow hrow'
      go_wp2_with fail
      refine Ord.region_ (fun w' => Below w1.heap.size w1 w') false [] (by kernel_rfl) (by kernel_rfl) hbr.drew ?_
      replace hbr := hbr.drew
      generalize wr.drew = wd at *
      clear k1
      ((with_reducible refine Ord.e_p (v := ?_) ?_ ?_ ?_ ?_); rotate_left; (· exact rfl); (· kernel_rfl); (· intro w2; go_simp; try with_reducible rfl))
      (try simp only [Act.put, List.setIfInBounds_toArray, List.set_cons_zero, List.set_cons_succ])
      refine Ord.e_loadS Tryz.underlying24 rfl (fun w' hS => ((show Below _ w1 w' from hS).cell (p := ⟨w.heap.size, 1, none⟩) g0).trans c1) hbr rfl (by kernel_rfl) ?_
      (try simp only [Act.put, List.setIfInBounds_toArray, List.set_cons_zero, List.set_cons_succ])
      ((with_reducible refine Ord.e_p (v := ?_) ?_ ?_ ?_ ?_); rotate_left; (· exact rfl); (· kernel_rfl); (· intro w2; go_simp; try with_reducible rfl))
      (try simp only [Act.put, List.setIfInBounds_toArray, List.set_cons_zero, List.set_cons_succ])
      ((with_reducible refine Ord.e_p (v := ?_) ?_ ?_ ?_ ?_); rotate_left; (· exact rfl); (· kernel_rfl); (· intro w2; go_simp; try with_reducible rfl))
      (try simp only [Act.put, List.setIfInBounds_toArray, List.set_cons_zero, List.set_cons_succ])
      refine Ord.e_rowS Tryz.underlying99 rfl (by rw [Hrl.out]; kernel_rfl) rfl (by intro e; have := Hrl.out; rw [e] at this; cases this) (fun w' hS j v hv => ((show Below _ w1 w' from hS).cell (p := ⟨ga, off + k * 7 + j, none⟩) hga1).trans (R1.out j v hv)) hbr (by kernel_rfl) ?_
      (try simp only [Act.put, List.setIfInBounds_toArray, List.set_cons_zero, List.set_cons_succ])
      ((with_reducible refine Ord.e_p (v := ?_) ?_ ?_ ?_ ?_); rotate_left; (· exact rfl); (· kernel_rfl); (· intro w2; go_simp; try with_reducible rfl))
      (try simp only [Act.put, List.setIfInBounds_toArray, List.set_cons_zero, List.set_cons_succ])
      refine Ord.e_loadS Tryz.underlying24 rfl (fun w' hS => ((show Below _ w1 w' from hS).cell (p := ⟨w.heap.size + 1, 1, none⟩) g1).trans d1) hbr rfl (by kernel_rfl) ?_
      (try simp only [Act.put, List.setIfInBounds_toArray, List.set_cons_zero, List.set_cons_succ])
      ((with_reducible refine Ord.e_p (v := ?_) ?_ ?_ ?_ ?_); rotate_left; (· exact rfl); (· kernel_rfl); (· intro w2; go_simp; try with_reducible rfl))
      (try simp only [Act.put, List.setIfInBounds_toArray, List.set_cons_zero, List.set_cons_succ])
      ((with_reducible refine Ord.e_p (v := ?_) ?_ ?_ ?_ ?_); rotate_left; (· exact rfl); (· kernel_rfl); (· intro w2; go_simp; try with_reducible rfl))
      (try simp only [Act.put, List.setIfInBounds_toArray, List.set_cons_zero, List.set_cons_succ])
      refine Ord.e_rowS Tryz.underlying99 rfl (by rw [Hrl.out]; kernel_rfl) rfl (by intro e; have := Hrl.out; rw [e] at this; cases this) (fun w' hS j v hv => ((show Below _ w1 w' from hS).cell (p := ⟨gb, off' + k * 7 + j, none⟩) hgb1).trans (R2.out j v hv)) hbr (by kernel_rfl) ?_
      (try simp only [Act.put, List.setIfInBounds_toArray, List.set_cons_zero, List.set_cons_succ])
      ((with_reducible refine Ord.e_p (v := ?_) ?_ ?_ ?_ ?_); rotate_left; (· exact rfl); (· kernel_rfl); (· intro w2; go_simp; try with_reducible rfl))
      (try simp only [Act.put, List.setIfInBounds_toArray, List.set_cons_zero, List.set_cons_succ])
      refine Ord.e_nil ?_
      clear hne
      go_wp2
      go_roundw
      case rel => exact ⟨k + 1, by omega, by go_num, hbr⟩
      case measure => simp [intOf]; omega
    · obtain rfl : k = n := by omega
      have hbf := hb.trans (hbr.mono hb.size)
      go_wp2
      go_ret
      exact ⟨rfl, hbf⟩

end Go.Proofs.YtmkidihcdljkiaaGreat
