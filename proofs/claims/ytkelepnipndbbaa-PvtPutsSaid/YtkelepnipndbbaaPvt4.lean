/-
  The law PvtSpeed walked.
-/
import Derived.Test.YtkelepnipndbbaaPvt3
import Derived.Test.YtkelepnipndbbaaBig
set_option linter.unusedSimpArgs false
set_option linter.unusedVariables false
namespace Go.Proofs.Ytkelepnipndbbaa
open Go.RowKit NumLaw

theorem num16_any (n : Int) (w : World) : Calls Try.prog 54 #[.int .i64 n] w fun e w' => e = .returned (.int .i64 n) ∧ w = w' := by
  go_enter Try.func54, Try.ntmps54
  go_wp2
  go_ret
  exact ⟨rfl, rfl⟩
theorem vec_held : Try.prog.stoodInHeld 68 = false := by kernel_rfl
theorem vec_eq (x y z x' y' z' : Int) (w : World) : (binOp .eql 68 (.agg #[.int .i32 x, .int .i32 y, .int .i32 z]) (.agg #[.int .i32 x', .int .i32 y', .int .i32 z'])).run Try.prog w = .ok (.bool (x == x' && y == y' && z == z')) w := by
  rw [run_eql_struct, run_equalIn_agg w 9999 _ _ _ (by simp only [Program.fieldsOf, Try.underlying68]) vec_held]
  by_cases h1 : x = x' <;> by_cases h2 : y = y' <;> by_cases h3 : z = z' <;>
  simp [Program.fieldsOf, Try.underlying68, Op.eqFields, part, run_equalIn_int w _ _ _ _ _ _ Try.underlying21, h1, h2, h3]
theorem vec_same (x y z : Int) (w : World) : (binOp .eql 68 (.agg #[.int .i32 x, .int .i32 y, .int .i32 z]) (.agg #[.int .i32 x, .int .i32 y, .int .i32 z])).run Try.prog w = .ok (.bool true) w := by
  rw [vec_eq]; simp
theorem spd_known : spdV 1500 = 98304 ∧ spdV 0 = 0 ∧ spdC 1500 0 0 = 0 := by decide
set_option maxRecDepth 10000 in
set_option maxHeartbeats 1000000 in
theorem knows16 (w : World) : Calls Try.prog 47 #[] w fun e w' => e = .returned (.bool true) ∧ Below w.heap.size w w' := by
  have hsp : ∀ w, Calls Try.prog 45 #[.agg #[.int .i64 0, .int .i64 0, .int .i64 0, .int .i64 0, .int .i64 0, .int .i64 0, .int .i64 0, .int .i64 0, .int .i64 0, .int .i64 0, .int .i64 0, .int .i64 0, .int .i64 0, .int .i64 0, .int .i64 0, .int .i64 0, .int .i64 0, .int .i64 0, .int .i64 0, .int .i64 0, .int .i64 1500, .int .i64 0, .int .i64 0, .int .i64 0, .int .i64 0, .int .i64 0, .int .i64 0, .int .i64 0, .int .i64 0, .int .i64 0, .int .i64 0, .int .i64 0]] w (RetSp 1500 0 0 w) := fun w => pspeed_any [0, 0, 0, 0, 0, 0, 0, 0, 0, 0, 0, 0, 0, 0, 0, 0, 0, 0, 0, 0, 1500, 0, 0, 0, 0, 0, 0, 0, 0, 0, 0, 0] 1500 0 0 w rfl rfl rfl rfl (by omega) (by omega) (by omega)
  unfold RetSp at hsp
  rw [spd_known.1, spd_known.2.1, spd_known.2.2] at hsp
  have hq := vec_same 98304 0 0
  go_enter Try.func47, Try.ntmps47
  go_wp2_with fail
  go_fit (hsp _)
  rintro e w1 ⟨rfl, hb1⟩
  have hb2 := hb1.alloc hb1.size (.cells #[.int .i32 98304, .int .i32 0, .int .i32 0] 68)
  go_wp2
  go_ret
  exact ⟨rfl, hb2⟩
set_option maxRecDepth 10000 in
set_option maxHeartbeats 4000000 in
theorem pvtspeed_any (a b c : Int) (w : World) (ha : -2147483648 ≤ a ∧ a ≤ 2147483647) (hb : -2147483648 ≤ b ∧ b ≤ 2147483647) (hc : -2147483648 ≤ c ∧ c ≤ 2147483647) :
    Calls Try.prog 10 #[.int .i32 a, .int .i32 b, .int .i32 c] w fun e w' => e = .returned (.bool true) ∧ Below w.heap.size w w' := by
  have hsp : ∀ w, Calls Try.prog 45 #[.agg #[.int .i64 0, .int .i64 0, .int .i64 0, .int .i64 0, .int .i64 0, .int .i64 0, .int .i64 0, .int .i64 0, .int .i64 0, .int .i64 0, .int .i64 0, .int .i64 0, .int .i64 0, .int .i64 0, .int .i64 0, .int .i64 0, .int .i64 0, .int .i64 0, .int .i64 0, .int .i64 0, .int .i64 a, .int .i64 b, .int .i64 c, .int .i64 0, .int .i64 0, .int .i64 0, .int .i64 0, .int .i64 0, .int .i64 0, .int .i64 0, .int .i64 0, .int .i64 0]] w (RetSp a b c w) := fun w => pspeed_any [0, 0, 0, 0, 0, 0, 0, 0, 0, 0, 0, 0, 0, 0, 0, 0, 0, 0, 0, 0, a, b, c, 0, 0, 0, 0, 0, 0, 0, 0, 0] a b c w rfl rfl rfl rfl ha hb hc
  have hsq : ∀ w, Calls Try.prog 46 #[.agg #[.int .i64 0, .int .i64 0, .int .i64 0, .int .i64 0, .int .i64 0, .int .i64 0, .int .i64 0, .int .i64 0, .int .i64 0, .int .i64 0, .int .i64 0, .int .i64 0, .int .i64 0, .int .i64 0, .int .i64 0, .int .i64 0, .int .i64 0, .int .i64 0, .int .i64 0, .int .i64 0, .int .i64 a, .int .i64 b, .int .i64 c, .int .i64 0, .int .i64 0, .int .i64 0, .int .i64 0, .int .i64 0, .int .i64 0, .int .i64 0, .int .i64 0, .int .i64 0]] w (RetSp a b c w) := fun w => qspeed_any [0, 0, 0, 0, 0, 0, 0, 0, 0, 0, 0, 0, 0, 0, 0, 0, 0, 0, 0, 0, a, b, c, 0, 0, 0, 0, 0, 0, 0, 0, 0] a b c w rfl rfl rfl rfl ha hb hc
  unfold RetSp at hsp hsq
  generalize spdC a b c = t at *
  generalize spdV a = va at *
  generalize spdV b = vb at *
  generalize spdV c = vc at *
  have Hsp := Lib.hid hsp
  have Hsq := Lib.hid hsq
  clear hsp hsq
  go_enter Try.func10, Try.ntmps10
  go_wp2_with (first | (with_reducible refine stop_loadT 66 ?_) | (with_reducible refine stop_storeT 66 ?_))
  have hz := heap_alloc_new w (.cells #[.int .i64 0, .int .i64 0, .int .i64 0, .int .i64 0, .int .i64 0, .int .i64 0, .int .i64 0, .int .i64 0, .int .i64 0, .int .i64 0, .int .i64 0, .int .i64 0, .int .i64 0, .int .i64 0, .int .i64 0, .int .i64 0, .int .i64 0, .int .i64 0, .int .i64 0, .int .i64 0, .int .i64 0, .int .i64 0, .int .i64 0, .int .i64 0, .int .i64 0, .int .i64 0, .int .i64 0, .int .i64 0, .int .i64 0, .int .i64 0, .int .i64 0, .int .i64 0] 66)
  have hbz : Below w.heap.size w (w.alloc (.cells #[.int .i64 0, .int .i64 0, .int .i64 0, .int .i64 0, .int .i64 0, .int .i64 0, .int .i64 0, .int .i64 0, .int .i64 0, .int .i64 0, .int .i64 0, .int .i64 0, .int .i64 0, .int .i64 0, .int .i64 0, .int .i64 0, .int .i64 0, .int .i64 0, .int .i64 0, .int .i64 0, .int .i64 0, .int .i64 0, .int .i64 0, .int .i64 0, .int .i64 0, .int .i64 0, .int .i64 0, .int .i64 0, .int .i64 0, .int .i64 0, .int .i64 0, .int .i64 0] 66)) := (Below.refl _ _).alloc (Nat.le_refl _) _
  generalize (w.alloc (.cells #[.int .i64 0, .int .i64 0, .int .i64 0, .int .i64 0, .int .i64 0, .int .i64 0, .int .i64 0, .int .i64 0, .int .i64 0, .int .i64 0, .int .i64 0, .int .i64 0, .int .i64 0, .int .i64 0, .int .i64 0, .int .i64 0, .int .i64 0, .int .i64 0, .int .i64 0, .int .i64 0, .int .i64 0, .int .i64 0, .int .i64 0, .int .i64 0, .int .i64 0, .int .i64 0, .int .i64 0, .int .i64 0, .int .i64 0, .int .i64 0, .int .i64 0, .int .i64 0] 66)) = w0 at *
  refine go_ (wpList_store_row rfl _ _ _ rfl w.heap.size #[.int .i64 0, .int .i64 0, .int .i64 0, .int .i64 0, .int .i64 0, .int .i64 0, .int .i64 0, .int .i64 0, .int .i64 0, .int .i64 0, .int .i64 0, .int .i64 0, .int .i64 0, .int .i64 0, .int .i64 0, .int .i64 0, .int .i64 0, .int .i64 0, .int .i64 0, .int .i64 0, .int .i64 a, .int .i64 b, .int .i64 c, .int .i64 0, .int .i64 0, .int .i64 0, .int .i64 0, .int .i64 0, .int .i64 0, .int .i64 0, .int .i64 0, .int .i64 0] rfl rfl _ _ hz (by kernel_rfl) rfl (by kernel_rfl) ?_)
  have hb1 := below_setRow hbz (Nat.le_refl _) (#[.int .i64 0, .int .i64 0, .int .i64 0, .int .i64 0, .int .i64 0, .int .i64 0, .int .i64 0, .int .i64 0, .int .i64 0, .int .i64 0, .int .i64 0, .int .i64 0, .int .i64 0, .int .i64 0, .int .i64 0, .int .i64 0, .int .i64 0, .int .i64 0, .int .i64 0, .int .i64 0, .int .i64 a, .int .i64 b, .int .i64 c, .int .i64 0, .int .i64 0, .int .i64 0, .int .i64 0, .int .i64 0, .int .i64 0, .int .i64 0, .int .i64 0, .int .i64 0] : Array Value)
  have hd1 := setRow_heap _ _ _ (#[.int .i64 0, .int .i64 0, .int .i64 0, .int .i64 0, .int .i64 0, .int .i64 0, .int .i64 0, .int .i64 0, .int .i64 0, .int .i64 0, .int .i64 0, .int .i64 0, .int .i64 0, .int .i64 0, .int .i64 0, .int .i64 0, .int .i64 0, .int .i64 0, .int .i64 0, .int .i64 0, .int .i64 a, .int .i64 b, .int .i64 c, .int .i64 0, .int .i64 0, .int .i64 0, .int .i64 0, .int .i64 0, .int .i64 0, .int .i64 0, .int .i64 0, .int .i64 0] : Array Value) _ _ hz
  generalize (w0.setRow w.heap.size #[.int .i64 0, .int .i64 0, .int .i64 0, .int .i64 0, .int .i64 0, .int .i64 0, .int .i64 0, .int .i64 0, .int .i64 0, .int .i64 0, .int .i64 0, .int .i64 0, .int .i64 0, .int .i64 0, .int .i64 0, .int .i64 0, .int .i64 0, .int .i64 0, .int .i64 0, .int .i64 0, .int .i64 a, .int .i64 b, .int .i64 c, .int .i64 0, .int .i64 0, .int .i64 0, .int .i64 0, .int .i64 0, .int .i64 0, .int .i64 0, .int .i64 0, .int .i64 0]) = w1 at *
  clear hz hbz w0
  go_wp2_with (first | (with_reducible refine stop_loadT 66 ?_) | (with_reducible refine stop_storeT 66 ?_))
  refine go_ (wpList_load_row rfl _ _ rfl w.heap.size rfl _ _ _ _ hd1 Try.underlying66 rfl (by kernel_rfl) ?_)
  go_wp2_with (first | (with_reducible refine stop_loadT 66 ?_) | (with_reducible refine stop_storeT 66 ?_))
  go_fit (Hsp.out _)
  rintro e w2 ⟨rfl, hb12⟩
  have hd2 := blk_old hd1 hb12 (blk_lt hd1)
  have hb2 := bnx hb1 hb12
  have hb3 := hb2.alloc hb2.size (.cells #[.int .i32 va, .int .i32 vb, .int .i32 vc] 68)
  have hv3 := heap_alloc_new w2 (.cells #[.int .i32 va, .int .i32 vb, .int .i32 vc] 68)
  have hd3 := (heap_alloc_old w2 (.cells #[.int .i32 va, .int .i32 vb, .int .i32 vc] 68) (blk_lt hd2)).trans hd2
  clear hb1 hd1 hb12 hb2
  go_wp2_with (first | (with_reducible refine stop_loadT 66 ?_) | (with_reducible refine stop_storeT 66 ?_))
  generalize (w2.alloc (.cells #[.int .i32 va, .int .i32 vb, .int .i32 vc] 68)) = w3 at *
  refine go_ (wpList_load_row rfl _ _ rfl w.heap.size rfl _ _ _ _ hd3 Try.underlying66 rfl (by kernel_rfl) ?_)
  go_wp2_with (first | (with_reducible refine stop_loadT 66 ?_) | (with_reducible refine stop_storeT 66 ?_))
  go_fit (Hsq.out _)
  rintro e w4 ⟨rfl, hb34⟩
  have hv4 := blk_old hv3 hb34 (blk_lt hv3)
  have hb4 := bnx hb3 hb34
  have hb5 := hb4.alloc hb4.size (.cells #[.int .i32 va, .int .i32 vb, .int .i32 vc] 68)
  have hv5 := (heap_alloc_old w4 (.cells #[.int .i32 va, .int .i32 vb, .int .i32 vc] 68) (blk_lt hv4)).trans hv4
  have hu5 := heap_alloc_new w4 (.cells #[.int .i32 va, .int .i32 vb, .int .i32 vc] 68)
  have k0 := blk_cell (i := 0) (v := .int .i32 va) hv5 rfl
  have k1 := blk_cell (i := 1) (v := .int .i32 vb) hv5 rfl
  have k2 := blk_cell (i := 2) (v := .int .i32 vc) hv5 rfl
  have m0 := blk_cell (i := 0) (v := .int .i32 va) hu5 rfl
  have m1 := blk_cell (i := 1) (v := .int .i32 vb) hu5 rfl
  have m2 := blk_cell (i := 2) (v := .int .i32 vc) hu5 rfl
  have hvs := vec_same va vb vc
  clear hb3 hv3 hd3 hb34 hv4 hb4 hd2
  go_wp2_with fail
  go_fit (knows16 _)
  rintro e w6 ⟨rfl, hb6⟩
  have hbf := bnx hb5 hb6
  clear k0 k1 k2 m0 m1 m2 hvs hv5 hu5 hb5 hb6
  go_wp2
  go_ret
  exact ⟨rfl, hbf⟩

end Go.Proofs.Ytkelepnipndbbaa
