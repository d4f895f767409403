/-
  BlockTakes walked (printed by gen_blk10.py).
-/
import Derived.Test.YtplgcfjcdjlnbaaKBlk7
import Derived.Test.YtplgcfjcdjlnbaaKGR
set_option linter.unusedSimpArgs false
set_option linter.unusedVariables false
namespace Go.Proofs.Ytplgcfjcdjlnbaa
open Go.RowKit NumLaw CrcLaw
attribute [local go_sem] Addr.add_mid

set_option maxRecDepth 10000 in
set_option maxHeartbeats 8000000 in
theorem blocktakes_any (A : Option Addr) (n c : Nat) (s : List UInt8) (w : World) (h : Rd w w.heap.size 1 A n c (bv s)) :
    Calls Try.prog 8 #[.slice A n c] w fun e w' => e = .returned (.bool true) ∧ Below w.heap.size w w' := by
  have hmx := h.max
  have hle := h.le
  unfold maxLen at hmx
  by_cases hn : 300 < n
  · have hn' : (300 : Int) < (n : Int) := by omega
    go_enter Try.func8, Try.ntmps8
    go_wp2_with fail
    go_fit (knows35 _)
    rintro e w1 ⟨rfl, hb1⟩
    go_wp2
    go_ret
    exact ⟨rfl, hb1⟩
  have hn' : ¬ (300 : Int) < (n : Int) := by omega
  have hp := fun w' hr hB => blkTake_any A n c w.heap.size s w' hr hB (by omega)
  have hq := fun w' hr hB => qblkTake_any A n c w.heap.size s w' hr hB (by omega)
  unfold RetTBk at hp hq
  generalize blkNo s = oN at *
  generalize blkE s = oE at *
  generalize blkL s = oL at *
  have Hp := Lib.hid hp
  have Hq := Lib.hid hq
  clear hp hq
  go_enter Try.func8, Try.ntmps8
  go_wp2_with fail
  go_fit (knows35 _)
  rintro e w1 ⟨rfl, hb1⟩
  go_wp2_with fail
  go_fit (Hp.out w1 (h.up hb1) hb1.size)
  rintro e w2 ⟨A2, n2, c2, rfl, hr2, hb12⟩
  have hb2 := bnx hb1 hb12
  have hbx := heap_alloc_new w2 (.cells #[.int .u32 (oN : Int), .slice A2 n2 c2] 41)
  have hbb : Below w2.heap.size w2 (w2.alloc (.cells #[.int .u32 (oN : Int), .slice A2 n2 c2] 41)) := (Below.refl _ _).alloc (Nat.le_refl _) _
  have hb3 := bnx hb2 hbb
  replace hr2 := RdR.nx hr2 hbb
  clear hb1 hb12 hb2 hbb
  go_wp2_with fail
  generalize (w2.alloc (.cells #[.int .u32 (oN : Int), .slice A2 n2 c2] 41)) = w3 at *
  generalize w2.heap.size = gp at *
  go_fit (Hq.out w3 (h.up hb3) hb3.size)
  rintro e w4 ⟨A4, n4, c4, rfl, hr4, hb34⟩
  have hb4 := bnx hb3 hb34
  replace hr2 := RdR.nx hr2 hb34
  replace hbx := blk_old hbx hb34 (blk_lt hbx)
  have hby := heap_alloc_new w4 (.cells #[.int .u32 (oN : Int), .slice A4 n4 c4] 41)
  have hbb : Below w4.heap.size w4 (w4.alloc (.cells #[.int .u32 (oN : Int), .slice A4 n4 c4] 41)) := (Below.refl _ _).alloc (Nat.le_refl _) _
  have hb5 := bnx hb4 hbb
  replace hr2 := RdR.nx hr2 hbb
  replace hr4 := RdR.nx hr4 hbb
  replace hbx := blk_old hbx hbb (blk_lt hbx)
  clear hb3 hb34 hb4 hbb
  go_wp2_with (with_reducible refine stop_loadT 41 ?_)
  generalize (w4.alloc (.cells #[.int .u32 (oN : Int), .slice A4 n4 c4] 41)) = w5 at *
  generalize w4.heap.size = gq at *
  refine go_ (wpList_load_row rfl _ _ rfl gp rfl _ _ _ _ hbx Try.underlying41 rfl (by kernel_rfl) ?_)
  go_wp2_with (first | (with_reducible refine stop_loadT 41 ?_) | (with_reducible refine stop_storeT 41 ?_))
  refine go_ (wpList_load_row rfl _ _ rfl gq rfl _ _ _ _ hby Try.underlying41 rfl (by kernel_rfl) ?_)
  have hsm := same35_any oN A2 n2 c2 oN A4 n4 c4 oL oL w5.heap.size w5 hr2 hr4 (Nat.le_refl _)
  rw [decide_eq_true (⟨rfl, rfl⟩ : oN = oN ∧ oL = oL)] at hsm
  have Hsm := Lib.hid hsm
  clear hsm hr2 hr4 hbx hby
  go_wp2_with fail
  go_fit Hsm.out
  rintro e w6 ⟨rfl, hb56⟩
  have hb6 := bnx hb5 hb56
  go_wp2_with fail
  go_fit (num35_any (oE : Int) w6)
  rintro e w7 ⟨rfl, rfl⟩
  go_wp2_with fail
  go_fit (num35_any (oE : Int) w6)
  rintro e w7 ⟨rfl, rfl⟩
  go_wp2
  go_ret
  exact ⟨rfl, hb6⟩

end Go.Proofs.Ytplgcfjcdjlnbaa
