/-
  The law PvtTakes walked.
-/
import Derived.Test.YtkelepnipndbbaaPvt12
import Derived.Test.YtkelepnipndbbaaBig2
set_option linter.unusedSimpArgs false
set_option linter.unusedVariables false
namespace Go.Proofs.Ytkelepnipndbbaa
open Go.RowKit NumLaw

set_option maxRecDepth 100000 in
set_option maxHeartbeats 8000000 in
theorem pvttakes_any (A : Option Addr) (n c : Nat) (b : List UInt8) (A' : Option Addr) (n' c' : Nat) (vs : List Int) (w : World) (h : Rd w w.heap.size 1 A n c (bv b)) (h' : Rd w w.heap.size 1 A' n' c' (vs.map (Value.int .i64))) :
    Calls Try.prog 12 #[.slice A n c, .slice A' n' c'] w fun e w' => e = .returned (.bool true) ∧ Below w.heap.size w w' := by
  have hle := h.le
  have hmx := h.max
  have hle' := h'.le
  have hmx' := h'.max
  unfold maxLen at hmx hmx'
  go_enter Try.func12, Try.ntmps12
  by_cases g1 : 200 < n
  · go_wp2_with fail
    go_fit (knows16 _)
    rintro e w1 ⟨rfl, hb1⟩
    go_wp2
    go_ret
    exact ⟨rfl, hb1⟩
  by_cases g2 : 200 < n'
  · go_wp2_with fail
    go_fit (knows16 _)
    rintro e w1 ⟨rfl, hb1⟩
    go_wp2
    go_ret
    exact ⟨rfl, hb1⟩
  have ht := fun w hr hB => pvtTake_any A n c w.heap.size b w hr hB (by omega)
  obtain ⟨ms, hms⟩ : ∃ m, m = ptake b := ⟨_, rfl⟩
  have hml := ptake_len b
  obtain ⟨os, hos⟩ : ∃ m, m = pofV vs := ⟨_, rfl⟩
  have hol := pofV_len vs
  obtain ⟨oE, hoE⟩ : ∃ m, m = shTE pvtF b := ⟨_, rfl⟩
  obtain ⟨oK, hoK⟩ : ∃ m, m = pofOk vs := ⟨_, rfl⟩
  have Hp := Lib.hid (fun (w1 : World) (hb : Below w.heap.size w w1) => pvtTake_any A n c w.heap.size b w1 (h.up hb) hb.size (by omega))
  have Hq := Lib.hid (fun (w1 : World) (hb : Below w.heap.size w w1) => qpvtTake_any A n c w.heap.size b w1 (h.up hb) hb.size (by omega))
  have Ho := Lib.hid (fun (w1 : World) (hb : Below w.heap.size w w1) => of_any A' n' c' w.heap.size vs w1 (h'.up hb) hb.size)
  have Hqo := Lib.hid (fun (w1 : World) (hb : Below w.heap.size w w1) => qof_any A' n' c' w.heap.size vs w1 (h'.up hb) hb.size)
  unfold RetPT at Hp Hq
  unfold RetM at Ho Hqo
  rw [← hms] at hml Hp Hq
  rw [← hos] at hol Ho Hqo
  rw [← hoE] at Hp Hq
  rw [← hoK] at Ho Hqo
  have HsM : Hid ((Try.prog.info? 66).map (·.size) = some (pvC ms).size) := Lib.hid (by rw [pvC_size, hml, pvt_size])
  have HsO : Hid ((Try.prog.info? 66).map (·.size) = some (pvC os).size) := Lib.hid (by rw [pvC_size, hol, pvt_size])
  have Hml := Lib.hid hml
  have Hol := Lib.hid hol
  clear ht hms hml hos hol hoE hoK h h'
  go_wp2_with fail
  go_fit (knows16 _)
  rintro e w1 ⟨rfl, hb1⟩
  go_wp2_with (first | (with_reducible refine stop_loadT 66 ?_) | (with_reducible refine stop_storeT 66 ?_) | (with_reducible refine stop_loadG 66 ?_))
  go_fit (Hp.out _ hb1)
  rintro e v1 ⟨rfl, hc1⟩
  have hs0 := hb1.size
  replace hb1 := bnx hb1 hc1
  have q1 := heap_alloc_new v1 (.cells #[.int .i64 0, .int .i64 0, .int .i64 0, .int .i64 0, .int .i64 0, .int .i64 0, .int .i64 0, .int .i64 0, .int .i64 0, .int .i64 0, .int .i64 0, .int .i64 0, .int .i64 0, .int .i64 0, .int .i64 0, .int .i64 0, .int .i64 0, .int .i64 0, .int .i64 0, .int .i64 0, .int .i64 0, .int .i64 0, .int .i64 0, .int .i64 0, .int .i64 0, .int .i64 0, .int .i64 0, .int .i64 0, .int .i64 0, .int .i64 0, .int .i64 0, .int .i64 0] 66)
  have hd1 : Below v1.heap.size v1 (v1.alloc (.cells #[.int .i64 0, .int .i64 0, .int .i64 0, .int .i64 0, .int .i64 0, .int .i64 0, .int .i64 0, .int .i64 0, .int .i64 0, .int .i64 0, .int .i64 0, .int .i64 0, .int .i64 0, .int .i64 0, .int .i64 0, .int .i64 0, .int .i64 0, .int .i64 0, .int .i64 0, .int .i64 0, .int .i64 0, .int .i64 0, .int .i64 0, .int .i64 0, .int .i64 0, .int .i64 0, .int .i64 0, .int .i64 0, .int .i64 0, .int .i64 0, .int .i64 0, .int .i64 0] 66)) := (Below.refl _ _).alloc (Nat.le_refl _) _
  replace hb1 := bnx hb1 hd1
  have hsz : w.heap.size ≤ v1.heap.size := by have := hc1.size; have := hs0; omega
  clear hc1 hs0
  go_wp2_with (first | (with_reducible refine stop_loadT 66 ?_) | (with_reducible refine stop_storeT 66 ?_) | (with_reducible refine stop_loadG 66 ?_))
  generalize (v1.alloc (.cells #[.int .i64 0, .int .i64 0, .int .i64 0, .int .i64 0, .int .i64 0, .int .i64 0, .int .i64 0, .int .i64 0, .int .i64 0, .int .i64 0, .int .i64 0, .int .i64 0, .int .i64 0, .int .i64 0, .int .i64 0, .int .i64 0, .int .i64 0, .int .i64 0, .int .i64 0, .int .i64 0, .int .i64 0, .int .i64 0, .int .i64 0, .int .i64 0, .int .i64 0, .int .i64 0, .int .i64 0, .int .i64 0, .int .i64 0, .int .i64 0, .int .i64 0, .int .i64 0] 66)) = v2 at *
  generalize v1.heap.size = g1' at *
  refine go_ (wpList_store_row rfl _ _ _ rfl g1' (pvC ms) rfl rfl _ _ q1 HsM.out (by rw [pvC_size, Hml.out]; rfl) (pvC_one _) ?_)
  have hd2 := below_setRow (Below.refl g1' v2) (Nat.le_refl _) (pvC ms)
  replace hb1 := hb1.trans (hd2.mono hsz)
  replace q1 := setRow_heap _ _ _ (pvC ms) _ _ q1
  generalize (v2.setRow g1' (pvC ms)) = v3 at *
  clear hd1 hd2 hsz
  go_wp2_with (first | (with_reducible refine stop_loadT 66 ?_) | (with_reducible refine stop_storeT 66 ?_) | (with_reducible refine stop_loadG 66 ?_))
  go_fit (Hq.out _ hb1)
  rintro e v1 ⟨rfl, hc1⟩
  have hs0 := hb1.size
  replace hb1 := bnx hb1 hc1
  replace q1 := blk_old q1 hc1 (blk_lt q1)
  have q2 := heap_alloc_new v1 (.cells #[.int .i64 0, .int .i64 0, .int .i64 0, .int .i64 0, .int .i64 0, .int .i64 0, .int .i64 0, .int .i64 0, .int .i64 0, .int .i64 0, .int .i64 0, .int .i64 0, .int .i64 0, .int .i64 0, .int .i64 0, .int .i64 0, .int .i64 0, .int .i64 0, .int .i64 0, .int .i64 0, .int .i64 0, .int .i64 0, .int .i64 0, .int .i64 0, .int .i64 0, .int .i64 0, .int .i64 0, .int .i64 0, .int .i64 0, .int .i64 0, .int .i64 0, .int .i64 0] 66)
  have hd1 : Below v1.heap.size v1 (v1.alloc (.cells #[.int .i64 0, .int .i64 0, .int .i64 0, .int .i64 0, .int .i64 0, .int .i64 0, .int .i64 0, .int .i64 0, .int .i64 0, .int .i64 0, .int .i64 0, .int .i64 0, .int .i64 0, .int .i64 0, .int .i64 0, .int .i64 0, .int .i64 0, .int .i64 0, .int .i64 0, .int .i64 0, .int .i64 0, .int .i64 0, .int .i64 0, .int .i64 0, .int .i64 0, .int .i64 0, .int .i64 0, .int .i64 0, .int .i64 0, .int .i64 0, .int .i64 0, .int .i64 0] 66)) := (Below.refl _ _).alloc (Nat.le_refl _) _
  replace hb1 := bnx hb1 hd1
  have l1 := blk_lt q1
  replace q1 := blk_old q1 hd1 l1
  have hsz : w.heap.size ≤ v1.heap.size := by have := hc1.size; have := hs0; omega
  clear hc1 hs0
  go_wp2_with (first | (with_reducible refine stop_loadT 66 ?_) | (with_reducible refine stop_storeT 66 ?_) | (with_reducible refine stop_loadG 66 ?_))
  generalize (v1.alloc (.cells #[.int .i64 0, .int .i64 0, .int .i64 0, .int .i64 0, .int .i64 0, .int .i64 0, .int .i64 0, .int .i64 0, .int .i64 0, .int .i64 0, .int .i64 0, .int .i64 0, .int .i64 0, .int .i64 0, .int .i64 0, .int .i64 0, .int .i64 0, .int .i64 0, .int .i64 0, .int .i64 0, .int .i64 0, .int .i64 0, .int .i64 0, .int .i64 0, .int .i64 0, .int .i64 0, .int .i64 0, .int .i64 0, .int .i64 0, .int .i64 0, .int .i64 0, .int .i64 0] 66)) = v2 at *
  generalize v1.heap.size = g2' at *
  refine go_ (wpList_store_row rfl _ _ _ rfl g2' (pvC ms) rfl rfl _ _ q2 HsM.out (by rw [pvC_size, Hml.out]; rfl) (pvC_one _) ?_)
  have hd2 := below_setRow (Below.refl g2' v2) (Nat.le_refl _) (pvC ms)
  replace hb1 := hb1.trans (hd2.mono hsz)
  replace q2 := setRow_heap _ _ _ (pvC ms) _ _ q2
  replace q1 := (hd2.block _ l1).trans q1
  clear l1
  generalize (v2.setRow g2' (pvC ms)) = v3 at *
  clear hd1 hd2 hsz
  go_wp2_with (first | (with_reducible refine stop_loadT 66 ?_) | (with_reducible refine stop_storeT 66 ?_) | (with_reducible refine stop_loadG 66 ?_))
  go_fit (Ho.out _ hb1)
  rintro e v1 ⟨rfl, hc1⟩
  have hs0 := hb1.size
  replace hb1 := bnx hb1 hc1
  replace q1 := blk_old q1 hc1 (blk_lt q1)
  replace q2 := blk_old q2 hc1 (blk_lt q2)
  have q3 := heap_alloc_new v1 (.cells #[.int .i64 0, .int .i64 0, .int .i64 0, .int .i64 0, .int .i64 0, .int .i64 0, .int .i64 0, .int .i64 0, .int .i64 0, .int .i64 0, .int .i64 0, .int .i64 0, .int .i64 0, .int .i64 0, .int .i64 0, .int .i64 0, .int .i64 0, .int .i64 0, .int .i64 0, .int .i64 0, .int .i64 0, .int .i64 0, .int .i64 0, .int .i64 0, .int .i64 0, .int .i64 0, .int .i64 0, .int .i64 0, .int .i64 0, .int .i64 0, .int .i64 0, .int .i64 0] 66)
  have hd1 : Below v1.heap.size v1 (v1.alloc (.cells #[.int .i64 0, .int .i64 0, .int .i64 0, .int .i64 0, .int .i64 0, .int .i64 0, .int .i64 0, .int .i64 0, .int .i64 0, .int .i64 0, .int .i64 0, .int .i64 0, .int .i64 0, .int .i64 0, .int .i64 0, .int .i64 0, .int .i64 0, .int .i64 0, .int .i64 0, .int .i64 0, .int .i64 0, .int .i64 0, .int .i64 0, .int .i64 0, .int .i64 0, .int .i64 0, .int .i64 0, .int .i64 0, .int .i64 0, .int .i64 0, .int .i64 0, .int .i64 0] 66)) := (Below.refl _ _).alloc (Nat.le_refl _) _
  replace hb1 := bnx hb1 hd1
  have l1 := blk_lt q1
  replace q1 := blk_old q1 hd1 l1
  have l2 := blk_lt q2
  replace q2 := blk_old q2 hd1 l2
  have hsz : w.heap.size ≤ v1.heap.size := by have := hc1.size; have := hs0; omega
  clear hc1 hs0
  go_wp2_with (first | (with_reducible refine stop_loadT 66 ?_) | (with_reducible refine stop_storeT 66 ?_) | (with_reducible refine stop_loadG 66 ?_))
  generalize (v1.alloc (.cells #[.int .i64 0, .int .i64 0, .int .i64 0, .int .i64 0, .int .i64 0, .int .i64 0, .int .i64 0, .int .i64 0, .int .i64 0, .int .i64 0, .int .i64 0, .int .i64 0, .int .i64 0, .int .i64 0, .int .i64 0, .int .i64 0, .int .i64 0, .int .i64 0, .int .i64 0, .int .i64 0, .int .i64 0, .int .i64 0, .int .i64 0, .int .i64 0, .int .i64 0, .int .i64 0, .int .i64 0, .int .i64 0, .int .i64 0, .int .i64 0, .int .i64 0, .int .i64 0] 66)) = v2 at *
  generalize v1.heap.size = g3' at *
  refine go_ (wpList_store_row rfl _ _ _ rfl g3' (pvC os) rfl rfl _ _ q3 HsO.out (by rw [pvC_size, Hol.out]; rfl) (pvC_one _) ?_)
  have hd2 := below_setRow (Below.refl g3' v2) (Nat.le_refl _) (pvC os)
  replace hb1 := hb1.trans (hd2.mono hsz)
  replace q3 := setRow_heap _ _ _ (pvC os) _ _ q3
  replace q1 := (hd2.block _ l1).trans q1
  clear l1
  replace q2 := (hd2.block _ l2).trans q2
  clear l2
  generalize (v2.setRow g3' (pvC os)) = v3 at *
  clear hd1 hd2 hsz
  go_wp2_with (first | (with_reducible refine stop_loadT 66 ?_) | (with_reducible refine stop_storeT 66 ?_) | (with_reducible refine stop_loadG 66 ?_))
  go_fit (Hqo.out _ hb1)
  rintro e v1 ⟨rfl, hc1⟩
  have hs0 := hb1.size
  replace hb1 := bnx hb1 hc1
  replace q1 := blk_old q1 hc1 (blk_lt q1)
  replace q2 := blk_old q2 hc1 (blk_lt q2)
  replace q3 := blk_old q3 hc1 (blk_lt q3)
  have q4 := heap_alloc_new v1 (.cells #[.int .i64 0, .int .i64 0, .int .i64 0, .int .i64 0, .int .i64 0, .int .i64 0, .int .i64 0, .int .i64 0, .int .i64 0, .int .i64 0, .int .i64 0, .int .i64 0, .int .i64 0, .int .i64 0, .int .i64 0, .int .i64 0, .int .i64 0, .int .i64 0, .int .i64 0, .int .i64 0, .int .i64 0, .int .i64 0, .int .i64 0, .int .i64 0, .int .i64 0, .int .i64 0, .int .i64 0, .int .i64 0, .int .i64 0, .int .i64 0, .int .i64 0, .int .i64 0] 66)
  have hd1 : Below v1.heap.size v1 (v1.alloc (.cells #[.int .i64 0, .int .i64 0, .int .i64 0, .int .i64 0, .int .i64 0, .int .i64 0, .int .i64 0, .int .i64 0, .int .i64 0, .int .i64 0, .int .i64 0, .int .i64 0, .int .i64 0, .int .i64 0, .int .i64 0, .int .i64 0, .int .i64 0, .int .i64 0, .int .i64 0, .int .i64 0, .int .i64 0, .int .i64 0, .int .i64 0, .int .i64 0, .int .i64 0, .int .i64 0, .int .i64 0, .int .i64 0, .int .i64 0, .int .i64 0, .int .i64 0, .int .i64 0] 66)) := (Below.refl _ _).alloc (Nat.le_refl _) _
  replace hb1 := bnx hb1 hd1
  have l1 := blk_lt q1
  replace q1 := blk_old q1 hd1 l1
  have l2 := blk_lt q2
  replace q2 := blk_old q2 hd1 l2
  have l3 := blk_lt q3
  replace q3 := blk_old q3 hd1 l3
  have hsz : w.heap.size ≤ v1.heap.size := by have := hc1.size; have := hs0; omega
  clear hc1 hs0
  go_wp2_with (first | (with_reducible refine stop_loadT 66 ?_) | (with_reducible refine stop_storeT 66 ?_) | (with_reducible refine stop_loadG 66 ?_))
  generalize (v1.alloc (.cells #[.int .i64 0, .int .i64 0, .int .i64 0, .int .i64 0, .int .i64 0, .int .i64 0, .int .i64 0, .int .i64 0, .int .i64 0, .int .i64 0, .int .i64 0, .int .i64 0, .int .i64 0, .int .i64 0, .int .i64 0, .int .i64 0, .int .i64 0, .int .i64 0, .int .i64 0, .int .i64 0, .int .i64 0, .int .i64 0, .int .i64 0, .int .i64 0, .int .i64 0, .int .i64 0, .int .i64 0, .int .i64 0, .int .i64 0, .int .i64 0, .int .i64 0, .int .i64 0] 66)) = v2 at *
  generalize v1.heap.size = g4' at *
  refine go_ (wpList_store_row rfl _ _ _ rfl g4' (pvC os) rfl rfl _ _ q4 HsO.out (by rw [pvC_size, Hol.out]; rfl) (pvC_one _) ?_)
  have hd2 := below_setRow (Below.refl g4' v2) (Nat.le_refl _) (pvC os)
  replace hb1 := hb1.trans (hd2.mono hsz)
  replace q4 := setRow_heap _ _ _ (pvC os) _ _ q4
  replace q1 := (hd2.block _ l1).trans q1
  clear l1
  replace q2 := (hd2.block _ l2).trans q2
  clear l2
  replace q3 := (hd2.block _ l3).trans q3
  clear l3
  generalize (v2.setRow g4' (pvC os)) = v3 at *
  clear hd1 hd2 hsz
  have m1 := pvt_same ms Hml.out
  have m2 := pvt_same os Hol.out
  go_wp2_with (first | (with_reducible refine stop_loadT 66 ?_) | (with_reducible refine stop_storeT 66 ?_) | (with_reducible refine stop_loadG 66 ?_))
  refine go_ (wpList_load_row rfl _ _ rfl g1' rfl _ _ _ _ q1 Try.underlying66 rfl HsM.out ?_)
  go_wp2_with (first | (with_reducible refine stop_loadT 66 ?_) | (with_reducible refine stop_storeT 66 ?_) | (with_reducible refine stop_loadG 66 ?_))
  refine go_ (wpList_load_row rfl _ _ rfl g2' rfl _ _ _ _ q2 Try.underlying66 rfl HsM.out ?_)
  go_wp2_with (first | (with_reducible refine stop_loadT 66 ?_) | (with_reducible refine stop_storeT 66 ?_) | (with_reducible refine stop_loadG 66 ?_))
  go_fit (num16_any _ _)
  rintro e wz ⟨rfl, rfl⟩
  go_wp2_with (first | (with_reducible refine stop_loadT 66 ?_) | (with_reducible refine stop_storeT 66 ?_) | (with_reducible refine stop_loadG 66 ?_))
  go_fit (num16_any _ _)
  rintro e wz ⟨rfl, rfl⟩
  go_wp2_with (first | (with_reducible refine stop_loadT 66 ?_) | (with_reducible refine stop_storeT 66 ?_) | (with_reducible refine stop_loadG 66 ?_))
  refine go_ (wpList_load_rowG (by kernel_rfl) _ _ rfl g3' rfl _ _ _ _ q3 Try.underlying66 rfl HsO.out ?_)
  go_wp2_with (first | (with_reducible refine stop_loadT 66 ?_) | (with_reducible refine stop_storeT 66 ?_) | (with_reducible refine stop_loadG 66 ?_))
  refine go_ (wpList_load_rowG (by kernel_rfl) _ _ rfl g4' rfl _ _ _ _ q4 Try.underlying66 rfl HsO.out ?_)
  go_wp2
  go_ret
  exact ⟨rfl, hb1⟩

end Go.Proofs.Ytkelepnipndbbaa
