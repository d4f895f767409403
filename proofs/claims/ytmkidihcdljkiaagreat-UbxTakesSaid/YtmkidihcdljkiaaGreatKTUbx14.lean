/-
  The law UbxTakes walked (printed by gen_ubx14.py).
-/
import Derived.Test.YtmkidihcdljkiaaGreatKTGUB
set_option linter.unusedSimpArgs false
set_option linter.unusedVariables false
namespace Go.Proofs.YtmkidihcdljkiaaGreat
open Go.RowKit NumLaw
attribute [local go_sem] Addr.add_mid

set_option maxRecDepth 20000 in
set_option maxHeartbeats 8000000 in
theorem ubxtakes_no1 (c i : Int) (A : Option Addr) (n cap : Nat) (p : List UInt8) (A' : Option Addr) (n' cap' : Nat) (b : List UInt8) (w : World) (h : Rd w w.heap.size 1 A n cap (bv p)) (h' : Rd w w.heap.size 1 A' n' cap' (bv b)) (g1 : 1100 < n) :
    Calls Tryz.prog 4 #[.agg #[.int .i64 c, .int .i64 i, .slice A n cap], .slice A' n' cap'] w fun e w' => e = .returned (.bool true) ∧ Below w.heap.size w w' := by
  have hb := (Below.refl w.heap.size w).alloc (Nat.le_refl _) (.cells #[.int .i64 c, .int .i64 i, .slice A n cap] 40)
  have x0 := heap_alloc_new w (.cells #[.int .i64 c, .int .i64 i, .slice A n cap] 40)
  have e2 := blk_cell (i := 2) (v := .slice A n cap) x0 rfl
  have g1' : (1100 : Int) < (n : Int) := by omega
  clear h h' x0
  go_enter Tryz.func4, Tryz.ntmps4
  go_wp2_with fail
  generalize (w.alloc (.cells #[.int .i64 c, .int .i64 i, .slice A n cap] 40)) = w1 at *
  go_fit (knows21 w1)
  rintro e w2 ⟨rfl, hb2⟩
  replace hb := bnx hb hb2
  clear hb2 e2
  go_wp2
  go_ret
  exact ⟨rfl, hb⟩

set_option maxRecDepth 20000 in
set_option maxHeartbeats 8000000 in
theorem ubxtakes_no2 (c i : Int) (A : Option Addr) (n cap : Nat) (p : List UInt8) (A' : Option Addr) (n' cap' : Nat) (b : List UInt8) (w : World) (h : Rd w w.heap.size 1 A n cap (bv p)) (h' : Rd w w.heap.size 1 A' n' cap' (bv b)) (g1 : ¬ 1100 < n) (g2 : 1100 < n') :
    Calls Tryz.prog 4 #[.agg #[.int .i64 c, .int .i64 i, .slice A n cap], .slice A' n' cap'] w fun e w' => e = .returned (.bool true) ∧ Below w.heap.size w w' := by
  have hb := (Below.refl w.heap.size w).alloc (Nat.le_refl _) (.cells #[.int .i64 c, .int .i64 i, .slice A n cap] 40)
  have x0 := heap_alloc_new w (.cells #[.int .i64 c, .int .i64 i, .slice A n cap] 40)
  have e2 := blk_cell (i := 2) (v := .slice A n cap) x0 rfl
  have g1' : ¬ (1100 : Int) < (n : Int) := by omega
  have g2' : (1100 : Int) < (n' : Int) := by omega
  clear h h' x0
  go_enter Tryz.func4, Tryz.ntmps4
  go_wp2_with fail
  generalize (w.alloc (.cells #[.int .i64 c, .int .i64 i, .slice A n cap] 40)) = w1 at *
  go_fit (knows21 w1)
  rintro e w2 ⟨rfl, hb2⟩
  replace hb := bnx hb hb2
  clear hb2 e2
  go_wp2
  go_ret
  exact ⟨rfl, hb⟩

set_option maxRecDepth 20000 in
set_option maxHeartbeats 8000000 in
theorem ubxtakes_yes (c i : Int) (A : Option Addr) (n cap : Nat) (p : List UInt8) (A' : Option Addr) (n' cap' : Nat) (b : List UInt8) (w : World) (h : Rd w w.heap.size 1 A n cap (bv p)) (h' : Rd w w.heap.size 1 A' n' cap' (bv b)) (g1 : ¬ 1100 < n) (g2 : ¬ 1100 < n') :
    Calls Tryz.prog 4 #[.agg #[.int .i64 c, .int .i64 i, .slice A n cap], .slice A' n' cap'] w fun e w' => e = .returned (.bool true) ∧ Below w.heap.size w w' := by
  have hb := (Below.refl w.heap.size w).alloc (Nat.le_refl _) (.cells #[.int .i64 c, .int .i64 i, .slice A n cap] 40)
  have x0 := heap_alloc_new w (.cells #[.int .i64 c, .int .i64 i, .slice A n cap] 40)
  have e2 := blk_cell (i := 2) (v := .slice A n cap) x0 rfl
  have g1' : ¬ (1100 : Int) < (n : Int) := by omega
  have g2' : ¬ (1100 : Int) < (n' : Int) := by omega
  replace h := h.nx hb
  replace h' := h'.nx hb
  have Ht := Lib.hid (fun w h hB => ubTake_any c i A n cap w.heap.size p w h hB (by omega))
  have Hq := Lib.hid (fun w h hB => qubTake_any c i A n cap w.heap.size p w h hB (by omega))
  have Hd := Lib.hid (fun w h hB => ubDecode_any A' n' cap' w.heap.size b w h hB (by omega))
  have Hdq := Lib.hid (fun w h hB => qubDecode_any A' n' cap' w.heap.size b w h hB (by omega))
  have HLT := Lib.hid (ubT_lens c i p)
  have HLD := Lib.hid (ubDV_lens b)
  have H7T := Lib.hid (ubT_ok c i p).ll
  have H7D := Lib.hid (ubDV_ok b).ll
  generalize ubT c i p = T at *
  generalize ubTE c i p = TE at *
  generalize ubDV b = DV at *
  generalize ubDN b = DN at *
  generalize ubDE b = DE at *
  clear g1 g2
  go_enter Tryz.func4, Tryz.ntmps4
  go_wp2_with fail
  generalize (w.alloc (.cells #[.int .i64 c, .int .i64 i, .slice A n cap] 40)) = w1 at *
  go_fit (knows21 w1)
  rintro e w2 ⟨rfl, hb2⟩
  clear e2
  replace x0 := blk_old x0 hb2 (blk_lt x0)
  replace h := h.nx hb2
  replace h' := h'.nx hb2
  replace hb := bnx hb hb2
  clear hb2
  have e0 := blk_cell (i := 0) (v := .int .i64 c) x0 rfl
  have e1 := blk_cell (i := 1) (v := .int .i64 i) x0 rfl
  have e2 := blk_cell (i := 2) (v := .slice A n cap) x0 rfl
  go_wp2_with fail
  go_fit (Ht.out w2 h (Nat.le_refl _))
  rintro e w4 ⟨a5, rfl, r5, _, hb4⟩
  clear e0 e1 e2
  replace x0 := blk_old x0 hb4 (blk_lt x0)
  replace h := h.nx hb4
  replace h' := h'.nx hb4
  replace hb := bnx hb hb4
  clear hb4
  have y1 := heap_alloc_new w4 (.cells #[.int .i64 0, .int .i64 0, .int .i64 0, .int .i64 0, .int .i64 0, .int .i64 0, .int .i64 0, .int .i64 0, .int .i64 0, .int .i64 0, .int .i64 0, .int .i64 0, .int .i64 0, .int .i64 0, .int .i64 0, .int .i64 0, .int .i64 0, .int .i64 0, .int .i64 0, .int .i64 0, .int .i64 0, .int .i64 0, .int .i64 0, .int .i64 0, .int .i64 0, .int .i64 0, .int .i64 0, .int .i64 0, .int .i64 0, .int .i64 0, .int .i64 0, .int .i64 0, .int .i64 0, .int .i64 0, .slice none 0 0, .int .i64 0, .int .i64 0, .int .i64 0, .int .i64 0, .int .i64 0, .int .i64 0, .int .i64 0, .int .i64 0, .bool false, .int .i64 0, .int .i64 0, .int .i64 0, .slice none 0 0] 35)
  have hbA := (Below.refl w4.heap.size w4).alloc (Nat.le_refl _) (.cells #[.int .i64 0, .int .i64 0, .int .i64 0, .int .i64 0, .int .i64 0, .int .i64 0, .int .i64 0, .int .i64 0, .int .i64 0, .int .i64 0, .int .i64 0, .int .i64 0, .int .i64 0, .int .i64 0, .int .i64 0, .int .i64 0, .int .i64 0, .int .i64 0, .int .i64 0, .int .i64 0, .int .i64 0, .int .i64 0, .int .i64 0, .int .i64 0, .int .i64 0, .int .i64 0, .int .i64 0, .int .i64 0, .int .i64 0, .int .i64 0, .int .i64 0, .int .i64 0, .int .i64 0, .int .i64 0, .slice none 0 0, .int .i64 0, .int .i64 0, .int .i64 0, .int .i64 0, .int .i64 0, .int .i64 0, .int .i64 0, .int .i64 0, .bool false, .int .i64 0, .int .i64 0, .int .i64 0, .slice none 0 0] 35)
  go_wp2_with (first | (with_reducible refine stop_loadT 35 ?_) | (with_reducible refine stop_storeT 35 ?_) | (with_reducible refine stop_loadG 35 ?_))
  generalize (w4.alloc (.cells #[.int .i64 0, .int .i64 0, .int .i64 0, .int .i64 0, .int .i64 0, .int .i64 0, .int .i64 0, .int .i64 0, .int .i64 0, .int .i64 0, .int .i64 0, .int .i64 0, .int .i64 0, .int .i64 0, .int .i64 0, .int .i64 0, .int .i64 0, .int .i64 0, .int .i64 0, .int .i64 0, .int .i64 0, .int .i64 0, .int .i64 0, .int .i64 0, .int .i64 0, .int .i64 0, .int .i64 0, .int .i64 0, .int .i64 0, .int .i64 0, .int .i64 0, .int .i64 0, .int .i64 0, .int .i64 0, .slice none 0 0, .int .i64 0, .int .i64 0, .int .i64 0, .int .i64 0, .int .i64 0, .int .i64 0, .int .i64 0, .int .i64 0, .bool false, .int .i64 0, .int .i64 0, .int .i64 0, .slice none 0 0] 35)) = w5 at *
  refine go_ (wpList_store_row rfl _ _ _ rfl w4.heap.size (ubL T a5).toArray rfl rfl _ _ y1 (ub_size _ _ HLT.out.1 HLT.out.2) (ub_sizes (V := ub0) (a := ua0) rfl rfl HLT.out.1 HLT.out.2) (ub_one _ _) ?_)
  have m5 : UbB (w5.setRow w4.heap.size (ubL T a5).toArray) w4.heap.size T a5 := setRow_heap _ _ _ _ _ _ y1
  have hbN : Below w4.heap.size w4 (w5.setRow w4.heap.size (ubL T a5).toArray) := below_aw20 hbA (aw_setRow20 _ _) (fun k hk => by rw [hk]; exact Nat.le_refl _) hbA.size
  generalize w5.setRow w4.heap.size (ubL T a5).toArray = w6 at *
  clear y1 hbA
  replace x0 := blk_old x0 hbN (blk_lt x0)
  replace h := h.nx hbN
  replace h' := h'.nx hbN
  replace r5 := (r5.up hbN).more hbN.size
  replace hb := bnx hb hbN
  clear hbN
  have e0 := blk_cell (i := 0) (v := .int .i64 c) x0 rfl
  have e1 := blk_cell (i := 1) (v := .int .i64 i) x0 rfl
  have e2 := blk_cell (i := 2) (v := .slice A n cap) x0 rfl
  go_wp2_with fail
  go_fit (Hq.out w6 h (Nat.le_refl _))
  rintro e w7 ⟨a7, rfl, r7, _, hb4⟩
  clear e0 e1 e2
  replace x0 := blk_old x0 hb4 (blk_lt x0)
  replace h := h.nx hb4
  replace h' := h'.nx hb4
  replace r5 := (r5.up hb4).more hb4.size
  replace m5 := m5.old hb4 (blk_lt m5)
  replace hb := bnx hb hb4
  clear hb4
  have y1 := heap_alloc_new w7 (.cells #[.int .i64 0, .int .i64 0, .int .i64 0, .int .i64 0, .int .i64 0, .int .i64 0, .int .i64 0, .int .i64 0, .int .i64 0, .int .i64 0, .int .i64 0, .int .i64 0, .int .i64 0, .int .i64 0, .int .i64 0, .int .i64 0, .int .i64 0, .int .i64 0, .int .i64 0, .int .i64 0, .int .i64 0, .int .i64 0, .int .i64 0, .int .i64 0, .int .i64 0, .int .i64 0, .int .i64 0, .int .i64 0, .int .i64 0, .int .i64 0, .int .i64 0, .int .i64 0, .int .i64 0, .int .i64 0, .slice none 0 0, .int .i64 0, .int .i64 0, .int .i64 0, .int .i64 0, .int .i64 0, .int .i64 0, .int .i64 0, .int .i64 0, .bool false, .int .i64 0, .int .i64 0, .int .i64 0, .slice none 0 0] 35)
  have hbA := (Below.refl w7.heap.size w7).alloc (Nat.le_refl _) (.cells #[.int .i64 0, .int .i64 0, .int .i64 0, .int .i64 0, .int .i64 0, .int .i64 0, .int .i64 0, .int .i64 0, .int .i64 0, .int .i64 0, .int .i64 0, .int .i64 0, .int .i64 0, .int .i64 0, .int .i64 0, .int .i64 0, .int .i64 0, .int .i64 0, .int .i64 0, .int .i64 0, .int .i64 0, .int .i64 0, .int .i64 0, .int .i64 0, .int .i64 0, .int .i64 0, .int .i64 0, .int .i64 0, .int .i64 0, .int .i64 0, .int .i64 0, .int .i64 0, .int .i64 0, .int .i64 0, .slice none 0 0, .int .i64 0, .int .i64 0, .int .i64 0, .int .i64 0, .int .i64 0, .int .i64 0, .int .i64 0, .int .i64 0, .bool false, .int .i64 0, .int .i64 0, .int .i64 0, .slice none 0 0] 35)
  go_wp2_with (first | (with_reducible refine stop_loadT 35 ?_) | (with_reducible refine stop_storeT 35 ?_) | (with_reducible refine stop_loadG 35 ?_))
  generalize (w7.alloc (.cells #[.int .i64 0, .int .i64 0, .int .i64 0, .int .i64 0, .int .i64 0, .int .i64 0, .int .i64 0, .int .i64 0, .int .i64 0, .int .i64 0, .int .i64 0, .int .i64 0, .int .i64 0, .int .i64 0, .int .i64 0, .int .i64 0, .int .i64 0, .int .i64 0, .int .i64 0, .int .i64 0, .int .i64 0, .int .i64 0, .int .i64 0, .int .i64 0, .int .i64 0, .int .i64 0, .int .i64 0, .int .i64 0, .int .i64 0, .int .i64 0, .int .i64 0, .int .i64 0, .int .i64 0, .int .i64 0, .slice none 0 0, .int .i64 0, .int .i64 0, .int .i64 0, .int .i64 0, .int .i64 0, .int .i64 0, .int .i64 0, .int .i64 0, .bool false, .int .i64 0, .int .i64 0, .int .i64 0, .slice none 0 0] 35)) = w8 at *
  refine go_ (wpList_store_row rfl _ _ _ rfl w7.heap.size (ubL T a7).toArray rfl rfl _ _ y1 (ub_size _ _ HLT.out.1 HLT.out.2) (ub_sizes (V := ub0) (a := ua0) rfl rfl HLT.out.1 HLT.out.2) (ub_one _ _) ?_)
  have m7 : UbB (w8.setRow w7.heap.size (ubL T a7).toArray) w7.heap.size T a7 := setRow_heap _ _ _ _ _ _ y1
  have hbN : Below w7.heap.size w7 (w8.setRow w7.heap.size (ubL T a7).toArray) := below_aw20 hbA (aw_setRow20 _ _) (fun k hk => by rw [hk]; exact Nat.le_refl _) hbA.size
  generalize w8.setRow w7.heap.size (ubL T a7).toArray = w9 at *
  clear y1 hbA
  replace x0 := blk_old x0 hbN (blk_lt x0)
  replace h := h.nx hbN
  replace h' := h'.nx hbN
  replace r5 := (r5.up hbN).more hbN.size
  replace m5 := m5.old hbN (blk_lt m5)
  replace r7 := (r7.up hbN).more hbN.size
  replace hb := bnx hb hbN
  clear hbN
  go_wp2_with fail
  go_fit (Hd.out w9 h' (Nat.le_refl _))
  rintro e v1 ⟨a9, rfl, r9, hb4⟩
  replace x0 := blk_old x0 hb4 (blk_lt x0)
  replace h := h.nx hb4
  replace h' := h'.nx hb4
  replace r5 := (r5.up hb4).more hb4.size
  replace m5 := m5.old hb4 (blk_lt m5)
  replace r7 := (r7.up hb4).more hb4.size
  replace m7 := m7.old hb4 (blk_lt m7)
  replace hb := bnx hb hb4
  clear hb4
  have y1 := heap_alloc_new v1 (.cells #[.int .i64 0, .int .i64 0, .int .i64 0, .int .i64 0, .int .i64 0, .int .i64 0, .int .i64 0, .int .i64 0, .int .i64 0, .int .i64 0, .int .i64 0, .int .i64 0, .int .i64 0, .int .i64 0, .int .i64 0, .int .i64 0, .int .i64 0, .int .i64 0, .int .i64 0, .int .i64 0, .int .i64 0, .int .i64 0, .int .i64 0, .int .i64 0, .int .i64 0, .int .i64 0, .int .i64 0, .int .i64 0, .int .i64 0, .int .i64 0, .int .i64 0, .int .i64 0, .int .i64 0, .int .i64 0, .slice none 0 0, .int .i64 0, .int .i64 0, .int .i64 0, .int .i64 0, .int .i64 0, .int .i64 0, .int .i64 0, .int .i64 0, .bool false, .int .i64 0, .int .i64 0, .int .i64 0, .slice none 0 0] 35)
  have hbA := (Below.refl v1.heap.size v1).alloc (Nat.le_refl _) (.cells #[.int .i64 0, .int .i64 0, .int .i64 0, .int .i64 0, .int .i64 0, .int .i64 0, .int .i64 0, .int .i64 0, .int .i64 0, .int .i64 0, .int .i64 0, .int .i64 0, .int .i64 0, .int .i64 0, .int .i64 0, .int .i64 0, .int .i64 0, .int .i64 0, .int .i64 0, .int .i64 0, .int .i64 0, .int .i64 0, .int .i64 0, .int .i64 0, .int .i64 0, .int .i64 0, .int .i64 0, .int .i64 0, .int .i64 0, .int .i64 0, .int .i64 0, .int .i64 0, .int .i64 0, .int .i64 0, .slice none 0 0, .int .i64 0, .int .i64 0, .int .i64 0, .int .i64 0, .int .i64 0, .int .i64 0, .int .i64 0, .int .i64 0, .bool false, .int .i64 0, .int .i64 0, .int .i64 0, .slice none 0 0] 35)
  go_wp2_with (first | (with_reducible refine stop_loadT 35 ?_) | (with_reducible refine stop_storeT 35 ?_) | (with_reducible refine stop_loadG 35 ?_))
  generalize (v1.alloc (.cells #[.int .i64 0, .int .i64 0, .int .i64 0, .int .i64 0, .int .i64 0, .int .i64 0, .int .i64 0, .int .i64 0, .int .i64 0, .int .i64 0, .int .i64 0, .int .i64 0, .int .i64 0, .int .i64 0, .int .i64 0, .int .i64 0, .int .i64 0, .int .i64 0, .int .i64 0, .int .i64 0, .int .i64 0, .int .i64 0, .int .i64 0, .int .i64 0, .int .i64 0, .int .i64 0, .int .i64 0, .int .i64 0, .int .i64 0, .int .i64 0, .int .i64 0, .int .i64 0, .int .i64 0, .int .i64 0, .slice none 0 0, .int .i64 0, .int .i64 0, .int .i64 0, .int .i64 0, .int .i64 0, .int .i64 0, .int .i64 0, .int .i64 0, .bool false, .int .i64 0, .int .i64 0, .int .i64 0, .slice none 0 0] 35)) = v2 at *
  refine go_ (wpList_store_row rfl _ _ _ rfl v1.heap.size (ubL DV a9).toArray rfl rfl _ _ y1 (ub_size _ _ HLD.out.1 HLD.out.2) (ub_sizes (V := ub0) (a := ua0) rfl rfl HLD.out.1 HLD.out.2) (ub_one _ _) ?_)
  have m9 : UbB (v2.setRow v1.heap.size (ubL DV a9).toArray) v1.heap.size DV a9 := setRow_heap _ _ _ _ _ _ y1
  have hbN : Below v1.heap.size v1 (v2.setRow v1.heap.size (ubL DV a9).toArray) := below_aw20 hbA (aw_setRow20 _ _) (fun k hk => by rw [hk]; exact Nat.le_refl _) hbA.size
  generalize v2.setRow v1.heap.size (ubL DV a9).toArray = v3 at *
  clear y1 hbA
  replace x0 := blk_old x0 hbN (blk_lt x0)
  replace h := h.nx hbN
  replace h' := h'.nx hbN
  replace r5 := (r5.up hbN).more hbN.size
  replace m5 := m5.old hbN (blk_lt m5)
  replace r7 := (r7.up hbN).more hbN.size
  replace m7 := m7.old hbN (blk_lt m7)
  replace r9 := (r9.up hbN).more hbN.size
  replace hb := bnx hb hbN
  clear hbN
  go_wp2_with fail
  go_fit (Hdq.out v3 h' (Nat.le_refl _))
  rintro e v4 ⟨a12, rfl, r12, hb4⟩
  replace x0 := blk_old x0 hb4 (blk_lt x0)
  replace h := h.nx hb4
  replace h' := h'.nx hb4
  replace r5 := (r5.up hb4).more hb4.size
  replace m5 := m5.old hb4 (blk_lt m5)
  replace r7 := (r7.up hb4).more hb4.size
  replace m7 := m7.old hb4 (blk_lt m7)
  replace r9 := (r9.up hb4).more hb4.size
  replace m9 := m9.old hb4 (blk_lt m9)
  replace hb := bnx hb hb4
  clear hb4
  have y1 := heap_alloc_new v4 (.cells #[.int .i64 0, .int .i64 0, .int .i64 0, .int .i64 0, .int .i64 0, .int .i64 0, .int .i64 0, .int .i64 0, .int .i64 0, .int .i64 0, .int .i64 0, .int .i64 0, .int .i64 0, .int .i64 0, .int .i64 0, .int .i64 0, .int .i64 0, .int .i64 0, .int .i64 0, .int .i64 0, .int .i64 0, .int .i64 0, .int .i64 0, .int .i64 0, .int .i64 0, .int .i64 0, .int .i64 0, .int .i64 0, .int .i64 0, .int .i64 0, .int .i64 0, .int .i64 0, .int .i64 0, .int .i64 0, .slice none 0 0, .int .i64 0, .int .i64 0, .int .i64 0, .int .i64 0, .int .i64 0, .int .i64 0, .int .i64 0, .int .i64 0, .bool false, .int .i64 0, .int .i64 0, .int .i64 0, .slice none 0 0] 35)
  have hbA := (Below.refl v4.heap.size v4).alloc (Nat.le_refl _) (.cells #[.int .i64 0, .int .i64 0, .int .i64 0, .int .i64 0, .int .i64 0, .int .i64 0, .int .i64 0, .int .i64 0, .int .i64 0, .int .i64 0, .int .i64 0, .int .i64 0, .int .i64 0, .int .i64 0, .int .i64 0, .int .i64 0, .int .i64 0, .int .i64 0, .int .i64 0, .int .i64 0, .int .i64 0, .int .i64 0, .int .i64 0, .int .i64 0, .int .i64 0, .int .i64 0, .int .i64 0, .int .i64 0, .int .i64 0, .int .i64 0, .int .i64 0, .int .i64 0, .int .i64 0, .int .i64 0, .slice none 0 0, .int .i64 0, .int .i64 0, .int .i64 0, .int .i64 0, .int .i64 0, .int .i64 0, .int .i64 0, .int .i64 0, .bool false, .int .i64 0, .int .i64 0, .int .i64 0, .slice none 0 0] 35)
  go_wp2_with (first | (with_reducible refine stop_loadT 35 ?_) | (with_reducible refine stop_storeT 35 ?_) | (with_reducible refine stop_loadG 35 ?_))
  generalize (v4.alloc (.cells #[.int .i64 0, .int .i64 0, .int .i64 0, .int .i64 0, .int .i64 0, .int .i64 0, .int .i64 0, .int .i64 0, .int .i64 0, .int .i64 0, .int .i64 0, .int .i64 0, .int .i64 0, .int .i64 0, .int .i64 0, .int .i64 0, .int .i64 0, .int .i64 0, .int .i64 0, .int .i64 0, .int .i64 0, .int .i64 0, .int .i64 0, .int .i64 0, .int .i64 0, .int .i64 0, .int .i64 0, .int .i64 0, .int .i64 0, .int .i64 0, .int .i64 0, .int .i64 0, .int .i64 0, .int .i64 0, .slice none 0 0, .int .i64 0, .int .i64 0, .int .i64 0, .int .i64 0, .int .i64 0, .int .i64 0, .int .i64 0, .int .i64 0, .bool false, .int .i64 0, .int .i64 0, .int .i64 0, .slice none 0 0] 35)) = v5 at *
  refine go_ (wpList_store_row rfl _ _ _ rfl v4.heap.size (ubL DV a12).toArray rfl rfl _ _ y1 (ub_size _ _ HLD.out.1 HLD.out.2) (ub_sizes (V := ub0) (a := ua0) rfl rfl HLD.out.1 HLD.out.2) (ub_one _ _) ?_)
  have m12 : UbB (v5.setRow v4.heap.size (ubL DV a12).toArray) v4.heap.size DV a12 := setRow_heap _ _ _ _ _ _ y1
  have hbN : Below v4.heap.size v4 (v5.setRow v4.heap.size (ubL DV a12).toArray) := below_aw20 hbA (aw_setRow20 _ _) (fun k hk => by rw [hk]; exact Nat.le_refl _) hbA.size
  generalize v5.setRow v4.heap.size (ubL DV a12).toArray = v6 at *
  clear y1 hbA
  replace x0 := blk_old x0 hbN (blk_lt x0)
  replace h := h.nx hbN
  replace h' := h'.nx hbN
  replace r5 := (r5.up hbN).more hbN.size
  replace m5 := m5.old hbN (blk_lt m5)
  replace r7 := (r7.up hbN).more hbN.size
  replace m7 := m7.old hbN (blk_lt m7)
  replace r9 := (r9.up hbN).more hbN.size
  replace m9 := m9.old hbN (blk_lt m9)
  replace r12 := (r12.up hbN).more hbN.size
  replace hb := bnx hb hbN
  clear hbN
  go_wp2_with (first | (with_reducible refine stop_loadT 35 ?_) | (with_reducible refine stop_storeT 35 ?_) | (with_reducible refine stop_loadG 35 ?_))
  refine go_ (wpList_load_row rfl _ _ rfl _ rfl _ _ _ _ m5 Tryz.underlying35 rfl (ub_size _ _ HLT.out.1 HLT.out.2) ?_)
  go_wp2_with (first | (with_reducible refine stop_loadT 35 ?_) | (with_reducible refine stop_storeT 35 ?_) | (with_reducible refine stop_loadG 35 ?_))
  refine go_ (wpList_load_row rfl _ _ rfl _ rfl _ _ _ _ m7 Tryz.underlying35 rfl (ub_size _ _ HLT.out.1 HLT.out.2) ?_)
  go_wp2_with fail
  go_fit (sameub_any T a5 a7 v6 HLT.out.1 HLT.out.2 H7T.out r5 r7)
  rintro e v7 ⟨rfl, hb4⟩
  replace x0 := blk_old x0 hb4 (blk_lt x0)
  replace h := h.nx hb4
  replace h' := h'.nx hb4
  replace r5 := (r5.up hb4).more hb4.size
  replace m5 := m5.old hb4 (blk_lt m5)
  replace r7 := (r7.up hb4).more hb4.size
  replace m7 := m7.old hb4 (blk_lt m7)
  replace r9 := (r9.up hb4).more hb4.size
  replace m9 := m9.old hb4 (blk_lt m9)
  replace r12 := (r12.up hb4).more hb4.size
  replace m12 := m12.old hb4 (blk_lt m12)
  replace hb := bnx hb hb4
  clear hb4
  go_wp2_with fail
  go_fit (num21_any _ _)
  rintro e u ⟨rfl, rfl⟩
  go_wp2_with fail
  go_fit (num21_any _ _)
  rintro e u ⟨rfl, rfl⟩
  go_wp2_with (first | (with_reducible refine stop_loadT 35 ?_) | (with_reducible refine stop_storeT 35 ?_) | (with_reducible refine stop_loadG 35 ?_))
  refine go_ (wpList_load_rowG (by kernel_rfl) _ _ rfl _ rfl _ _ _ _ m9 Tryz.underlying35 rfl (ub_size _ _ HLD.out.1 HLD.out.2) ?_)
  go_wp2_with (first | (with_reducible refine stop_loadT 35 ?_) | (with_reducible refine stop_storeT 35 ?_) | (with_reducible refine stop_loadG 35 ?_))
  refine go_ (wpList_load_rowG (by kernel_rfl) _ _ rfl _ rfl _ _ _ _ m12 Tryz.underlying35 rfl (ub_size _ _ HLD.out.1 HLD.out.2) ?_)
  go_wp2_with fail
  go_fit (sameub_any DV a9 a12 v7 HLD.out.1 HLD.out.2 H7D.out r9 r12)
  rintro e v8 ⟨rfl, hb4⟩
  replace x0 := blk_old x0 hb4 (blk_lt x0)
  replace h := h.nx hb4
  replace h' := h'.nx hb4
  replace r5 := (r5.up hb4).more hb4.size
  replace m5 := m5.old hb4 (blk_lt m5)
  replace r7 := (r7.up hb4).more hb4.size
  replace m7 := m7.old hb4 (blk_lt m7)
  replace r9 := (r9.up hb4).more hb4.size
  replace m9 := m9.old hb4 (blk_lt m9)
  replace r12 := (r12.up hb4).more hb4.size
  replace m12 := m12.old hb4 (blk_lt m12)
  replace hb := bnx hb hb4
  clear hb4
  go_wp2_with fail
  go_fit (num21_any _ _)
  rintro e u ⟨rfl, rfl⟩
  go_wp2_with fail
  go_fit (num21_any _ _)
  rintro e u ⟨rfl, rfl⟩
  clear m5 m7 m9 m12 r5 r7 r9 r12 h h' x0
  go_wp2
  go_ret
  exact ⟨rfl, hb⟩
theorem ubxtakes_any (c i : Int) (A : Option Addr) (n cap : Nat) (p : List UInt8) (A' : Option Addr) (n' cap' : Nat) (b : List UInt8) (w : World) (h : Rd w w.heap.size 1 A n cap (bv p)) (h' : Rd w w.heap.size 1 A' n' cap' (bv b)) :
    Calls Tryz.prog 4 #[.agg #[.int .i64 c, .int .i64 i, .slice A n cap], .slice A' n' cap'] w fun e w' => e = .returned (.bool true) ∧ Below w.heap.size w w' := by
  by_cases g1 : 1100 < n
  · exact ubxtakes_no1 c i A n cap p A' n' cap' b w h h' g1
  · by_cases g2 : 1100 < n'
    · exact ubxtakes_no2 c i A n cap p A' n' cap' b w h h' g1 g2
    · exact ubxtakes_yes c i A n cap p A' n' cap' b w h h' g1 g2

end Go.Proofs.YtmkidihcdljkiaaGreat
