/-
  The document's framed and Put, walked, a case a kind (printed by gen_ubx6.py).
-/
import Derived.Test.YtmkidihcdljkiaaGreatKPUbx3
set_option linter.unusedSimpArgs false
set_option linter.unusedVariables false
namespace Go.Proofs.YtmkidihcdljkiaaGreat
open Go.RowKit NumLaw
attribute [local go_sem] Addr.add_mid

set_option maxRecDepth 10000 in
set_option maxHeartbeats 1000000 in
theorem qframed_ok (c i : Int) (A : Option Addr) (n cap : Nat) (w : World)  :
    Calls Tryz.prog 28 #[.int .i64 c, .int .i64 i, .slice A n cap, .int .i64 0] w fun e w' => e = .returned (.tuple #[.agg #[.int .i64 c, .int .i64 i, .slice A n cap], .int .i64 0]) ∧ Below w.heap.size w w' := by
  have x1 := heap_alloc_new w (.cells #[.int .i64 0, .int .i64 0, .slice none 0 0] 40)
  have hb := (Below.refl w.heap.size w).alloc (Nat.le_refl _) (.cells #[.int .i64 0, .int .i64 0, .slice none 0 0] 40)
  go_enter Tryz.func28, Tryz.ntmps28
  go_wp2_with (first | (with_reducible refine stop_loadT 40 ?_) | (with_reducible refine stop_storeT 40 ?_) | (with_reducible refine stop_loadG 40 ?_))
  generalize (w.alloc (.cells #[.int .i64 0, .int .i64 0, .slice none 0 0] 40)) = w1 at *
  refine go_ (wpList_store_row rfl _ _ _ rfl w.heap.size #[.int .i64 c, .int .i64 i, .slice A n cap] rfl rfl _ _ x1 (by kernel_rfl) rfl (by kernel_rfl) ?_)
  have x2 := setRow_heap _ _ _ (#[.int .i64 c, .int .i64 i, .slice A n cap] : Array Value) _ _ x1
  have haw : Aw (fun k => k = w.heap.size) w1 (w1.setRow w.heap.size #[.int .i64 c, .int .i64 i, .slice A n cap]) := aw_setRow20 _ _
  have hb2 := below_aw20 hb haw (fun k hk => by rw [hk]; exact Nat.le_refl _) hb.size
  generalize w1.setRow w.heap.size #[.int .i64 c, .int .i64 i, .slice A n cap] = w2 at *
  have e0 := blk_cell (i := 0) (v := .int .i64 c) x2 rfl
  have e1 := blk_cell (i := 1) (v := .int .i64 i) x2 rfl
  have e2 := blk_cell (i := 2) (v := .slice A n cap) x2 rfl
  go_wp2
  refine bodyPost_ret (v := .tuple #[.agg #[.int .i64 c, .int .i64 i, .slice A n cap], .int .i64 (0)]) (by simp [results, go_sem, e0, e1, e2]) rfl ⟨rfl, hb2⟩

set_option maxRecDepth 10000 in
set_option maxHeartbeats 1000000 in
theorem qframed_no (c i : Int) (A : Option Addr) (n cap : Nat) (err : Nat) (w : World) (he : err ≠ 0) :
    Calls Tryz.prog 28 #[.int .i64 c, .int .i64 i, .slice A n cap, .int .i64 (err : Int)] w fun e w' => e = .returned (.tuple #[.agg #[.int .i64 0, .int .i64 0, .slice none 0 0], .int .i64 (err : Int)]) ∧ Below w.heap.size w w' := by
  have x1 := heap_alloc_new w (.cells #[.int .i64 0, .int .i64 0, .slice none 0 0] 40)
  have hb := (Below.refl w.heap.size w).alloc (Nat.le_refl _) (.cells #[.int .i64 0, .int .i64 0, .slice none 0 0] 40)
  have he' : ¬ (err : Int) = 0 := by omega
  go_enter Tryz.func28, Tryz.ntmps28
  go_wp2_with (first | (with_reducible refine stop_loadT 40 ?_) | (with_reducible refine stop_storeT 40 ?_) | (with_reducible refine stop_loadG 40 ?_))
  generalize (w.alloc (.cells #[.int .i64 0, .int .i64 0, .slice none 0 0] 40)) = w1 at *
  refine go_ (wpList_store_row rfl _ _ _ rfl w.heap.size #[.int .i64 0, .int .i64 0, .slice none 0 0] rfl rfl _ _ x1 (by kernel_rfl) rfl (by kernel_rfl) ?_)
  have x2 := setRow_heap _ _ _ (#[.int .i64 0, .int .i64 0, .slice none 0 0] : Array Value) _ _ x1
  have haw : Aw (fun k => k = w.heap.size) w1 (w1.setRow w.heap.size #[.int .i64 0, .int .i64 0, .slice none 0 0]) := aw_setRow20 _ _
  have hb2 := below_aw20 hb haw (fun k hk => by rw [hk]; exact Nat.le_refl _) hb.size
  generalize w1.setRow w.heap.size #[.int .i64 0, .int .i64 0, .slice none 0 0] = w2 at *
  have e0 := blk_cell (i := 0) (v := .int .i64 0) x2 rfl
  have e1 := blk_cell (i := 1) (v := .int .i64 0) x2 rfl
  have e2 := blk_cell (i := 2) (v := .slice none 0 0) x2 rfl
  go_wp2
  refine bodyPost_ret (v := .tuple #[.agg #[.int .i64 0, .int .i64 0, .slice none 0 0], .int .i64 (err : Int)]) (by simp [results, go_sem, e0, e1, e2]) rfl ⟨rfl, hb2⟩

set_option maxRecDepth 10000 in
set_option maxHeartbeats 4000000 in
theorem qubPut_1 (V : UbV) (a : UbA) (h : UbOk V) (w : World) (hr : UbR w w.heap.size V a) (hk : V.k = 1) :
    Calls Tryz.prog 9 #[.agg (ubL V a).toArray] w (RetFP w (ubFC V) (ubFI V) (ubFB V) (ubE V)) := by
  obtain ⟨oE, hoE⟩ : ∃ oE, oE = ubE V := ⟨_, rfl⟩
  obtain ⟨PB, hPB⟩ : ∃ PB, PB = ubB V := ⟨_, rfl⟩
  obtain ⟨FC, hFC⟩ : ∃ FC, FC = ubFC V := ⟨_, rfl⟩
  obtain ⟨FI, hFI⟩ : ∃ FI, FI = ubFI V := ⟨_, rfl⟩
  obtain ⟨FB, hFB⟩ : ∃ FB, FB = ubFB V := ⟨_, rfl⟩
  have H0 : Hid (oE = 0 → FC = 1 ∧ FI = 7 ∧ FB = PB) := Lib.hid (fun h0 => by rw [hoE] at h0; rw [hFC, hFI, hFB, hPB]; unfold ubFC ubFI ubFB; rw [if_pos h0, if_pos h0, if_pos h0]; exact ⟨by simp [ubC, hk], by simp [ubI, hk], rfl⟩)
  have H1 : Hid (oE ≠ 0 → FC = 0 ∧ FI = 0 ∧ FB = []) := Lib.hid (fun h0 => by rw [hoE] at h0; rw [hFC, hFI, hFB]; unfold ubFC ubFI ubFB; rw [if_neg h0, if_neg h0, if_neg h0]; exact ⟨rfl, rfl, rfl⟩)
  have eB : shP pvtF (valsOf V.p) = ubB V := by simp [ubB, hk]
  have eE : shE pvtF (valsOf V.p) = ubE V := by simp [ubE, hk]
  have Hq := Lib.hid (fun w1 => ubq1 (V := V) h w1)
  rw [eB, eE, ← hPB, ← hoE] at Hq
  rw [← hoE, ← hFC, ← hFI, ← hFB]
  obtain ⟨x0, x1, hs, hb⟩ := al2 w (.cells (ubL V a).toArray 35) (.cells #[.int .i64 0, .int .i64 0, .slice none 0 0] 40)
  have hx : UbB ((w.alloc (.cells (ubL V a).toArray 35)).alloc (.cells #[.int .i64 0, .int .i64 0, .slice none 0 0] 40)) w.heap.size V a := x0
  have hr1 := (hr.up hb).more hb.size
  clear hoE hPB hFC hFI hFB eB eE x0 hr
  go_enter Tryz.func9, Tryz.ntmps9
  go_wp2_with (with_reducible refine stop_loadT 3 ?_)
  generalize ((w.alloc (.cells (ubL V a).toArray 35)).alloc (.cells #[.int .i64 0, .int .i64 0, .slice none 0 0] 40)) = w1 at *
  have c0 := hx.kc
  rw [hk] at c0
  refine go_ ?_
  go_wp2_with (first | (with_reducible refine stop_loadT 23 ?_) | (with_reducible refine stop_storeT 23 ?_) | (with_reducible refine stop_loadG 23 ?_))
  refine go_ (wpList_load_mid rfl _ _ rfl w.heap.size 1 rfl (i64s V.p) _ (hx.pr h.pl) Tryz.underlying23 rfl (by rw [i64s_len, h.pl]; kernel_rfl) ?_)
  go_wp2_with fail
  go_fit (Hq.out w1)
  rintro e w2 ⟨A2, n2, c2, rfl, hown, hb2⟩
  have hs2 := blk_lt x1
  replace x1 := blk_old x1 hb2 hs2
  replace hb := bnx hb hb2
  have own_lt : Hid (∀ k, (Value.slice A2 n2 c2).ownBlock = some k → k < w2.heap.size) := Lib.hid (fun k hk => (own_blk hown hk).2)
  rw [hs] at hown
  clear hb2 hx hr1 c0 hs hs2
  by_cases he : oE = 0
  · obtain ⟨rfl, rfl, rfl⟩ := H0.out he
    go_wp2_with fail
    go_fit (qframed_ok 1 7 A2 n2 c2 w2)
    rintro e w4 ⟨rfl, hb4⟩
    have hlt4 := Lib.hid hb4.size
    have hg1 := blk_lt x1
    replace x1 := blk_old x1 hb4 hg1
    replace hb := bnx hb hb4
    replace hown := own_up hown hb4 (Nat.le_refl _)
    have y1 := heap_alloc_new w4 (.cells #[.int .i64 0, .int .i64 0, .slice none 0 0] 40)
    have hb5 := (Below.refl w4.heap.size w4).alloc (Nat.le_refl _) (.cells #[.int .i64 0, .int .i64 0, .slice none 0 0] 40)
    have hg4 := blk_lt x1
    replace x1 := blk_old x1 hb5 hg4
    replace hown := own_up hown hb5 (Nat.le_refl _)
    replace hb := bnx hb hb5
    have hog : ∀ k, (Value.slice A2 n2 c2).ownBlock = some k → w.heap.size + 2 ≤ k ∧ k < w4.heap.size := fun k hk => ⟨by have := (own_blk hown hk).1; omega, Nat.lt_of_lt_of_le (own_lt.out k hk) hlt4.out⟩
    clear hb4 hb5
    go_wp2_with (first | (with_reducible refine stop_loadT 40 ?_) | (with_reducible refine stop_storeT 40 ?_) | (with_reducible refine stop_loadG 40 ?_))
    generalize (w4.alloc (.cells #[.int .i64 0, .int .i64 0, .slice none 0 0] 40)) = w5 at *
    generalize w4.heap.size = g5 at *
    refine go_ (wpList_store_row rfl _ _ _ rfl g5 #[.int .i64 1, .int .i64 7, .slice A2 n2 c2] rfl rfl _ _ y1 (by kernel_rfl) rfl (by kernel_rfl) ?_)
    have y2 := setRow_heap _ _ _ (#[.int .i64 1, .int .i64 7, .slice A2 n2 c2] : Array Value) _ _ y1
    have haw : Aw (fun k => k = g5) w5 (w5.setRow g5 #[.int .i64 1, .int .i64 7, .slice A2 n2 c2]) := aw_setRow20 _ _
    replace x1 := haw.keep x1 (by omega)
    replace hown := own_aw hown haw (fun k hk hu => by have := (hog k hk).2; omega)
    replace hb := below_aw20 hb haw (fun k hk => by rw [hk]; omega) hb.size
    generalize w5.setRow g5 #[.int .i64 1, .int .i64 7, .slice A2 n2 c2] = w6 at *
    clear haw y1
    go_wp2_with (first | (with_reducible refine stop_loadT 40 ?_) | (with_reducible refine stop_storeT 40 ?_) | (with_reducible refine stop_loadG 40 ?_))
    refine go_ (wpList_load_row rfl _ _ rfl g5 rfl _ _ _ _ y2 Tryz.underlying40 rfl (by kernel_rfl) ?_)
    go_wp2_with (first | (with_reducible refine stop_loadT 40 ?_) | (with_reducible refine stop_storeT 40 ?_) | (with_reducible refine stop_loadG 40 ?_))
    refine go_ (wpList_store_row rfl _ _ _ rfl (w.heap.size + 1) #[.int .i64 1, .int .i64 7, .slice A2 n2 c2] rfl rfl _ _ x1 (by kernel_rfl) rfl (by kernel_rfl) ?_)
    have x2 := setRow_heap _ _ _ (#[.int .i64 1, .int .i64 7, .slice A2 n2 c2] : Array Value) _ _ x1
    have haw : Aw (fun k => k = w.heap.size + 1) w6 (w6.setRow (w.heap.size + 1) #[.int .i64 1, .int .i64 7, .slice A2 n2 c2]) := aw_setRow20 _ _
    have hb2 := below_aw20 hb haw (fun k hk => by rw [hk]; omega) hb.size
    have hr6 := Rd.own (own_aw hown haw (fun k hk hu => by have := (hog k hk).1; omega))
    generalize w6.setRow (w.heap.size + 1) #[.int .i64 1, .int .i64 7, .slice A2 n2 c2] = w7 at *
    have e0 := blk_cell (i := 0) (v := .int .i64 1) x2 rfl
    have e1 := blk_cell (i := 1) (v := .int .i64 7) x2 rfl
    have e2 := blk_cell (i := 2) (v := .slice A2 n2 c2) x2 rfl
    go_wp2
    exact bodyPost_ret (v := .tuple #[.agg #[.int .i64 1, .int .i64 7, .slice A2 n2 c2], .int .i64 (0)]) (by simp [results, go_sem, e0, e1, e2]) rfl ⟨A2, n2, c2, by rw [he]; rfl, hr6, hb2⟩
  · obtain ⟨rfl, rfl, rfl⟩ := H1.out he
    go_wp2_with fail
    go_fit (qframed_no 1 7 A2 n2 c2 oE w2 he)
    rintro e w4 ⟨rfl, hb4⟩
    have hlt4 := Lib.hid hb4.size
    have hg1 := blk_lt x1
    replace x1 := blk_old x1 hb4 hg1
    replace hb := bnx hb hb4
    replace hown := own_up hown hb4 (Nat.le_refl _)
    have y1 := heap_alloc_new w4 (.cells #[.int .i64 0, .int .i64 0, .slice none 0 0] 40)
    have hb5 := (Below.refl w4.heap.size w4).alloc (Nat.le_refl _) (.cells #[.int .i64 0, .int .i64 0, .slice none 0 0] 40)
    have hg4 := blk_lt x1
    replace x1 := blk_old x1 hb5 hg4
    replace hown := own_up hown hb5 (Nat.le_refl _)
    replace hb := bnx hb hb5
    have hog : ∀ k, (Value.slice A2 n2 c2).ownBlock = some k → w.heap.size + 2 ≤ k ∧ k < w4.heap.size := fun k hk => ⟨by have := (own_blk hown hk).1; omega, Nat.lt_of_lt_of_le (own_lt.out k hk) hlt4.out⟩
    clear hb4 hb5
    go_wp2_with (first | (with_reducible refine stop_loadT 40 ?_) | (with_reducible refine stop_storeT 40 ?_) | (with_reducible refine stop_loadG 40 ?_))
    generalize (w4.alloc (.cells #[.int .i64 0, .int .i64 0, .slice none 0 0] 40)) = w5 at *
    generalize w4.heap.size = g5 at *
    refine go_ (wpList_store_row rfl _ _ _ rfl g5 #[.int .i64 0, .int .i64 0, .slice none 0 0] rfl rfl _ _ y1 (by kernel_rfl) rfl (by kernel_rfl) ?_)
    have y2 := setRow_heap _ _ _ (#[.int .i64 0, .int .i64 0, .slice none 0 0] : Array Value) _ _ y1
    have haw : Aw (fun k => k = g5) w5 (w5.setRow g5 #[.int .i64 0, .int .i64 0, .slice none 0 0]) := aw_setRow20 _ _
    replace x1 := haw.keep x1 (by omega)
    replace hown := own_aw hown haw (fun k hk hu => by have := (hog k hk).2; omega)
    replace hb := below_aw20 hb haw (fun k hk => by rw [hk]; omega) hb.size
    generalize w5.setRow g5 #[.int .i64 0, .int .i64 0, .slice none 0 0] = w6 at *
    clear haw y1
    go_wp2_with (first | (with_reducible refine stop_loadT 40 ?_) | (with_reducible refine stop_storeT 40 ?_) | (with_reducible refine stop_loadG 40 ?_))
    refine go_ (wpList_load_row rfl _ _ rfl g5 rfl _ _ _ _ y2 Tryz.underlying40 rfl (by kernel_rfl) ?_)
    go_wp2_with (first | (with_reducible refine stop_loadT 40 ?_) | (with_reducible refine stop_storeT 40 ?_) | (with_reducible refine stop_loadG 40 ?_))
    refine go_ (wpList_store_row rfl _ _ _ rfl (w.heap.size + 1) #[.int .i64 0, .int .i64 0, .slice none 0 0] rfl rfl _ _ x1 (by kernel_rfl) rfl (by kernel_rfl) ?_)
    have x2 := setRow_heap _ _ _ (#[.int .i64 0, .int .i64 0, .slice none 0 0] : Array Value) _ _ x1
    have haw : Aw (fun k => k = w.heap.size + 1) w6 (w6.setRow (w.heap.size + 1) #[.int .i64 0, .int .i64 0, .slice none 0 0]) := aw_setRow20 _ _
    have hb2 := below_aw20 hb haw (fun k hk => by rw [hk]; omega) hb.size
    have hr6 := Rd.own (own_aw hown haw (fun k hk hu => by have := (hog k hk).1; omega))
    generalize w6.setRow (w.heap.size + 1) #[.int .i64 0, .int .i64 0, .slice none 0 0] = w7 at *
    have e0 := blk_cell (i := 0) (v := .int .i64 0) x2 rfl
    have e1 := blk_cell (i := 1) (v := .int .i64 0) x2 rfl
    have e2 := blk_cell (i := 2) (v := .slice none 0 0) x2 rfl
    go_wp2
    exact bodyPost_ret (v := .tuple #[.agg #[.int .i64 0, .int .i64 0, .slice none 0 0], .int .i64 (oE : Int)]) (by simp [results, go_sem, e0, e1, e2]) rfl ⟨none, 0, 0, rfl, Rd.none_ _ _ _, hb2⟩

set_option maxRecDepth 10000 in
set_option maxHeartbeats 4000000 in
theorem qubPut_2 (V : UbV) (a : UbA) (h : UbOk V) (w : World) (hr : UbR w w.heap.size V a) (hk : V.k = 2) :
    Calls Tryz.prog 9 #[.agg (ubL V a).toArray] w (RetFP w (ubFC V) (ubFI V) (ubFB V) (ubE V)) := by
  obtain ⟨oE, hoE⟩ : ∃ oE, oE = ubE V := ⟨_, rfl⟩
  obtain ⟨PB, hPB⟩ : ∃ PB, PB = ubB V := ⟨_, rfl⟩
  obtain ⟨FC, hFC⟩ : ∃ FC, FC = ubFC V := ⟨_, rfl⟩
  obtain ⟨FI, hFI⟩ : ∃ FI, FI = ubFI V := ⟨_, rfl⟩
  obtain ⟨FB, hFB⟩ : ∃ FB, FB = ubFB V := ⟨_, rfl⟩
  have H0 : Hid (oE = 0 → FC = 1 ∧ FI = 53 ∧ FB = PB) := Lib.hid (fun h0 => by rw [hoE] at h0; rw [hFC, hFI, hFB, hPB]; unfold ubFC ubFI ubFB; rw [if_pos h0, if_pos h0, if_pos h0]; exact ⟨by simp [ubC, hk], by simp [ubI, hk], rfl⟩)
  have H1 : Hid (oE ≠ 0 → FC = 0 ∧ FI = 0 ∧ FB = []) := Lib.hid (fun h0 => by rw [hoE] at h0; rw [hFC, hFI, hFB]; unfold ubFC ubFI ubFB; rw [if_neg h0, if_neg h0, if_neg h0]; exact ⟨rfl, rfl, rfl⟩)
  have eB : satsP V.t V.l = ubB V := by simp [ubB, hk]
  have eE : satsE V.t V.l = ubE V := by simp [ubE, hk]
  have Hq := Lib.hid (fun w1 hr1 => ubq2 (V := V) (a := a) h w1 hr1)
  rw [eB, eE, ← hPB, ← hoE] at Hq
  rw [← hoE, ← hFC, ← hFI, ← hFB]
  obtain ⟨x0, x1, hs, hb⟩ := al2 w (.cells (ubL V a).toArray 35) (.cells #[.int .i64 0, .int .i64 0, .slice none 0 0] 40)
  have hx : UbB ((w.alloc (.cells (ubL V a).toArray 35)).alloc (.cells #[.int .i64 0, .int .i64 0, .slice none 0 0] 40)) w.heap.size V a := x0
  have hr1 := (hr.up hb).more hb.size
  clear hoE hPB hFC hFI hFB eB eE x0 hr
  go_enter Tryz.func9, Tryz.ntmps9
  go_wp2_with (with_reducible refine stop_loadT 3 ?_)
  generalize ((w.alloc (.cells (ubL V a).toArray 35)).alloc (.cells #[.int .i64 0, .int .i64 0, .slice none 0 0] 40)) = w1 at *
  have c0 := hx.kc
  rw [hk] at c0
  refine go_ ?_
  go_wp2_with (first | (with_reducible refine stop_loadT 26 ?_) | (with_reducible refine stop_storeT 26 ?_) | (with_reducible refine stop_loadG 26 ?_))
  refine go_ (wpList_load_mid rfl _ _ rfl w.heap.size 33 rfl (saS V.t a.A a.n a.c) _ (hx.sr h.pl) Tryz.underlying26 rfl (by kernel_rfl) ?_)
  go_wp2_with fail
  go_fit (Hq.out w1 hr1)
  rintro e w2 ⟨A2, n2, c2, rfl, hown, hb2⟩
  have hs2 := blk_lt x1
  replace x1 := blk_old x1 hb2 hs2
  replace hb := bnx hb hb2
  have own_lt : Hid (∀ k, (Value.slice A2 n2 c2).ownBlock = some k → k < w2.heap.size) := Lib.hid (fun k hk => (own_blk hown hk).2)
  rw [hs] at hown
  clear hb2 hx hr1 c0 hs hs2
  by_cases he : oE = 0
  · obtain ⟨rfl, rfl, rfl⟩ := H0.out he
    go_wp2_with fail
    go_fit (qframed_ok 1 53 A2 n2 c2 w2)
    rintro e w4 ⟨rfl, hb4⟩
    have hlt4 := Lib.hid hb4.size
    have hg1 := blk_lt x1
    replace x1 := blk_old x1 hb4 hg1
    replace hb := bnx hb hb4
    replace hown := own_up hown hb4 (Nat.le_refl _)
    have y1 := heap_alloc_new w4 (.cells #[.int .i64 0, .int .i64 0, .slice none 0 0] 40)
    have hb5 := (Below.refl w4.heap.size w4).alloc (Nat.le_refl _) (.cells #[.int .i64 0, .int .i64 0, .slice none 0 0] 40)
    have hg4 := blk_lt x1
    replace x1 := blk_old x1 hb5 hg4
    replace hown := own_up hown hb5 (Nat.le_refl _)
    replace hb := bnx hb hb5
    have hog : ∀ k, (Value.slice A2 n2 c2).ownBlock = some k → w.heap.size + 2 ≤ k ∧ k < w4.heap.size := fun k hk => ⟨by have := (own_blk hown hk).1; omega, Nat.lt_of_lt_of_le (own_lt.out k hk) hlt4.out⟩
    clear hb4 hb5
    go_wp2_with (first | (with_reducible refine stop_loadT 40 ?_) | (with_reducible refine stop_storeT 40 ?_) | (with_reducible refine stop_loadG 40 ?_))
    generalize (w4.alloc (.cells #[.int .i64 0, .int .i64 0, .slice none 0 0] 40)) = w5 at *
    generalize w4.heap.size = g5 at *
    refine go_ (wpList_store_row rfl _ _ _ rfl g5 #[.int .i64 1, .int .i64 53, .slice A2 n2 c2] rfl rfl _ _ y1 (by kernel_rfl) rfl (by kernel_rfl) ?_)
    have y2 := setRow_heap _ _ _ (#[.int .i64 1, .int .i64 53, .slice A2 n2 c2] : Array Value) _ _ y1
    have haw : Aw (fun k => k = g5) w5 (w5.setRow g5 #[.int .i64 1, .int .i64 53, .slice A2 n2 c2]) := aw_setRow20 _ _
    replace x1 := haw.keep x1 (by omega)
    replace hown := own_aw hown haw (fun k hk hu => by have := (hog k hk).2; omega)
    replace hb := below_aw20 hb haw (fun k hk => by rw [hk]; omega) hb.size
    generalize w5.setRow g5 #[.int .i64 1, .int .i64 53, .slice A2 n2 c2] = w6 at *
    clear haw y1
    go_wp2_with (first | (with_reducible refine stop_loadT 40 ?_) | (with_reducible refine stop_storeT 40 ?_) | (with_reducible refine stop_loadG 40 ?_))
    refine go_ (wpList_load_row rfl _ _ rfl g5 rfl _ _ _ _ y2 Tryz.underlying40 rfl (by kernel_rfl) ?_)
    go_wp2_with (first | (with_reducible refine stop_loadT 40 ?_) | (with_reducible refine stop_storeT 40 ?_) | (with_reducible refine stop_loadG 40 ?_))
    refine go_ (wpList_store_row rfl _ _ _ rfl (w.heap.size + 1) #[.int .i64 1, .int .i64 53, .slice A2 n2 c2] rfl rfl _ _ x1 (by kernel_rfl) rfl (by kernel_rfl) ?_)
    have x2 := setRow_heap _ _ _ (#[.int .i64 1, .int .i64 53, .slice A2 n2 c2] : Array Value) _ _ x1
    have haw : Aw (fun k => k = w.heap.size + 1) w6 (w6.setRow (w.heap.size + 1) #[.int .i64 1, .int .i64 53, .slice A2 n2 c2]) := aw_setRow20 _ _
    have hb2 := below_aw20 hb haw (fun k hk => by rw [hk]; omega) hb.size
    have hr6 := Rd.own (own_aw hown haw (fun k hk hu => by have := (hog k hk).1; omega))
    generalize w6.setRow (w.heap.size + 1) #[.int .i64 1, .int .i64 53, .slice A2 n2 c2] = w7 at *
    have e0 := blk_cell (i := 0) (v := .int .i64 1) x2 rfl
    have e1 := blk_cell (i := 1) (v := .int .i64 53) x2 rfl
    have e2 := blk_cell (i := 2) (v := .slice A2 n2 c2) x2 rfl
    go_wp2
    exact bodyPost_ret (v := .tuple #[.agg #[.int .i64 1, .int .i64 53, .slice A2 n2 c2], .int .i64 (0)]) (by simp [results, go_sem, e0, e1, e2]) rfl ⟨A2, n2, c2, by rw [he]; rfl, hr6, hb2⟩
  · obtain ⟨rfl, rfl, rfl⟩ := H1.out he
    go_wp2_with fail
    go_fit (qframed_no 1 53 A2 n2 c2 oE w2 he)
    rintro e w4 ⟨rfl, hb4⟩
    have hlt4 := Lib.hid hb4.size
    have hg1 := blk_lt x1
    replace x1 := blk_old x1 hb4 hg1
    replace hb := bnx hb hb4
    replace hown := own_up hown hb4 (Nat.le_refl _)
    have y1 := heap_alloc_new w4 (.cells #[.int .i64 0, .int .i64 0, .slice none 0 0] 40)
    have hb5 := (Below.refl w4.heap.size w4).alloc (Nat.le_refl _) (.cells #[.int .i64 0, .int .i64 0, .slice none 0 0] 40)
    have hg4 := blk_lt x1
    replace x1 := blk_old x1 hb5 hg4
    replace hown := own_up hown hb5 (Nat.le_refl _)
    replace hb := bnx hb hb5
    have hog : ∀ k, (Value.slice A2 n2 c2).ownBlock = some k → w.heap.size + 2 ≤ k ∧ k < w4.heap.size := fun k hk => ⟨by have := (own_blk hown hk).1; omega, Nat.lt_of_lt_of_le (own_lt.out k hk) hlt4.out⟩
    clear hb4 hb5
    go_wp2_with (first | (with_reducible refine stop_loadT 40 ?_) | (with_reducible refine stop_storeT 40 ?_) | (with_reducible refine stop_loadG 40 ?_))
    generalize (w4.alloc (.cells #[.int .i64 0, .int .i64 0, .slice none 0 0] 40)) = w5 at *
    generalize w4.heap.size = g5 at *
    refine go_ (wpList_store_row rfl _ _ _ rfl g5 #[.int .i64 0, .int .i64 0, .slice none 0 0] rfl rfl _ _ y1 (by kernel_rfl) rfl (by kernel_rfl) ?_)
    have y2 := setRow_heap _ _ _ (#[.int .i64 0, .int .i64 0, .slice none 0 0] : Array Value) _ _ y1
    have haw : Aw (fun k => k = g5) w5 (w5.setRow g5 #[.int .i64 0, .int .i64 0, .slice none 0 0]) := aw_setRow20 _ _
    replace x1 := haw.keep x1 (by omega)
    replace hown := own_aw hown haw (fun k hk hu => by have := (hog k hk).2; omega)
    replace hb := below_aw20 hb haw (fun k hk => by rw [hk]; omega) hb.size
    generalize w5.setRow g5 #[.int .i64 0, .int .i64 0, .slice none 0 0] = w6 at *
    clear haw y1
    go_wp2_with (first | (with_reducible refine stop_loadT 40 ?_) | (with_reducible refine stop_storeT 40 ?_) | (with_reducible refine stop_loadG 40 ?_))
    refine go_ (wpList_load_row rfl _ _ rfl g5 rfl _ _ _ _ y2 Tryz.underlying40 rfl (by kernel_rfl) ?_)
    go_wp2_with (first | (with_reducible refine stop_loadT 40 ?_) | (with_reducible refine stop_storeT 40 ?_) | (with_reducible refine stop_loadG 40 ?_))
    refine go_ (wpList_store_row rfl _ _ _ rfl (w.heap.size + 1) #[.int .i64 0, .int .i64 0, .slice none 0 0] rfl rfl _ _ x1 (by kernel_rfl) rfl (by kernel_rfl) ?_)
    have x2 := setRow_heap _ _ _ (#[.int .i64 0, .int .i64 0, .slice none 0 0] : Array Value) _ _ x1
    have haw : Aw (fun k => k = w.heap.size + 1) w6 (w6.setRow (w.heap.size + 1) #[.int .i64 0, .int .i64 0, .slice none 0 0]) := aw_setRow20 _ _
    have hb2 := below_aw20 hb haw (fun k hk => by rw [hk]; omega) hb.size
    have hr6 := Rd.own (own_aw hown haw (fun k hk hu => by have := (hog k hk).1; omega))
    generalize w6.setRow (w.heap.size + 1) #[.int .i64 0, .int .i64 0, .slice none 0 0] = w7 at *
    have e0 := blk_cell (i := 0) (v := .int .i64 0) x2 rfl
    have e1 := blk_cell (i := 1) (v := .int .i64 0) x2 rfl
    have e2 := blk_cell (i := 2) (v := .slice none 0 0) x2 rfl
    go_wp2
    exact bodyPost_ret (v := .tuple #[.agg #[.int .i64 0, .int .i64 0, .slice none 0 0], .int .i64 (oE : Int)]) (by simp [results, go_sem, e0, e1, e2]) rfl ⟨none, 0, 0, rfl, Rd.none_ _ _ _, hb2⟩

set_option maxRecDepth 10000 in
set_option maxHeartbeats 4000000 in
theorem qubPut_3 (V : UbV) (a : UbA) (h : UbOk V) (w : World) (hr : UbR w w.heap.size V a) (hk : V.k = 3) :
    Calls Tryz.prog 9 #[.agg (ubL V a).toArray] w (RetFP w (ubFC V) (ubFI V) (ubFB V) (ubE V)) := by
  obtain ⟨oE, hoE⟩ : ∃ oE, oE = ubE V := ⟨_, rfl⟩
  obtain ⟨PB, hPB⟩ : ∃ PB, PB = ubB V := ⟨_, rfl⟩
  obtain ⟨FC, hFC⟩ : ∃ FC, FC = ubFC V := ⟨_, rfl⟩
  obtain ⟨FI, hFI⟩ : ∃ FI, FI = ubFI V := ⟨_, rfl⟩
  obtain ⟨FB, hFB⟩ : ∃ FB, FB = ubFB V := ⟨_, rfl⟩
  have H0 : Hid (oE = 0 → FC = 1 ∧ FI = 4 ∧ FB = PB) := Lib.hid (fun h0 => by rw [hoE] at h0; rw [hFC, hFI, hFB, hPB]; unfold ubFC ubFI ubFB; rw [if_pos h0, if_pos h0, if_pos h0]; exact ⟨by simp [ubC, hk], by simp [ubI, hk], rfl⟩)
  have H1 : Hid (oE ≠ 0 → FC = 0 ∧ FI = 0 ∧ FB = []) := Lib.hid (fun h0 => by rw [hoE] at h0; rw [hFC, hFI, hFB]; unfold ubFC ubFI ubFB; rw [if_neg h0, if_neg h0, if_neg h0]; exact ⟨rfl, rfl, rfl⟩)
  have eB : shP dopF V.d = ubB V := by simp [ubB, hk]
  have eE : shE dopF V.d = ubE V := by simp [ubE, hk]
  have Hq := Lib.hid (fun w1 => ubq3 (V := V) h w1)
  rw [eB, eE, ← hPB, ← hoE] at Hq
  rw [← hoE, ← hFC, ← hFI, ← hFB]
  obtain ⟨x0, x1, hs, hb⟩ := al2 w (.cells (ubL V a).toArray 35) (.cells #[.int .i64 0, .int .i64 0, .slice none 0 0] 40)
  have hx : UbB ((w.alloc (.cells (ubL V a).toArray 35)).alloc (.cells #[.int .i64 0, .int .i64 0, .slice none 0 0] 40)) w.heap.size V a := x0
  have hr1 := (hr.up hb).more hb.size
  clear hoE hPB hFC hFI hFB eB eE x0 hr
  go_enter Tryz.func9, Tryz.ntmps9
  go_wp2_with (with_reducible refine stop_loadT 3 ?_)
  generalize ((w.alloc (.cells (ubL V a).toArray 35)).alloc (.cells #[.int .i64 0, .int .i64 0, .slice none 0 0] 40)) = w1 at *
  have c0 := hx.kc
  rw [hk] at c0
  refine go_ ?_
  go_wp2_with (first | (with_reducible refine stop_loadT 28 ?_) | (with_reducible refine stop_storeT 28 ?_) | (with_reducible refine stop_loadG 28 ?_))
  refine go_ (wpList_load_mid rfl _ _ rfl w.heap.size 35 rfl (i64s V.d) _ (hx.dr h.pl) Tryz.underlying28 rfl (by rw [i64s_len, h.dl]; kernel_rfl) ?_)
  go_wp2_with fail
  go_fit (Hq.out w1)
  rintro e w2 ⟨A2, n2, c2, rfl, hown, hb2⟩
  have hs2 := blk_lt x1
  replace x1 := blk_old x1 hb2 hs2
  replace hb := bnx hb hb2
  have own_lt : Hid (∀ k, (Value.slice A2 n2 c2).ownBlock = some k → k < w2.heap.size) := Lib.hid (fun k hk => (own_blk hown hk).2)
  rw [hs] at hown
  clear hb2 hx hr1 c0 hs hs2
  by_cases he : oE = 0
  · obtain ⟨rfl, rfl, rfl⟩ := H0.out he
    go_wp2_with fail
    go_fit (qframed_ok 1 4 A2 n2 c2 w2)
    rintro e w4 ⟨rfl, hb4⟩
    have hlt4 := Lib.hid hb4.size
    have hg1 := blk_lt x1
    replace x1 := blk_old x1 hb4 hg1
    replace hb := bnx hb hb4
    replace hown := own_up hown hb4 (Nat.le_refl _)
    have y1 := heap_alloc_new w4 (.cells #[.int .i64 0, .int .i64 0, .slice none 0 0] 40)
    have hb5 := (Below.refl w4.heap.size w4).alloc (Nat.le_refl _) (.cells #[.int .i64 0, .int .i64 0, .slice none 0 0] 40)
    have hg4 := blk_lt x1
    replace x1 := blk_old x1 hb5 hg4
    replace hown := own_up hown hb5 (Nat.le_refl _)
    replace hb := bnx hb hb5
    have hog : ∀ k, (Value.slice A2 n2 c2).ownBlock = some k → w.heap.size + 2 ≤ k ∧ k < w4.heap.size := fun k hk => ⟨by have := (own_blk hown hk).1; omega, Nat.lt_of_lt_of_le (own_lt.out k hk) hlt4.out⟩
    clear hb4 hb5
    go_wp2_with (first | (with_reducible refine stop_loadT 40 ?_) | (with_reducible refine stop_storeT 40 ?_) | (with_reducible refine stop_loadG 40 ?_))
    generalize (w4.alloc (.cells #[.int .i64 0, .int .i64 0, .slice none 0 0] 40)) = w5 at *
    generalize w4.heap.size = g5 at *
    refine go_ (wpList_store_row rfl _ _ _ rfl g5 #[.int .i64 1, .int .i64 4, .slice A2 n2 c2] rfl rfl _ _ y1 (by kernel_rfl) rfl (by kernel_rfl) ?_)
    have y2 := setRow_heap _ _ _ (#[.int .i64 1, .int .i64 4, .slice A2 n2 c2] : Array Value) _ _ y1
    have haw : Aw (fun k => k = g5) w5 (w5.setRow g5 #[.int .i64 1, .int .i64 4, .slice A2 n2 c2]) := aw_setRow20 _ _
    replace x1 := haw.keep x1 (by omega)
    replace hown := own_aw hown haw (fun k hk hu => by have := (hog k hk).2; omega)
    replace hb := below_aw20 hb haw (fun k hk => by rw [hk]; omega) hb.size
    generalize w5.setRow g5 #[.int .i64 1, .int .i64 4, .slice A2 n2 c2] = w6 at *
    clear haw y1
    go_wp2_with (first | (with_reducible refine stop_loadT 40 ?_) | (with_reducible refine stop_storeT 40 ?_) | (with_reducible refine stop_loadG 40 ?_))
    refine go_ (wpList_load_row rfl _ _ rfl g5 rfl _ _ _ _ y2 Tryz.underlying40 rfl (by kernel_rfl) ?_)
    go_wp2_with (first | (with_reducible refine stop_loadT 40 ?_) | (with_reducible refine stop_storeT 40 ?_) | (with_reducible refine stop_loadG 40 ?_))
    refine go_ (wpList_store_row rfl _ _ _ rfl (w.heap.size + 1) #[.int .i64 1, .int .i64 4, .slice A2 n2 c2] rfl rfl _ _ x1 (by kernel_rfl) rfl (by kernel_rfl) ?_)
    have x2 := setRow_heap _ _ _ (#[.int .i64 1, .int .i64 4, .slice A2 n2 c2] : Array Value) _ _ x1
    have haw : Aw (fun k => k = w.heap.size + 1) w6 (w6.setRow (w.heap.size + 1) #[.int .i64 1, .int .i64 4, .slice A2 n2 c2]) := aw_setRow20 _ _
    have hb2 := below_aw20 hb haw (fun k hk => by rw [hk]; omega) hb.size
    have hr6 := Rd.own (own_aw hown haw (fun k hk hu => by have := (hog k hk).1; omega))
    generalize w6.setRow (w.heap.size + 1) #[.int .i64 1, .int .i64 4, .slice A2 n2 c2] = w7 at *
    have e0 := blk_cell (i := 0) (v := .int .i64 1) x2 rfl
    have e1 := blk_cell (i := 1) (v := .int .i64 4) x2 rfl
    have e2 := blk_cell (i := 2) (v := .slice A2 n2 c2) x2 rfl
    go_wp2
    exact bodyPost_ret (v := .tuple #[.agg #[.int .i64 1, .int .i64 4, .slice A2 n2 c2], .int .i64 (0)]) (by simp [results, go_sem, e0, e1, e2]) rfl ⟨A2, n2, c2, by rw [he]; rfl, hr6, hb2⟩
  · obtain ⟨rfl, rfl, rfl⟩ := H1.out he
    go_wp2_with fail
    go_fit (qframed_no 1 4 A2 n2 c2 oE w2 he)
    rintro e w4 ⟨rfl, hb4⟩
    have hlt4 := Lib.hid hb4.size
    have hg1 := blk_lt x1
    replace x1 := blk_old x1 hb4 hg1
    replace hb := bnx hb hb4
    replace hown := own_up hown hb4 (Nat.le_refl _)
    have y1 := heap_alloc_new w4 (.cells #[.int .i64 0, .int .i64 0, .slice none 0 0] 40)
    have hb5 := (Below.refl w4.heap.size w4).alloc (Nat.le_refl _) (.cells #[.int .i64 0, .int .i64 0, .slice none 0 0] 40)
    have hg4 := blk_lt x1
    replace x1 := blk_old x1 hb5 hg4
    replace hown := own_up hown hb5 (Nat.le_refl _)
    replace hb := bnx hb hb5
    have hog : ∀ k, (Value.slice A2 n2 c2).ownBlock = some k → w.heap.size + 2 ≤ k ∧ k < w4.heap.size := fun k hk => ⟨by have := (own_blk hown hk).1; omega, Nat.lt_of_lt_of_le (own_lt.out k hk) hlt4.out⟩
    clear hb4 hb5
    go_wp2_with (first | (with_reducible refine stop_loadT 40 ?_) | (with_reducible refine stop_storeT 40 ?_) | (with_reducible refine stop_loadG 40 ?_))
    generalize (w4.alloc (.cells #[.int .i64 0, .int .i64 0, .slice none 0 0] 40)) = w5 at *
    generalize w4.heap.size = g5 at *
    refine go_ (wpList_store_row rfl _ _ _ rfl g5 #[.int .i64 0, .int .i64 0, .slice none 0 0] rfl rfl _ _ y1 (by kernel_rfl) rfl (by kernel_rfl) ?_)
    have y2 := setRow_heap _ _ _ (#[.int .i64 0, .int .i64 0, .slice none 0 0] : Array Value) _ _ y1
    have haw : Aw (fun k => k = g5) w5 (w5.setRow g5 #[.int .i64 0, .int .i64 0, .slice none 0 0]) := aw_setRow20 _ _
    replace x1 := haw.keep x1 (by omega)
    replace hown := own_aw hown haw (fun k hk hu => by have := (hog k hk).2; omega)
    replace hb := below_aw20 hb haw (fun k hk => by rw [hk]; omega) hb.size
    generalize w5.setRow g5 #[.int .i64 0, .int .i64 0, .slice none 0 0] = w6 at *
    clear haw y1
    go_wp2_with (first | (with_reducible refine stop_loadT 40 ?_) | (with_reducible refine stop_storeT 40 ?_) | (with_reducible refine stop_loadG 40 ?_))
    refine go_ (wpList_load_row rfl _ _ rfl g5 rfl _ _ _ _ y2 Tryz.underlying40 rfl (by kernel_rfl) ?_)
    go_wp2_with (first | (with_reducible refine stop_loadT 40 ?_) | (with_reducible refine stop_storeT 40 ?_) | (with_reducible refine stop_loadG 40 ?_))
    refine go_ (wpList_store_row rfl _ _ _ rfl (w.heap.size + 1) #[.int .i64 0, .int .i64 0, .slice none 0 0] rfl rfl _ _ x1 (by kernel_rfl) rfl (by kernel_rfl) ?_)
    have x2 := setRow_heap _ _ _ (#[.int .i64 0, .int .i64 0, .slice none 0 0] : Array Value) _ _ x1
    have haw : Aw (fun k => k = w.heap.size + 1) w6 (w6.setRow (w.heap.size + 1) #[.int .i64 0, .int .i64 0, .slice none 0 0]) := aw_setRow20 _ _
    have hb2 := below_aw20 hb haw (fun k hk => by rw [hk]; omega) hb.size
    have hr6 := Rd.own (own_aw hown haw (fun k hk hu => by have := (hog k hk).1; omega))
    generalize w6.setRow (w.heap.size + 1) #[.int .i64 0, .int .i64 0, .slice none 0 0] = w7 at *
    have e0 := blk_cell (i := 0) (v := .int .i64 0) x2 rfl
    have e1 := blk_cell (i := 1) (v := .int .i64 0) x2 rfl
    have e2 := blk_cell (i := 2) (v := .slice none 0 0) x2 rfl
    go_wp2
    exact bodyPost_ret (v := .tuple #[.agg #[.int .i64 0, .int .i64 0, .slice none 0 0], .int .i64 (oE : Int)]) (by simp [results, go_sem, e0, e1, e2]) rfl ⟨none, 0, 0, rfl, Rd.none_ _ _ _, hb2⟩

set_option maxRecDepth 10000 in
set_option maxHeartbeats 4000000 in
theorem qubPut_4y (V : UbV) (a : UbA) (h : UbOk V) (w : World) (hr : UbR w w.heap.size V a) (hk : V.k = 4) (hy : V.y = true) :
    Calls Tryz.prog 9 #[.agg (ubL V a).toArray] w (RetFP w (ubFC V) (ubFI V) (ubFB V) (ubE V)) := by
  obtain ⟨oE, hoE⟩ : ∃ oE, oE = ubE V := ⟨_, rfl⟩
  obtain ⟨PB, hPB⟩ : ∃ PB, PB = ubB V := ⟨_, rfl⟩
  obtain ⟨FC, hFC⟩ : ∃ FC, FC = ubFC V := ⟨_, rfl⟩
  obtain ⟨FI, hFI⟩ : ∃ FI, FI = ubFI V := ⟨_, rfl⟩
  obtain ⟨FB, hFB⟩ : ∃ FB, FB = ubFB V := ⟨_, rfl⟩
  have H0 : Hid (oE = 0 → FC = 5 ∧ FI = 1 ∧ FB = PB) := Lib.hid (fun h0 => by rw [hoE] at h0; rw [hFC, hFI, hFB, hPB]; unfold ubFC ubFI ubFB; rw [if_pos h0, if_pos h0, if_pos h0]; exact ⟨by simp [ubC, hk], by simp [ubI, hk, hy], rfl⟩)
  have H1 : Hid (oE ≠ 0 → FC = 0 ∧ FI = 0 ∧ FB = []) := Lib.hid (fun h0 => by rw [hoE] at h0; rw [hFC, hFI, hFB]; unfold ubFC ubFI ubFB; rw [if_neg h0, if_neg h0, if_neg h0]; exact ⟨rfl, rfl, rfl⟩)
  have eB : shP ackF [V.a1, V.a2] = ubB V := by simp [ubB, hk]
  have eE : shE ackF [V.a1, V.a2] = ubE V := by simp [ubE, hk]
  have Hq := Lib.hid (fun w1 => ubq4 (V := V) h w1)
  rw [eB, eE, ← hPB, ← hoE] at Hq
  rw [hy] at Hq
  rw [← hoE, ← hFC, ← hFI, ← hFB]
  obtain ⟨x0, x1, hs, hb⟩ := al2 w (.cells (ubL V a).toArray 35) (.cells #[.int .i64 0, .int .i64 0, .slice none 0 0] 40)
  have hx : UbB ((w.alloc (.cells (ubL V a).toArray 35)).alloc (.cells #[.int .i64 0, .int .i64 0, .slice none 0 0] 40)) w.heap.size V a := x0
  have hr1 := (hr.up hb).more hb.size
  clear hoE hPB hFC hFI hFB eB eE x0 hr
  go_enter Tryz.func9, Tryz.ntmps9
  go_wp2_with (with_reducible refine stop_loadT 3 ?_)
  generalize ((w.alloc (.cells (ubL V a).toArray 35)).alloc (.cells #[.int .i64 0, .int .i64 0, .slice none 0 0] 40)) = w1 at *
  have c0 := hx.kc
  rw [hk] at c0
  have cy := hx.yc h.pl h.dl
  rw [hy] at cy
  refine go_ ?_
  go_wp2_with (first | (with_reducible refine stop_loadT 30 ?_) | (with_reducible refine stop_storeT 30 ?_) | (with_reducible refine stop_loadG 30 ?_))
  refine go_ (wpList_load_mid rfl _ _ rfl w.heap.size 43 rfl (acS V.y V.a1 V.a2) _ (hx.ar h.pl h.dl) Tryz.underlying30 rfl (by kernel_rfl) ?_)
  go_wp2_with fail
  go_fit (Hq.out w1)
  rintro e w2 ⟨A2, n2, c2, rfl, hown, hb2⟩
  have hs2 := blk_lt x1
  replace x1 := blk_old x1 hb2 hs2
  replace hb := bnx hb hb2
  have own_lt : Hid (∀ k, (Value.slice A2 n2 c2).ownBlock = some k → k < w2.heap.size) := Lib.hid (fun k hk => (own_blk hown hk).2)
  rw [hs] at hown
  clear hb2 hx hr1 c0 cy hs hs2
  by_cases he : oE = 0
  · obtain ⟨rfl, rfl, rfl⟩ := H0.out he
    go_wp2_with fail
    go_fit (qframed_ok 5 1 A2 n2 c2 w2)
    rintro e w4 ⟨rfl, hb4⟩
    have hlt4 := Lib.hid hb4.size
    have hg1 := blk_lt x1
    replace x1 := blk_old x1 hb4 hg1
    replace hb := bnx hb hb4
    replace hown := own_up hown hb4 (Nat.le_refl _)
    have y1 := heap_alloc_new w4 (.cells #[.int .i64 0, .int .i64 0, .slice none 0 0] 40)
    have hb5 := (Below.refl w4.heap.size w4).alloc (Nat.le_refl _) (.cells #[.int .i64 0, .int .i64 0, .slice none 0 0] 40)
    have hg4 := blk_lt x1
    replace x1 := blk_old x1 hb5 hg4
    replace hown := own_up hown hb5 (Nat.le_refl _)
    replace hb := bnx hb hb5
    have hog : ∀ k, (Value.slice A2 n2 c2).ownBlock = some k → w.heap.size + 2 ≤ k ∧ k < w4.heap.size := fun k hk => ⟨by have := (own_blk hown hk).1; omega, Nat.lt_of_lt_of_le (own_lt.out k hk) hlt4.out⟩
    clear hb4 hb5
    go_wp2_with (first | (with_reducible refine stop_loadT 40 ?_) | (with_reducible refine stop_storeT 40 ?_) | (with_reducible refine stop_loadG 40 ?_))
    generalize (w4.alloc (.cells #[.int .i64 0, .int .i64 0, .slice none 0 0] 40)) = w5 at *
    generalize w4.heap.size = g5 at *
    refine go_ (wpList_store_row rfl _ _ _ rfl g5 #[.int .i64 5, .int .i64 1, .slice A2 n2 c2] rfl rfl _ _ y1 (by kernel_rfl) rfl (by kernel_rfl) ?_)
    have y2 := setRow_heap _ _ _ (#[.int .i64 5, .int .i64 1, .slice A2 n2 c2] : Array Value) _ _ y1
    have haw : Aw (fun k => k = g5) w5 (w5.setRow g5 #[.int .i64 5, .int .i64 1, .slice A2 n2 c2]) := aw_setRow20 _ _
    replace x1 := haw.keep x1 (by omega)
    replace hown := own_aw hown haw (fun k hk hu => by have := (hog k hk).2; omega)
    replace hb := below_aw20 hb haw (fun k hk => by rw [hk]; omega) hb.size
    generalize w5.setRow g5 #[.int .i64 5, .int .i64 1, .slice A2 n2 c2] = w6 at *
    clear haw y1
    go_wp2_with (first | (with_reducible refine stop_loadT 40 ?_) | (with_reducible refine stop_storeT 40 ?_) | (with_reducible refine stop_loadG 40 ?_))
    refine go_ (wpList_load_row rfl _ _ rfl g5 rfl _ _ _ _ y2 Tryz.underlying40 rfl (by kernel_rfl) ?_)
    go_wp2_with (first | (with_reducible refine stop_loadT 40 ?_) | (with_reducible refine stop_storeT 40 ?_) | (with_reducible refine stop_loadG 40 ?_))
    refine go_ (wpList_store_row rfl _ _ _ rfl (w.heap.size + 1) #[.int .i64 5, .int .i64 1, .slice A2 n2 c2] rfl rfl _ _ x1 (by kernel_rfl) rfl (by kernel_rfl) ?_)
    have x2 := setRow_heap _ _ _ (#[.int .i64 5, .int .i64 1, .slice A2 n2 c2] : Array Value) _ _ x1
    have haw : Aw (fun k => k = w.heap.size + 1) w6 (w6.setRow (w.heap.size + 1) #[.int .i64 5, .int .i64 1, .slice A2 n2 c2]) := aw_setRow20 _ _
    have hb2 := below_aw20 hb haw (fun k hk => by rw [hk]; omega) hb.size
    have hr6 := Rd.own (own_aw hown haw (fun k hk hu => by have := (hog k hk).1; omega))
    generalize w6.setRow (w.heap.size + 1) #[.int .i64 5, .int .i64 1, .slice A2 n2 c2] = w7 at *
    have e0 := blk_cell (i := 0) (v := .int .i64 5) x2 rfl
    have e1 := blk_cell (i := 1) (v := .int .i64 1) x2 rfl
    have e2 := blk_cell (i := 2) (v := .slice A2 n2 c2) x2 rfl
    go_wp2
    exact bodyPost_ret (v := .tuple #[.agg #[.int .i64 5, .int .i64 1, .slice A2 n2 c2], .int .i64 (0)]) (by simp [results, go_sem, e0, e1, e2]) rfl ⟨A2, n2, c2, by rw [he]; rfl, hr6, hb2⟩
  · obtain ⟨rfl, rfl, rfl⟩ := H1.out he
    go_wp2_with fail
    go_fit (qframed_no 5 1 A2 n2 c2 oE w2 he)
    rintro e w4 ⟨rfl, hb4⟩
    have hlt4 := Lib.hid hb4.size
    have hg1 := blk_lt x1
    replace x1 := blk_old x1 hb4 hg1
    replace hb := bnx hb hb4
    replace hown := own_up hown hb4 (Nat.le_refl _)
    have y1 := heap_alloc_new w4 (.cells #[.int .i64 0, .int .i64 0, .slice none 0 0] 40)
    have hb5 := (Below.refl w4.heap.size w4).alloc (Nat.le_refl _) (.cells #[.int .i64 0, .int .i64 0, .slice none 0 0] 40)
    have hg4 := blk_lt x1
    replace x1 := blk_old x1 hb5 hg4
    replace hown := own_up hown hb5 (Nat.le_refl _)
    replace hb := bnx hb hb5
    have hog : ∀ k, (Value.slice A2 n2 c2).ownBlock = some k → w.heap.size + 2 ≤ k ∧ k < w4.heap.size := fun k hk => ⟨by have := (own_blk hown hk).1; omega, Nat.lt_of_lt_of_le (own_lt.out k hk) hlt4.out⟩
    clear hb4 hb5
    go_wp2_with (first | (with_reducible refine stop_loadT 40 ?_) | (with_reducible refine stop_storeT 40 ?_) | (with_reducible refine stop_loadG 40 ?_))
    generalize (w4.alloc (.cells #[.int .i64 0, .int .i64 0, .slice none 0 0] 40)) = w5 at *
    generalize w4.heap.size = g5 at *
    refine go_ (wpList_store_row rfl _ _ _ rfl g5 #[.int .i64 0, .int .i64 0, .slice none 0 0] rfl rfl _ _ y1 (by kernel_rfl) rfl (by kernel_rfl) ?_)
    have y2 := setRow_heap _ _ _ (#[.int .i64 0, .int .i64 0, .slice none 0 0] : Array Value) _ _ y1
    have haw : Aw (fun k => k = g5) w5 (w5.setRow g5 #[.int .i64 0, .int .i64 0, .slice none 0 0]) := aw_setRow20 _ _
    replace x1 := haw.keep x1 (by omega)
    replace hown := own_aw hown haw (fun k hk hu => by have := (hog k hk).2; omega)
    replace hb := below_aw20 hb haw (fun k hk => by rw [hk]; omega) hb.size
    generalize w5.setRow g5 #[.int .i64 0, .int .i64 0, .slice none 0 0] = w6 at *
    clear haw y1
    go_wp2_with (first | (with_reducible refine stop_loadT 40 ?_) | (with_reducible refine stop_storeT 40 ?_) | (with_reducible refine stop_loadG 40 ?_))
    refine go_ (wpList_load_row rfl _ _ rfl g5 rfl _ _ _ _ y2 Tryz.underlying40 rfl (by kernel_rfl) ?_)
    go_wp2_with (first | (with_reducible refine stop_loadT 40 ?_) | (with_reducible refine stop_storeT 40 ?_) | (with_reducible refine stop_loadG 40 ?_))
    refine go_ (wpList_store_row rfl _ _ _ rfl (w.heap.size + 1) #[.int .i64 0, .int .i64 0, .slice none 0 0] rfl rfl _ _ x1 (by kernel_rfl) rfl (by kernel_rfl) ?_)
    have x2 := setRow_heap _ _ _ (#[.int .i64 0, .int .i64 0, .slice none 0 0] : Array Value) _ _ x1
    have haw : Aw (fun k => k = w.heap.size + 1) w6 (w6.setRow (w.heap.size + 1) #[.int .i64 0, .int .i64 0, .slice none 0 0]) := aw_setRow20 _ _
    have hb2 := below_aw20 hb haw (fun k hk => by rw [hk]; omega) hb.size
    have hr6 := Rd.own (own_aw hown haw (fun k hk hu => by have := (hog k hk).1; omega))
    generalize w6.setRow (w.heap.size + 1) #[.int .i64 0, .int .i64 0, .slice none 0 0] = w7 at *
    have e0 := blk_cell (i := 0) (v := .int .i64 0) x2 rfl
    have e1 := blk_cell (i := 1) (v := .int .i64 0) x2 rfl
    have e2 := blk_cell (i := 2) (v := .slice none 0 0) x2 rfl
    go_wp2
    exact bodyPost_ret (v := .tuple #[.agg #[.int .i64 0, .int .i64 0, .slice none 0 0], .int .i64 (oE : Int)]) (by simp [results, go_sem, e0, e1, e2]) rfl ⟨none, 0, 0, rfl, Rd.none_ _ _ _, hb2⟩

set_option maxRecDepth 10000 in
set_option maxHeartbeats 4000000 in
theorem qubPut_4n (V : UbV) (a : UbA) (h : UbOk V) (w : World) (hr : UbR w w.heap.size V a) (hk : V.k = 4) (hy : V.y = false) :
    Calls Tryz.prog 9 #[.agg (ubL V a).toArray] w (RetFP w (ubFC V) (ubFI V) (ubFB V) (ubE V)) := by
  obtain ⟨oE, hoE⟩ : ∃ oE, oE = ubE V := ⟨_, rfl⟩
  obtain ⟨PB, hPB⟩ : ∃ PB, PB = ubB V := ⟨_, rfl⟩
  obtain ⟨FC, hFC⟩ : ∃ FC, FC = ubFC V := ⟨_, rfl⟩
  obtain ⟨FI, hFI⟩ : ∃ FI, FI = ubFI V := ⟨_, rfl⟩
  obtain ⟨FB, hFB⟩ : ∃ FB, FB = ubFB V := ⟨_, rfl⟩
  have H0 : Hid (oE = 0 → FC = 5 ∧ FI = 0 ∧ FB = PB) := Lib.hid (fun h0 => by rw [hoE] at h0; rw [hFC, hFI, hFB, hPB]; unfold ubFC ubFI ubFB; rw [if_pos h0, if_pos h0, if_pos h0]; exact ⟨by simp [ubC, hk], by simp [ubI, hk, hy], rfl⟩)
  have H1 : Hid (oE ≠ 0 → FC = 0 ∧ FI = 0 ∧ FB = []) := Lib.hid (fun h0 => by rw [hoE] at h0; rw [hFC, hFI, hFB]; unfold ubFC ubFI ubFB; rw [if_neg h0, if_neg h0, if_neg h0]; exact ⟨rfl, rfl, rfl⟩)
  have eB : shP ackF [V.a1, V.a2] = ubB V := by simp [ubB, hk]
  have eE : shE ackF [V.a1, V.a2] = ubE V := by simp [ubE, hk]
  have Hq := Lib.hid (fun w1 => ubq4 (V := V) h w1)
  rw [eB, eE, ← hPB, ← hoE] at Hq
  rw [hy] at Hq
  rw [← hoE, ← hFC, ← hFI, ← hFB]
  obtain ⟨x0, x1, hs, hb⟩ := al2 w (.cells (ubL V a).toArray 35) (.cells #[.int .i64 0, .int .i64 0, .slice none 0 0] 40)
  have hx : UbB ((w.alloc (.cells (ubL V a).toArray 35)).alloc (.cells #[.int .i64 0, .int .i64 0, .slice none 0 0] 40)) w.heap.size V a := x0
  have hr1 := (hr.up hb).more hb.size
  clear hoE hPB hFC hFI hFB eB eE x0 hr
  go_enter Tryz.func9, Tryz.ntmps9
  go_wp2_with (with_reducible refine stop_loadT 3 ?_)
  generalize ((w.alloc (.cells (ubL V a).toArray 35)).alloc (.cells #[.int .i64 0, .int .i64 0, .slice none 0 0] 40)) = w1 at *
  have c0 := hx.kc
  rw [hk] at c0
  have cy := hx.yc h.pl h.dl
  rw [hy] at cy
  refine go_ ?_
  go_wp2_with (first | (with_reducible refine stop_loadT 30 ?_) | (with_reducible refine stop_storeT 30 ?_) | (with_reducible refine stop_loadG 30 ?_))
  refine go_ (wpList_load_mid rfl _ _ rfl w.heap.size 43 rfl (acS V.y V.a1 V.a2) _ (hx.ar h.pl h.dl) Tryz.underlying30 rfl (by kernel_rfl) ?_)
  go_wp2_with fail
  go_fit (Hq.out w1)
  rintro e w2 ⟨A2, n2, c2, rfl, hown, hb2⟩
  have hs2 := blk_lt x1
  replace x1 := blk_old x1 hb2 hs2
  replace hb := bnx hb hb2
  have own_lt : Hid (∀ k, (Value.slice A2 n2 c2).ownBlock = some k → k < w2.heap.size) := Lib.hid (fun k hk => (own_blk hown hk).2)
  rw [hs] at hown
  clear hb2 hx hr1 c0 cy hs hs2
  by_cases he : oE = 0
  · obtain ⟨rfl, rfl, rfl⟩ := H0.out he
    go_wp2_with fail
    go_fit (qframed_ok 5 0 A2 n2 c2 w2)
    rintro e w4 ⟨rfl, hb4⟩
    have hlt4 := Lib.hid hb4.size
    have hg1 := blk_lt x1
    replace x1 := blk_old x1 hb4 hg1
    replace hb := bnx hb hb4
    replace hown := own_up hown hb4 (Nat.le_refl _)
    have y1 := heap_alloc_new w4 (.cells #[.int .i64 0, .int .i64 0, .slice none 0 0] 40)
    have hb5 := (Below.refl w4.heap.size w4).alloc (Nat.le_refl _) (.cells #[.int .i64 0, .int .i64 0, .slice none 0 0] 40)
    have hg4 := blk_lt x1
    replace x1 := blk_old x1 hb5 hg4
    replace hown := own_up hown hb5 (Nat.le_refl _)
    replace hb := bnx hb hb5
    have hog : ∀ k, (Value.slice A2 n2 c2).ownBlock = some k → w.heap.size + 2 ≤ k ∧ k < w4.heap.size := fun k hk => ⟨by have := (own_blk hown hk).1; omega, Nat.lt_of_lt_of_le (own_lt.out k hk) hlt4.out⟩
    clear hb4 hb5
    go_wp2_with (first | (with_reducible refine stop_loadT 40 ?_) | (with_reducible refine stop_storeT 40 ?_) | (with_reducible refine stop_loadG 40 ?_))
    generalize (w4.alloc (.cells #[.int .i64 0, .int .i64 0, .slice none 0 0] 40)) = w5 at *
    generalize w4.heap.size = g5 at *
    refine go_ (wpList_store_row rfl _ _ _ rfl g5 #[.int .i64 5, .int .i64 0, .slice A2 n2 c2] rfl rfl _ _ y1 (by kernel_rfl) rfl (by kernel_rfl) ?_)
    have y2 := setRow_heap _ _ _ (#[.int .i64 5, .int .i64 0, .slice A2 n2 c2] : Array Value) _ _ y1
    have haw : Aw (fun k => k = g5) w5 (w5.setRow g5 #[.int .i64 5, .int .i64 0, .slice A2 n2 c2]) := aw_setRow20 _ _
    replace x1 := haw.keep x1 (by omega)
    replace hown := own_aw hown haw (fun k hk hu => by have := (hog k hk).2; omega)
    replace hb := below_aw20 hb haw (fun k hk => by rw [hk]; omega) hb.size
    generalize w5.setRow g5 #[.int .i64 5, .int .i64 0, .slice A2 n2 c2] = w6 at *
    clear haw y1
    go_wp2_with (first | (with_reducible refine stop_loadT 40 ?_) | (with_reducible refine stop_storeT 40 ?_) | (with_reducible refine stop_loadG 40 ?_))
    refine go_ (wpList_load_row rfl _ _ rfl g5 rfl _ _ _ _ y2 Tryz.underlying40 rfl (by kernel_rfl) ?_)
    go_wp2_with (first | (with_reducible refine stop_loadT 40 ?_) | (with_reducible refine stop_storeT 40 ?_) | (with_reducible refine stop_loadG 40 ?_))
    refine go_ (wpList_store_row rfl _ _ _ rfl (w.heap.size + 1) #[.int .i64 5, .int .i64 0, .slice A2 n2 c2] rfl rfl _ _ x1 (by kernel_rfl) rfl (by kernel_rfl) ?_)
    have x2 := setRow_heap _ _ _ (#[.int .i64 5, .int .i64 0, .slice A2 n2 c2] : Array Value) _ _ x1
    have haw : Aw (fun k => k = w.heap.size + 1) w6 (w6.setRow (w.heap.size + 1) #[.int .i64 5, .int .i64 0, .slice A2 n2 c2]) := aw_setRow20 _ _
    have hb2 := below_aw20 hb haw (fun k hk => by rw [hk]; omega) hb.size
    have hr6 := Rd.own (own_aw hown haw (fun k hk hu => by have := (hog k hk).1; omega))
    generalize w6.setRow (w.heap.size + 1) #[.int .i64 5, .int .i64 0, .slice A2 n2 c2] = w7 at *
    have e0 := blk_cell (i := 0) (v := .int .i64 5) x2 rfl
    have e1 := blk_cell (i := 1) (v := .int .i64 0) x2 rfl
    have e2 := blk_cell (i := 2) (v := .slice A2 n2 c2) x2 rfl
    go_wp2
    exact bodyPost_ret (v := .tuple #[.agg #[.int .i64 5, .int .i64 0, .slice A2 n2 c2], .int .i64 (0)]) (by simp [results, go_sem, e0, e1, e2]) rfl ⟨A2, n2, c2, by rw [he]; rfl, hr6, hb2⟩
  · obtain ⟨rfl, rfl, rfl⟩ := H1.out he
    go_wp2_with fail
    go_fit (qframed_no 5 0 A2 n2 c2 oE w2 he)
    rintro e w4 ⟨rfl, hb4⟩
    have hlt4 := Lib.hid hb4.size
    have hg1 := blk_lt x1
    replace x1 := blk_old x1 hb4 hg1
    replace hb := bnx hb hb4
    replace hown := own_up hown hb4 (Nat.le_refl _)
    have y1 := heap_alloc_new w4 (.cells #[.int .i64 0, .int .i64 0, .slice none 0 0] 40)
    have hb5 := (Below.refl w4.heap.size w4).alloc (Nat.le_refl _) (.cells #[.int .i64 0, .int .i64 0, .slice none 0 0] 40)
    have hg4 := blk_lt x1
    replace x1 := blk_old x1 hb5 hg4
    replace hown := own_up hown hb5 (Nat.le_refl _)
    replace hb := bnx hb hb5
    have hog : ∀ k, (Value.slice A2 n2 c2).ownBlock = some k → w.heap.size + 2 ≤ k ∧ k < w4.heap.size := fun k hk => ⟨by have := (own_blk hown hk).1; omega, Nat.lt_of_lt_of_le (own_lt.out k hk) hlt4.out⟩
    clear hb4 hb5
    go_wp2_with (first | (with_reducible refine stop_loadT 40 ?_) | (with_reducible refine stop_storeT 40 ?_) | (with_reducible refine stop_loadG 40 ?_))
    generalize (w4.alloc (.cells #[.int .i64 0, .int .i64 0, .slice none 0 0] 40)) = w5 at *
    generalize w4.heap.size = g5 at *
    refine go_ (wpList_store_row rfl _ _ _ rfl g5 #[.int .i64 0, .int .i64 0, .slice none 0 0] rfl rfl _ _ y1 (by kernel_rfl) rfl (by kernel_rfl) ?_)
    have y2 := setRow_heap _ _ _ (#[.int .i64 0, .int .i64 0, .slice none 0 0] : Array Value) _ _ y1
    have haw : Aw (fun k => k = g5) w5 (w5.setRow g5 #[.int .i64 0, .int .i64 0, .slice none 0 0]) := aw_setRow20 _ _
    replace x1 := haw.keep x1 (by omega)
    replace hown := own_aw hown haw (fun k hk hu => by have := (hog k hk).2; omega)
    replace hb := below_aw20 hb haw (fun k hk => by rw [hk]; omega) hb.size
    generalize w5.setRow g5 #[.int .i64 0, .int .i64 0, .slice none 0 0] = w6 at *
    clear haw y1
    go_wp2_with (first | (with_reducible refine stop_loadT 40 ?_) | (with_reducible refine stop_storeT 40 ?_) | (with_reducible refine stop_loadG 40 ?_))
    refine go_ (wpList_load_row rfl _ _ rfl g5 rfl _ _ _ _ y2 Tryz.underlying40 rfl (by kernel_rfl) ?_)
    go_wp2_with (first | (with_reducible refine stop_loadT 40 ?_) | (with_reducible refine stop_storeT 40 ?_) | (with_reducible refine stop_loadG 40 ?_))
    refine go_ (wpList_store_row rfl _ _ _ rfl (w.heap.size + 1) #[.int .i64 0, .int .i64 0, .slice none 0 0] rfl rfl _ _ x1 (by kernel_rfl) rfl (by kernel_rfl) ?_)
    have x2 := setRow_heap _ _ _ (#[.int .i64 0, .int .i64 0, .slice none 0 0] : Array Value) _ _ x1
    have haw : Aw (fun k => k = w.heap.size + 1) w6 (w6.setRow (w.heap.size + 1) #[.int .i64 0, .int .i64 0, .slice none 0 0]) := aw_setRow20 _ _
    have hb2 := below_aw20 hb haw (fun k hk => by rw [hk]; omega) hb.size
    have hr6 := Rd.own (own_aw hown haw (fun k hk hu => by have := (hog k hk).1; omega))
    generalize w6.setRow (w.heap.size + 1) #[.int .i64 0, .int .i64 0, .slice none 0 0] = w7 at *
    have e0 := blk_cell (i := 0) (v := .int .i64 0) x2 rfl
    have e1 := blk_cell (i := 1) (v := .int .i64 0) x2 rfl
    have e2 := blk_cell (i := 2) (v := .slice none 0 0) x2 rfl
    go_wp2
    exact bodyPost_ret (v := .tuple #[.agg #[.int .i64 0, .int .i64 0, .slice none 0 0], .int .i64 (oE : Int)]) (by simp [results, go_sem, e0, e1, e2]) rfl ⟨none, 0, 0, rfl, Rd.none_ _ _ _, hb2⟩

set_option maxRecDepth 10000 in
set_option maxHeartbeats 4000000 in
theorem qubPut_5 (V : UbV) (a : UbA) (h : UbOk V) (w : World) (hr : UbR w w.heap.size V a) (hk : V.k = 5) :
    Calls Tryz.prog 9 #[.agg (ubL V a).toArray] w (RetFP w (ubFC V) (ubFI V) (ubFB V) (ubE V)) := by
  obtain ⟨oE, hoE⟩ : ∃ oE, oE = ubE V := ⟨_, rfl⟩
  obtain ⟨PB, hPB⟩ : ∃ PB, PB = ubB V := ⟨_, rfl⟩
  obtain ⟨FC, hFC⟩ : ∃ FC, FC = ubFC V := ⟨_, rfl⟩
  obtain ⟨FI, hFI⟩ : ∃ FI, FI = ubFI V := ⟨_, rfl⟩
  obtain ⟨FB, hFB⟩ : ∃ FB, FB = ubFB V := ⟨_, rfl⟩
  have H0 : Hid (oE = 0 → FC = 6 ∧ FI = 138 ∧ FB = PB) := Lib.hid (fun h0 => by rw [hoE] at h0; rw [hFC, hFI, hFB, hPB]; unfold ubFC ubFI ubFB; rw [if_pos h0, if_pos h0, if_pos h0]; exact ⟨by simp [ubC, hk], by simp [ubI, hk], rfl⟩)
  have H1 : Hid (oE ≠ 0 → FC = 0 ∧ FI = 0 ∧ FB = []) := Lib.hid (fun h0 => by rw [hoE] at h0; rw [hFC, hFI, hFB]; unfold ubFC ubFI ubFB; rw [if_neg h0, if_neg h0, if_neg h0]; exact ⟨rfl, rfl, rfl⟩)
  have eB : valP V.la V.q = ubB V := by simp [ubB, hk]
  have eE : valE V.la V.q = ubE V := by simp [ubE, hk]
  have Hq := Lib.hid (fun w1 hr1 => ubq5 (V := V) (a := a) h w1 hr1)
  rw [eB, eE, ← hPB, ← hoE] at Hq
  rw [← hoE, ← hFC, ← hFI, ← hFB]
  obtain ⟨x0, x1, hs, hb⟩ := al2 w (.cells (ubL V a).toArray 35) (.cells #[.int .i64 0, .int .i64 0, .slice none 0 0] 40)
  have hx : UbB ((w.alloc (.cells (ubL V a).toArray 35)).alloc (.cells #[.int .i64 0, .int .i64 0, .slice none 0 0] 40)) w.heap.size V a := x0
  have hr1 := (hr.up hb).more hb.size
  clear hoE hPB hFC hFI hFB eB eE x0 hr
  go_enter Tryz.func9, Tryz.ntmps9
  go_wp2_with (with_reducible refine stop_loadT 3 ?_)
  generalize ((w.alloc (.cells (ubL V a).toArray 35)).alloc (.cells #[.int .i64 0, .int .i64 0, .slice none 0 0] 40)) = w1 at *
  have c0 := hx.kc
  rw [hk] at c0
  refine go_ ?_
  go_wp2_with (first | (with_reducible refine stop_loadT 33 ?_) | (with_reducible refine stop_storeT 33 ?_) | (with_reducible refine stop_loadG 33 ?_))
  refine go_ (wpList_load_mid rfl _ _ rfl w.heap.size 46 rfl (saS V.la a.A' a.n' a.c') _ (hx.qr h.pl h.dl) Tryz.underlying33 rfl (by kernel_rfl) ?_)
  go_wp2_with fail
  go_fit (Hq.out w1 hr1)
  rintro e w2 ⟨A2, n2, c2, rfl, hown, hb2⟩
  have hs2 := blk_lt x1
  replace x1 := blk_old x1 hb2 hs2
  replace hb := bnx hb hb2
  have own_lt : Hid (∀ k, (Value.slice A2 n2 c2).ownBlock = some k → k < w2.heap.size) := Lib.hid (fun k hk => (own_blk hown hk).2)
  rw [hs] at hown
  clear hb2 hx hr1 c0 hs hs2
  by_cases he : oE = 0
  · obtain ⟨rfl, rfl, rfl⟩ := H0.out he
    go_wp2_with fail
    go_fit (qframed_ok 6 138 A2 n2 c2 w2)
    rintro e w4 ⟨rfl, hb4⟩
    have hlt4 := Lib.hid hb4.size
    have hg1 := blk_lt x1
    replace x1 := blk_old x1 hb4 hg1
    replace hb := bnx hb hb4
    replace hown := own_up hown hb4 (Nat.le_refl _)
    have y1 := heap_alloc_new w4 (.cells #[.int .i64 0, .int .i64 0, .slice none 0 0] 40)
    have hb5 := (Below.refl w4.heap.size w4).alloc (Nat.le_refl _) (.cells #[.int .i64 0, .int .i64 0, .slice none 0 0] 40)
    have hg4 := blk_lt x1
    replace x1 := blk_old x1 hb5 hg4
    replace hown := own_up hown hb5 (Nat.le_refl _)
    replace hb := bnx hb hb5
    have hog : ∀ k, (Value.slice A2 n2 c2).ownBlock = some k → w.heap.size + 2 ≤ k ∧ k < w4.heap.size := fun k hk => ⟨by have := (own_blk hown hk).1; omega, Nat.lt_of_lt_of_le (own_lt.out k hk) hlt4.out⟩
    clear hb4 hb5
    go_wp2_with (first | (with_reducible refine stop_loadT 40 ?_) | (with_reducible refine stop_storeT 40 ?_) | (with_reducible refine stop_loadG 40 ?_))
    generalize (w4.alloc (.cells #[.int .i64 0, .int .i64 0, .slice none 0 0] 40)) = w5 at *
    generalize w4.heap.size = g5 at *
    refine go_ (wpList_store_row rfl _ _ _ rfl g5 #[.int .i64 6, .int .i64 138, .slice A2 n2 c2] rfl rfl _ _ y1 (by kernel_rfl) rfl (by kernel_rfl) ?_)
    have y2 := setRow_heap _ _ _ (#[.int .i64 6, .int .i64 138, .slice A2 n2 c2] : Array Value) _ _ y1
    have haw : Aw (fun k => k = g5) w5 (w5.setRow g5 #[.int .i64 6, .int .i64 138, .slice A2 n2 c2]) := aw_setRow20 _ _
    replace x1 := haw.keep x1 (by omega)
    replace hown := own_aw hown haw (fun k hk hu => by have := (hog k hk).2; omega)
    replace hb := below_aw20 hb haw (fun k hk => by rw [hk]; omega) hb.size
    generalize w5.setRow g5 #[.int .i64 6, .int .i64 138, .slice A2 n2 c2] = w6 at *
    clear haw y1
    go_wp2_with (first | (with_reducible refine stop_loadT 40 ?_) | (with_reducible refine stop_storeT 40 ?_) | (with_reducible refine stop_loadG 40 ?_))
    refine go_ (wpList_load_row rfl _ _ rfl g5 rfl _ _ _ _ y2 Tryz.underlying40 rfl (by kernel_rfl) ?_)
    go_wp2_with (first | (with_reducible refine stop_loadT 40 ?_) | (with_reducible refine stop_storeT 40 ?_) | (with_reducible refine stop_loadG 40 ?_))
    refine go_ (wpList_store_row rfl _ _ _ rfl (w.heap.size + 1) #[.int .i64 6, .int .i64 138, .slice A2 n2 c2] rfl rfl _ _ x1 (by kernel_rfl) rfl (by kernel_rfl) ?_)
    have x2 := setRow_heap _ _ _ (#[.int .i64 6, .int .i64 138, .slice A2 n2 c2] : Array Value) _ _ x1
    have haw : Aw (fun k => k = w.heap.size + 1) w6 (w6.setRow (w.heap.size + 1) #[.int .i64 6, .int .i64 138, .slice A2 n2 c2]) := aw_setRow20 _ _
    have hb2 := below_aw20 hb haw (fun k hk => by rw [hk]; omega) hb.size
    have hr6 := Rd.own (own_aw hown haw (fun k hk hu => by have := (hog k hk).1; omega))
    generalize w6.setRow (w.heap.size + 1) #[.int .i64 6, .int .i64 138, .slice A2 n2 c2] = w7 at *
    have e0 := blk_cell (i := 0) (v := .int .i64 6) x2 rfl
    have e1 := blk_cell (i := 1) (v := .int .i64 138) x2 rfl
    have e2 := blk_cell (i := 2) (v := .slice A2 n2 c2) x2 rfl
    go_wp2
    exact bodyPost_ret (v := .tuple #[.agg #[.int .i64 6, .int .i64 138, .slice A2 n2 c2], .int .i64 (0)]) (by simp [results, go_sem, e0, e1, e2]) rfl ⟨A2, n2, c2, by rw [he]; rfl, hr6, hb2⟩
  · obtain ⟨rfl, rfl, rfl⟩ := H1.out he
    go_wp2_with fail
    go_fit (qframed_no 6 138 A2 n2 c2 oE w2 he)
    rintro e w4 ⟨rfl, hb4⟩
    have hlt4 := Lib.hid hb4.size
    have hg1 := blk_lt x1
    replace x1 := blk_old x1 hb4 hg1
    replace hb := bnx hb hb4
    replace hown := own_up hown hb4 (Nat.le_refl _)
    have y1 := heap_alloc_new w4 (.cells #[.int .i64 0, .int .i64 0, .slice none 0 0] 40)
    have hb5 := (Below.refl w4.heap.size w4).alloc (Nat.le_refl _) (.cells #[.int .i64 0, .int .i64 0, .slice none 0 0] 40)
    have hg4 := blk_lt x1
    replace x1 := blk_old x1 hb5 hg4
    replace hown := own_up hown hb5 (Nat.le_refl _)
    replace hb := bnx hb hb5
    have hog : ∀ k, (Value.slice A2 n2 c2).ownBlock = some k → w.heap.size + 2 ≤ k ∧ k < w4.heap.size := fun k hk => ⟨by have := (own_blk hown hk).1; omega, Nat.lt_of_lt_of_le (own_lt.out k hk) hlt4.out⟩
    clear hb4 hb5
    go_wp2_with (first | (with_reducible refine stop_loadT 40 ?_) | (with_reducible refine stop_storeT 40 ?_) | (with_reducible refine stop_loadG 40 ?_))
    generalize (w4.alloc (.cells #[.int .i64 0, .int .i64 0, .slice none 0 0] 40)) = w5 at *
    generalize w4.heap.size = g5 at *
    refine go_ (wpList_store_row rfl _ _ _ rfl g5 #[.int .i64 0, .int .i64 0, .slice none 0 0] rfl rfl _ _ y1 (by kernel_rfl) rfl (by kernel_rfl) ?_)
    have y2 := setRow_heap _ _ _ (#[.int .i64 0, .int .i64 0, .slice none 0 0] : Array Value) _ _ y1
    have haw : Aw (fun k => k = g5) w5 (w5.setRow g5 #[.int .i64 0, .int .i64 0, .slice none 0 0]) := aw_setRow20 _ _
    replace x1 := haw.keep x1 (by omega)
    replace hown := own_aw hown haw (fun k hk hu => by have := (hog k hk).2; omega)
    replace hb := below_aw20 hb haw (fun k hk => by rw [hk]; omega) hb.size
    generalize w5.setRow g5 #[.int .i64 0, .int .i64 0, .slice none 0 0] = w6 at *
    clear haw y1
    go_wp2_with (first | (with_reducible refine stop_loadT 40 ?_) | (with_reducible refine stop_storeT 40 ?_) | (with_reducible refine stop_loadG 40 ?_))
    refine go_ (wpList_load_row rfl _ _ rfl g5 rfl _ _ _ _ y2 Tryz.underlying40 rfl (by kernel_rfl) ?_)
    go_wp2_with (first | (with_reducible refine stop_loadT 40 ?_) | (with_reducible refine stop_storeT 40 ?_) | (with_reducible refine stop_loadG 40 ?_))
    refine go_ (wpList_store_row rfl _ _ _ rfl (w.heap.size + 1) #[.int .i64 0, .int .i64 0, .slice none 0 0] rfl rfl _ _ x1 (by kernel_rfl) rfl (by kernel_rfl) ?_)
    have x2 := setRow_heap _ _ _ (#[.int .i64 0, .int .i64 0, .slice none 0 0] : Array Value) _ _ x1
    have haw : Aw (fun k => k = w.heap.size + 1) w6 (w6.setRow (w.heap.size + 1) #[.int .i64 0, .int .i64 0, .slice none 0 0]) := aw_setRow20 _ _
    have hb2 := below_aw20 hb haw (fun k hk => by rw [hk]; omega) hb.size
    have hr6 := Rd.own (own_aw hown haw (fun k hk hu => by have := (hog k hk).1; omega))
    generalize w6.setRow (w.heap.size + 1) #[.int .i64 0, .int .i64 0, .slice none 0 0] = w7 at *
    have e0 := blk_cell (i := 0) (v := .int .i64 0) x2 rfl
    have e1 := blk_cell (i := 1) (v := .int .i64 0) x2 rfl
    have e2 := blk_cell (i := 2) (v := .slice none 0 0) x2 rfl
    go_wp2
    exact bodyPost_ret (v := .tuple #[.agg #[.int .i64 0, .int .i64 0, .slice none 0 0], .int .i64 (oE : Int)]) (by simp [results, go_sem, e0, e1, e2]) rfl ⟨none, 0, 0, rfl, Rd.none_ _ _ _, hb2⟩

set_option maxRecDepth 10000 in
set_option maxHeartbeats 4000000 in
theorem qubPut_0 (V : UbV) (a : UbA) (h : UbOk V) (w : World) (hk : V.k ≠ 1 ∧ V.k ≠ 2 ∧ V.k ≠ 3 ∧ V.k ≠ 4 ∧ V.k ≠ 5) :
    Calls Tryz.prog 9 #[.agg (ubL V a).toArray] w (RetFP w (ubFC V) (ubFI V) (ubFB V) (ubE V)) := by
  obtain ⟨k1, k2, k3, k4, k5⟩ := hk
  have hE : ubE V = 6 := by simp [ubE, k1, k2, k3, k4, k5]
  have hFC : ubFC V = 0 := by unfold ubFC; rw [hE]; rfl
  have hFI : ubFI V = 0 := by unfold ubFI; rw [hE]; rfl
  have hFB : ubFB V = [] := by unfold ubFB; rw [hE]; rfl
  rw [hE, hFC, hFI, hFB]
  obtain ⟨x0, x1, hs, hb⟩ := al2 w (.cells (ubL V a).toArray 35) (.cells #[.int .i64 0, .int .i64 0, .slice none 0 0] 40)
  have hx : UbB ((w.alloc (.cells (ubL V a).toArray 35)).alloc (.cells #[.int .i64 0, .int .i64 0, .slice none 0 0] 40)) w.heap.size V a := x0
  clear hE hFC hFI hFB x0
  go_enter Tryz.func9, Tryz.ntmps9
  go_wp2_with (with_reducible refine stop_loadT 3 ?_)
  generalize ((w.alloc (.cells (ubL V a).toArray 35)).alloc (.cells #[.int .i64 0, .int .i64 0, .slice none 0 0] 40)) = w1 at *
  have c0 := hx.kc
  generalize V.k = k at *
  clear hx hs
  refine go_ ?_
  go_wp2_with fail
  go_fit (qframed_no 1 7 none 0 0 6 w1 (by omega))
  rintro e w4 ⟨rfl, hb4⟩
  have hg1 := blk_lt x1
  replace x1 := blk_old x1 hb4 hg1
  replace hb := bnx hb hb4
  have y1 := heap_alloc_new w4 (.cells #[.int .i64 0, .int .i64 0, .slice none 0 0] 40)
  have hb5 := (Below.refl w4.heap.size w4).alloc (Nat.le_refl _) (.cells #[.int .i64 0, .int .i64 0, .slice none 0 0] 40)
  have hg4 := blk_lt x1
  replace x1 := blk_old x1 hb5 hg4
  replace hb := bnx hb hb5
  clear hb4 hb5
  go_wp2_with (first | (with_reducible refine stop_loadT 40 ?_) | (with_reducible refine stop_storeT 40 ?_) | (with_reducible refine stop_loadG 40 ?_))
  generalize (w4.alloc (.cells #[.int .i64 0, .int .i64 0, .slice none 0 0] 40)) = w5 at *
  generalize w4.heap.size = g5 at *
  refine go_ (wpList_store_row rfl _ _ _ rfl g5 #[.int .i64 0, .int .i64 0, .slice none 0 0] rfl rfl _ _ y1 (by kernel_rfl) rfl (by kernel_rfl) ?_)
  have y2 := setRow_heap _ _ _ (#[.int .i64 0, .int .i64 0, .slice none 0 0] : Array Value) _ _ y1
  have haw : Aw (fun k => k = g5) w5 (w5.setRow g5 #[.int .i64 0, .int .i64 0, .slice none 0 0]) := aw_setRow20 _ _
  replace x1 := haw.keep x1 (by omega)
  replace hb := below_aw20 hb haw (fun k hk => by rw [hk]; omega) hb.size
  generalize w5.setRow g5 #[.int .i64 0, .int .i64 0, .slice none 0 0] = w6 at *
  clear haw y1
  go_wp2_with (first | (with_reducible refine stop_loadT 40 ?_) | (with_reducible refine stop_storeT 40 ?_) | (with_reducible refine stop_loadG 40 ?_))
  refine go_ (wpList_load_row rfl _ _ rfl g5 rfl _ _ _ _ y2 Tryz.underlying40 rfl (by kernel_rfl) ?_)
  go_wp2_with (first | (with_reducible refine stop_loadT 40 ?_) | (with_reducible refine stop_storeT 40 ?_) | (with_reducible refine stop_loadG 40 ?_))
  refine go_ (wpList_store_row rfl _ _ _ rfl (w.heap.size + 1) #[.int .i64 0, .int .i64 0, .slice none 0 0] rfl rfl _ _ x1 (by kernel_rfl) rfl (by kernel_rfl) ?_)
  have x2 := setRow_heap _ _ _ (#[.int .i64 0, .int .i64 0, .slice none 0 0] : Array Value) _ _ x1
  have haw : Aw (fun k => k = w.heap.size + 1) w6 (w6.setRow (w.heap.size + 1) #[.int .i64 0, .int .i64 0, .slice none 0 0]) := aw_setRow20 _ _
  have hb2 := below_aw20 hb haw (fun k hk => by rw [hk]; omega) hb.size
  generalize w6.setRow (w.heap.size + 1) #[.int .i64 0, .int .i64 0, .slice none 0 0] = w7 at *
  have e0 := blk_cell (i := 0) (v := .int .i64 0) x2 rfl
  have e1 := blk_cell (i := 1) (v := .int .i64 0) x2 rfl
  have e2 := blk_cell (i := 2) (v := .slice none 0 0) x2 rfl
  go_wp2
  exact bodyPost_ret (v := .tuple #[.agg #[.int .i64 0, .int .i64 0, .slice none 0 0], .int .i64 6]) (by simp [results, go_sem, e0, e1, e2]) rfl ⟨none, 0, 0, rfl, Rd.none_ _ _ _, hb2⟩

theorem qubPut_any (V : UbV) (a : UbA) (h : UbOk V) (w : World) (hr : UbR w w.heap.size V a) :
    Calls Tryz.prog 9 #[.agg (ubL V a).toArray] w (RetFP w (ubFC V) (ubFI V) (ubFB V) (ubE V)) := by
  rcases ub_kinds V with hk | hk | hk | hk | hk | hk
  · exact qubPut_1 V a h w hr hk
  · exact qubPut_2 V a h w hr hk
  · exact qubPut_3 V a h w hr hk
  · cases hy : V.y
    · exact qubPut_4n V a h w hr hk hy
    · exact qubPut_4y V a h w hr hk hy
  · exact qubPut_5 V a h w hr hk
  · exact qubPut_0 V a h w hk

end Go.Proofs.YtmkidihcdljkiaaGreat
