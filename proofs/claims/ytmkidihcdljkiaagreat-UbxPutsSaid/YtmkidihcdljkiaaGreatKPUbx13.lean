/-
  The law UbxPuts walked (printed by gen_ubx12.py).
-/
import Derived.Test.YtmkidihcdljkiaaGreatKPGUB
import Derived.Test.YtmkidihcdljkiaaGreatKPUbx11
import Derived.Test.YtmkidihcdljkiaaGreatKPUbx5P
import Derived.Test.YtmkidihcdljkiaaGreatKPGFC
set_option linter.unusedSimpArgs false
set_option linter.unusedVariables false
namespace Go.Proofs.YtmkidihcdljkiaaGreat
open Go.RowKit NumLaw
attribute [local go_sem] Addr.add_mid

theorem frm_range {w : World} {g : Nat} {c i s : Value} (h : w.heap[g]? = some (.cells #[c, i, s] 40)) : w.rangeAt g 0 [c, i, s] := fun j v hv => by
  refine blk_cell (i := 0 + j) h ?_
  rw [Nat.zero_add]
  simpa using hv
theorem ubB_all {w : World} {g : Nat} {V : UbV} {a : UbA} (h : UbB w g V a) : w.rangeAt g 0 (ubL V a) := h.range (fun j v hv => by rwa [Nat.zero_add])
theorem frSame_yes (c i : Int) (A : Option Addr) (n cap : Nat) (A' : Option Addr) (n' cap' : Nat) (p : List UInt8) (w : World) (h : Rd w w.heap.size 1 A n cap (bv p)) (h' : Rd w w.heap.size 1 A' n' cap' (bv p)) :
    Calls Tryz.prog 12 #[.agg #[.int .i64 c, .int .i64 i, .slice A n cap], .agg #[.int .i64 c, .int .i64 i, .slice A' n' cap']] w fun e w' => e = .returned (.bool true) ∧ Below w.heap.size w w' :=
  (frSame_any c i A n cap w.heap.size p c i A' n' cap' w.heap.size p w h (Nat.le_refl _) h' (Nat.le_refl _)).mono fun e w' ⟨he, hb⟩ => ⟨by rw [he]; simp, hb⟩
set_option maxRecDepth 10000 in
set_option maxHeartbeats 4000000 in
theorem ubxputs_no1 (V : UbV) (a : UbA) (w : World) (h : UbOk V) (g : ¬ a.n ≤ 70) :
    Calls Tryz.prog 3 #[.agg (ubL V a).toArray] w fun e w' => e = .returned (.bool true) ∧ Below w.heap.size w w' := by
  have hb := (Below.refl w.heap.size w).alloc (Nat.le_refl _) (.cells (ubL V a).toArray 35)
  have hx : UbB (w.alloc (.cells (ubL V a).toArray 35)) w.heap.size V a := heap_alloc_new _ _
  have Hsz := Lib.hid (ub_size V a h.pl h.dl)
  have Hfew := Lib.hid (fun w0 => few21_no1 V a w0 h.pl h.dl g)
  clear h g
  go_enter Tryz.func3, Tryz.ntmps3
  go_wp2_with (first | (with_reducible refine stop_loadT 35 ?_) | (with_reducible refine stop_storeT 35 ?_) | (with_reducible refine stop_loadG 35 ?_))
  generalize (w.alloc (.cells (ubL V a).toArray 35)) = w1 at *
  refine go_ (wpList_load_row rfl _ _ rfl w.heap.size rfl _ _ _ _ hx Tryz.underlying35 rfl Hsz.out ?_)
  go_wp2_with fail
  go_fit (Hfew.out w1)
  rintro e w2 ⟨rfl, hb2⟩
  replace hb := bnx hb hb2
  clear hb2 hx
  go_wp2_with fail
  go_fit (knows21 w2)
  rintro e w3 ⟨rfl, hb3⟩
  replace hb := bnx hb hb3
  clear hb3
  go_wp2
  go_ret
  exact ⟨rfl, hb⟩

set_option maxRecDepth 10000 in
set_option maxHeartbeats 4000000 in
theorem ubxputs_no2 (V : UbV) (a : UbA) (w : World) (h : UbOk V) (g1 : a.n ≤ 70) (g : ¬ a.n' ≤ 40) :
    Calls Tryz.prog 3 #[.agg (ubL V a).toArray] w fun e w' => e = .returned (.bool true) ∧ Below w.heap.size w w' := by
  have hb := (Below.refl w.heap.size w).alloc (Nat.le_refl _) (.cells (ubL V a).toArray 35)
  have hx : UbB (w.alloc (.cells (ubL V a).toArray 35)) w.heap.size V a := heap_alloc_new _ _
  have Hsz := Lib.hid (ub_size V a h.pl h.dl)
  have Hfew := Lib.hid (fun w0 => few21_no2 V a w0 h.pl h.dl g1 g)
  clear h g g1
  go_enter Tryz.func3, Tryz.ntmps3
  go_wp2_with (first | (with_reducible refine stop_loadT 35 ?_) | (with_reducible refine stop_storeT 35 ?_) | (with_reducible refine stop_loadG 35 ?_))
  generalize (w.alloc (.cells (ubL V a).toArray 35)) = w1 at *
  refine go_ (wpList_load_row rfl _ _ rfl w.heap.size rfl _ _ _ _ hx Tryz.underlying35 rfl Hsz.out ?_)
  go_wp2_with fail
  go_fit (Hfew.out w1)
  rintro e w2 ⟨rfl, hb2⟩
  replace hb := bnx hb hb2
  clear hb2 hx
  go_wp2_with fail
  go_fit (knows21 w2)
  rintro e w3 ⟨rfl, hb3⟩
  replace hb := bnx hb hb3
  clear hb3
  go_wp2
  go_ret
  exact ⟨rfl, hb⟩

set_option maxRecDepth 20000 in
set_option maxHeartbeats 8000000 in
theorem ubxputs_yes (V : UbV) (a : UbA) (w : World) (h : UbOk V) (hr : UbR w w.heap.size V a) (g1 : a.n ≤ 70) (g2 : a.n' ≤ 40) :
    Calls Tryz.prog 3 #[.agg (ubL V a).toArray] w fun e w' => e = .returned (.bool true) ∧ Below w.heap.size w w' := by
  have hb := (Below.refl w.heap.size w).alloc (Nat.le_refl _) (.cells (ubL V a).toArray 35)
  have hx : UbB (w.alloc (.cells (ubL V a).toArray 35)) w.heap.size V a := heap_alloc_new _ _
  replace hr := (hr.up hb).more hb.size
  have Hsz := Lib.hid (ub_size V a h.pl h.dl)
  have HszL : Hid ((Tryz.prog.info? 35).map (·.size) = some (ubL V a).length) := Lib.hid (by rw [ubL_len h.pl h.dl]; kernel_rfl)
  have Hfew := Lib.hid (fun w0 => few21_yes V a w0 h.pl h.dl g1 g2)
  have Hp := Lib.hid (fun w hr => ubPut_any V a h w hr)
  have Hq := Lib.hid (fun w hr => qubPut_any V a h w hr)
  have Hen := Lib.hid (fun w hr => ubEncode_any V a h w hr)
  have Heq := Lib.hid (fun w hr => qubEncode_any V a h w hr)
  have Hpl := Lib.hid (fun w hr => ubPlain_any V a h w hr ⟨by omega, by omega⟩)
  have Hql := Lib.hid (fun w hr => qubPlain_any V a h w hr ⟨by omega, by omega⟩)
  have Hok := Lib.hid (ubPlain_ok h)
  generalize ubFC V = FC at *
  generalize ubFI V = FI at *
  generalize ubFB V = FB at *
  generalize ubE V = oE at *
  generalize ubEP V = EP at *
  generalize ubEE V = EE at *
  generalize ubPlain V = UP at *
  clear h g1 g2
  go_enter Tryz.func3, Tryz.ntmps3
  go_wp2_with (first | (with_reducible refine stop_loadT 35 ?_) | (with_reducible refine stop_storeT 35 ?_) | (with_reducible refine stop_loadG 35 ?_))
  generalize (w.alloc (.cells (ubL V a).toArray 35)) = w1 at *
  refine go_ (wpList_load_row rfl _ _ rfl w.heap.size rfl _ _ _ _ hx Tryz.underlying35 rfl Hsz.out ?_)
  go_wp2_with fail
  go_fit (Hfew.out w1)
  rintro e w2 ⟨rfl, hb2⟩
  replace hx := hx.old hb2 (blk_lt hx)
  replace hr := (hr.up hb2).more hb2.size
  replace hb := bnx hb hb2
  clear hb2
  go_wp2_with fail
  go_fit (knows21 w2)
  rintro e w3 ⟨rfl, hb3⟩
  replace hx := hx.old hb3 (blk_lt hx)
  replace hr := (hr.up hb3).more hb3.size
  replace hb := bnx hb hb3
  clear hb3
  go_wp2_with (first | (with_reducible refine stop_loadT 35 ?_) | (with_reducible refine stop_storeT 35 ?_) | (with_reducible refine stop_loadG 35 ?_))
  refine go_ (wpList_load_row rfl _ _ rfl w.heap.size rfl _ _ _ _ hx Tryz.underlying35 rfl Hsz.out ?_)
  go_wp2_with fail
  go_fit (Hp.out w3 hr)
  rintro e w4 ⟨A4, n4, c4, rfl, hr4, hb4⟩
  replace hx := hx.old hb4 (blk_lt hx)
  replace hr := (hr.up hb4).more hb4.size
  replace hb := bnx hb hb4
  have f4 := heap_alloc_new w4 (.cells #[.int .i64 FC, .int .i64 FI, .slice A4 n4 c4] 40)
  have hb4' := (Below.refl w4.heap.size w4).alloc (Nat.le_refl _) (.cells #[.int .i64 FC, .int .i64 FI, .slice A4 n4 c4] 40)
  replace hx := hx.old hb4' (blk_lt hx)
  replace hr := (hr.up hb4').more hb4'.size
  replace hb := bnx hb hb4'
  replace hr4 := hr4.nx hb4'
  clear hb4 hb4'
  go_wp2_with (first | (with_reducible refine stop_loadT 35 ?_) | (with_reducible refine stop_storeT 35 ?_) | (with_reducible refine stop_loadG 35 ?_))
  generalize (w4.alloc (.cells #[.int .i64 FC, .int .i64 FI, .slice A4 n4 c4] 40)) = w5 at *
  generalize w4.heap.size = g4 at *
  refine go_ (wpList_load_row rfl _ _ rfl w.heap.size rfl _ _ _ _ hx Tryz.underlying35 rfl Hsz.out ?_)
  go_wp2_with fail
  go_fit (Hq.out w5 hr)
  rintro e w6 ⟨A6, n6, c6, rfl, hr6, hb6⟩
  replace hx := hx.old hb6 (blk_lt hx)
  replace hr := (hr.up hb6).more hb6.size
  replace hb := bnx hb hb6
  have f6 := heap_alloc_new w6 (.cells #[.int .i64 FC, .int .i64 FI, .slice A6 n6 c6] 40)
  have hb6' := (Below.refl w6.heap.size w6).alloc (Nat.le_refl _) (.cells #[.int .i64 FC, .int .i64 FI, .slice A6 n6 c6] 40)
  replace hx := hx.old hb6' (blk_lt hx)
  replace hr := (hr.up hb6').more hb6'.size
  replace hb := bnx hb hb6'
  replace hr6 := hr6.nx hb6'
  replace hr4 := (hr4.nx hb6).nx hb6'
  replace f4 := blk_old (blk_old f4 hb6 (blk_lt f4)) hb6' (blk_lt (blk_old f4 hb6 (blk_lt f4)))
  clear hb6 hb6'
  go_wp2_with (first | (with_reducible refine stop_loadT 35 ?_) | (with_reducible refine stop_storeT 35 ?_) | (with_reducible refine stop_loadG 35 ?_))
  generalize (w6.alloc (.cells #[.int .i64 FC, .int .i64 FI, .slice A6 n6 c6] 40)) = w7 at *
  generalize w6.heap.size = g6 at *
  refine go_ (wpList_load_row rfl _ _ rfl w.heap.size rfl _ _ _ _ hx Tryz.underlying35 rfl Hsz.out ?_)
  go_wp2_with fail
  go_fit (Hen.out w7 hr)
  rintro e v1 ⟨B1, m1, k1, rfl, own1, hb7⟩
  replace hx := hx.old hb7 (blk_lt hx)
  replace hr := (hr.up hb7).more hb7.size
  replace hb := bnx hb hb7
  have hs1 := Rd.own own1
  replace hr4 := hr4.nx hb7
  replace hr6 := hr6.nx hb7
  replace f4 := blk_old f4 hb7 (blk_lt f4)
  replace f6 := blk_old f6 hb7 (blk_lt f6)
  clear hb7 own1
  go_wp2_with (first | (with_reducible refine stop_loadT 35 ?_) | (with_reducible refine stop_storeT 35 ?_) | (with_reducible refine stop_loadG 35 ?_))
  refine go_ (wpList_load_row rfl _ _ rfl w.heap.size rfl _ _ _ _ hx Tryz.underlying35 rfl Hsz.out ?_)
  go_wp2_with fail
  go_fit (Heq.out v1 hr)
  rintro e w8 ⟨B2, m2, k2, rfl, own2, hb8⟩
  replace hx := hx.old hb8 (blk_lt hx)
  replace hr := (hr.up hb8).more hb8.size
  replace hb := bnx hb hb8
  have hs2 := Rd.own own2
  replace hs1 := hs1.nx hb8
  replace hr4 := hr4.nx hb8
  replace hr6 := hr6.nx hb8
  replace f4 := blk_old f4 hb8 (blk_lt f4)
  replace f6 := blk_old f6 hb8 (blk_lt f6)
  have HF4 := Lib.hid (fun w' (hS : Below w8.heap.size w8 w') => frm_range (blk_old f4 hS (blk_lt f4)))
  have HF6 := Lib.hid (fun w' (hS : Below w8.heap.size w8 w') => frm_range (blk_old f6 hS (blk_lt f6)))
  have HxS : Hid (∀ w', Below w8.heap.size w8 w' → w'.rangeAt w.heap.size 0 (ubL V a)) := Lib.hid (fun w' hS => ubB_all (hx.old hS (blk_lt hx)))
  have Hsm := Lib.hid (fun w' (hS : Below w8.heap.size w8 w') => frSame_yes FC FI A4 n4 c4 A6 n6 c6 FB w' ((hr4.up hS).more hS.size) ((hr6.up hS).more hS.size))
  have Hr := Lib.hid hr
  clear hb8 own2 hx f4 f6 hr4 hr6 hr
  go_wp2_with fail
  refine Ord.region_ (fun w' => Below w8.heap.size w8 w') false [] (by kernel_rfl) (by kernel_rfl) (Below.refl _ _).drew ?_
  have hS : Below w8.heap.size w8 w8.drew := (Below.refl _ _).drew
  generalize w8.drew = v0 at *
  refine Ord.e_rowS (b := g4) (o := 0) Tryz.underlying40 rfl (by kernel_rfl) rfl (by simp) (fun w' hS => HF4.out w' hS) hS (by kernel_rfl) ?_
  (try simp only [Act.put, List.setIfInBounds_toArray, List.set_cons_zero, List.set_cons_succ])
  refine Ord.e_rowS (b := g6) (o := 0) Tryz.underlying40 rfl (by kernel_rfl) rfl (by simp) (fun w' hS => HF6.out w' hS) hS (by kernel_rfl) ?_
  (try simp only [Act.put, List.setIfInBounds_toArray, List.set_cons_zero, List.set_cons_succ])
  refine Ord.e_x rfl (by kernel_rfl) ?_
  go_wp2_with fail
  go_fit (Hsm.out v0 hS)
  rintro e v1 ⟨rfl, hb1⟩
  replace hS := bnx hS hb1
  clear hb1
  go_wp2_with fail
  refine Ord.Seg.go hS (fun h => by cases h) ?_
  (try simp only [Act.put, List.setIfInBounds_toArray, List.set_cons_zero, List.set_cons_succ])
  ((with_reducible refine Ord.e_p (v := ?_) ?_ ?_ ?_ ?_); rotate_left; (· exact rfl); (· kernel_rfl); (· intro w2; go_simp; try with_reducible rfl))
  (try simp only [Act.put, List.setIfInBounds_toArray, List.set_cons_zero, List.set_cons_succ])
  ((with_reducible refine Ord.e_p (v := ?_) ?_ ?_ ?_ ?_); rotate_left; (· exact rfl); (· kernel_rfl); (· intro w2; go_simp; try with_reducible rfl))
  (try simp only [Act.put, List.setIfInBounds_toArray, List.set_cons_zero, List.set_cons_succ])
  refine Ord.e_x rfl (by kernel_rfl) ?_
  go_wp2_with fail
  go_fit (num21_any _ _)
  rintro e w9 ⟨rfl, rfl⟩
  go_wp2_with fail
  refine Ord.Seg.go hS (fun h => by cases h) ?_
  (try simp only [Act.put, List.setIfInBounds_toArray, List.set_cons_zero, List.set_cons_succ])
  ((with_reducible refine Ord.e_p (v := ?_) ?_ ?_ ?_ ?_); rotate_left; (· exact rfl); (· kernel_rfl); (· intro w2; go_simp; try with_reducible rfl))
  (try simp only [Act.put, List.setIfInBounds_toArray, List.set_cons_zero, List.set_cons_succ])
  refine Ord.e_x rfl (by kernel_rfl) ?_
  go_wp2_with fail
  go_fit (num21_any _ _)
  rintro e w9 ⟨rfl, rfl⟩
  go_wp2_with fail
  refine Ord.Seg.go hS (fun h => by cases h) ?_
  (try simp only [Act.put, List.setIfInBounds_toArray, List.set_cons_zero, List.set_cons_succ])
  refine Ord.e_p (v := .bool true) rfl (by kernel_rfl) (fun w2 => by go_simp) ?_
  (try simp only [Act.put, List.setIfInBounds_toArray, List.set_cons_zero, List.set_cons_succ])
  ((with_reducible refine Ord.e_p (v := ?_) ?_ ?_ ?_ ?_); rotate_left; (· exact rfl); (· kernel_rfl); (· intro w2; go_simp; try with_reducible rfl))
  (try simp only [Act.put, List.setIfInBounds_toArray, List.set_cons_zero, List.set_cons_succ])
  ((with_reducible refine Ord.e_p (v := ?_) ?_ ?_ ?_ ?_); rotate_left; (· exact rfl); (· kernel_rfl); (· intro w2; go_simp; try with_reducible rfl))
  (try simp only [Act.put, List.setIfInBounds_toArray, List.set_cons_zero, List.set_cons_succ])
  ((with_reducible refine Ord.e_p (v := ?_) ?_ ?_ ?_ ?_); rotate_left; (· exact rfl); (· kernel_rfl); (· intro w2; go_simp; try with_reducible rfl))
  (try simp only [Act.put, List.setIfInBounds_toArray, List.set_cons_zero, List.set_cons_succ])
  refine Ord.e_strS Tryz.underlying38 Tryz.underlying5 Tryz.underlying9 (fun w' hS => hs1.up (show Below _ w8 w' from hS)) hS hS.size rfl (by kernel_rfl) ?_
  (try simp only [Act.put, List.setIfInBounds_toArray, List.set_cons_zero, List.set_cons_succ])
  ((with_reducible refine Ord.e_p (v := ?_) ?_ ?_ ?_ ?_); rotate_left; (· exact rfl); (· kernel_rfl); (· intro w2; go_simp; try with_reducible rfl))
  (try simp only [Act.put, List.setIfInBounds_toArray, List.set_cons_zero, List.set_cons_succ])
  refine Ord.e_strS Tryz.underlying38 Tryz.underlying5 Tryz.underlying9 (fun w' hS => hs2.up (show Below _ w8 w' from hS)) hS hS.size rfl (by kernel_rfl) ?_
  (try simp only [Act.put, List.setIfInBounds_toArray, List.set_cons_zero, List.set_cons_succ])
  refine Ord.e_p (v := .bool true) rfl (by kernel_rfl) (fun w2 => by go_simp) ?_
  (try simp only [Act.put, List.setIfInBounds_toArray, List.set_cons_zero, List.set_cons_succ])
  ((with_reducible refine Ord.e_p (v := ?_) ?_ ?_ ?_ ?_); rotate_left; (· exact rfl); (· kernel_rfl); (· intro w2; go_simp; try with_reducible rfl))
  (try simp only [Act.put, List.setIfInBounds_toArray, List.set_cons_zero, List.set_cons_succ])
  ((with_reducible refine Ord.e_p (v := ?_) ?_ ?_ ?_ ?_); rotate_left; (· exact rfl); (· kernel_rfl); (· intro w2; go_simp; try with_reducible rfl))
  (try simp only [Act.put, List.setIfInBounds_toArray, List.set_cons_zero, List.set_cons_succ])
  ((with_reducible refine Ord.e_p (v := ?_) ?_ ?_ ?_ ?_); rotate_left; (· exact rfl); (· kernel_rfl); (· intro w2; go_simp; try with_reducible rfl))
  (try simp only [Act.put, List.setIfInBounds_toArray, List.set_cons_zero, List.set_cons_succ])
  refine Ord.e_x rfl (by kernel_rfl) ?_
  go_wp2_with fail
  go_fit (num21_any _ _)
  rintro e w9 ⟨rfl, rfl⟩
  go_wp2_with fail
  refine Ord.Seg.go hS (fun h => by cases h) ?_
  (try simp only [Act.put, List.setIfInBounds_toArray, List.set_cons_zero, List.set_cons_succ])
  ((with_reducible refine Ord.e_p (v := ?_) ?_ ?_ ?_ ?_); rotate_left; (· exact rfl); (· kernel_rfl); (· intro w2; go_simp; try with_reducible rfl))
  (try simp only [Act.put, List.setIfInBounds_toArray, List.set_cons_zero, List.set_cons_succ])
  refine Ord.e_x rfl (by kernel_rfl) ?_
  go_wp2_with fail
  go_fit (num21_any _ _)
  rintro e w9 ⟨rfl, rfl⟩
  go_wp2_with fail
  refine Ord.Seg.go hS (fun h => by cases h) ?_
  (try simp only [Act.put, List.setIfInBounds_toArray, List.set_cons_zero, List.set_cons_succ])
  refine Ord.e_p (v := .bool true) rfl (by kernel_rfl) (fun w2 => by go_simp) ?_
  (try simp only [Act.put, List.setIfInBounds_toArray, List.set_cons_zero, List.set_cons_succ])
  ((with_reducible refine Ord.e_p (v := ?_) ?_ ?_ ?_ ?_); rotate_left; (· exact rfl); (· kernel_rfl); (· intro w2; go_simp; try with_reducible rfl))
  (try simp only [Act.put, List.setIfInBounds_toArray, List.set_cons_zero, List.set_cons_succ])
  ((with_reducible refine Ord.e_p (v := ?_) ?_ ?_ ?_ ?_); rotate_left; (· exact rfl); (· kernel_rfl); (· intro w2; go_simp; try with_reducible rfl))
  (try simp only [Act.put, List.setIfInBounds_toArray, List.set_cons_zero, List.set_cons_succ])
  refine Ord.e_rowS (b := w.heap.size) (o := 0) (cs := ubL V a) Tryz.underlying35 rfl HszL.out rfl (by unfold ubL; simp) (fun w' hS => HxS.out w' hS) hS (by kernel_rfl) ?_
  (try simp only [Act.put, List.setIfInBounds_toArray, List.set_cons_zero, List.set_cons_succ])
  refine Ord.e_x rfl (by kernel_rfl) ?_
  go_wp2_with fail
  go_fit (Hpl.out v1 ((Hr.out.up hS).more hS.size))
  rintro e v2 ⟨a2, rfl, hr2, hb2⟩
  replace hS := bnx hS hb2
  clear hb2
  go_wp2_with fail
  refine Ord.Seg.go hS (fun h => by cases h) ?_
  (try simp only [Act.put, List.setIfInBounds_toArray, List.set_cons_zero, List.set_cons_succ])
  refine Ord.e_rowS (b := w.heap.size) (o := 0) (cs := ubL V a) Tryz.underlying35 rfl HszL.out rfl (by unfold ubL; simp) (fun w' hS => HxS.out w' hS) hS (by kernel_rfl) ?_
  (try simp only [Act.put, List.setIfInBounds_toArray, List.set_cons_zero, List.set_cons_succ])
  refine Ord.e_x rfl (by kernel_rfl) ?_
  go_wp2_with fail
  go_fit (Hql.out v2 ((Hr.out.up hS).more hS.size))
  rintro e v3 ⟨a3, rfl, hr3, hb3⟩
  replace hS := bnx hS hb3
  replace hr2 := (hr2.up hb3).more hb3.size
  clear hb3
  go_wp2_with fail
  refine Ord.Seg.go hS (fun h => by cases h) ?_
  (try simp only [Act.put, List.setIfInBounds_toArray, List.set_cons_zero, List.set_cons_succ])
  refine Ord.e_x rfl (by kernel_rfl) ?_
  go_wp2_with fail
  go_fit (sameub_any UP a2 a3 v3 Hok.out.pl Hok.out.dl Hok.out.ll hr2 hr3)
  rintro e v4 ⟨rfl, hb4⟩
  replace hS := bnx hS hb4
  clear hb4 hr2 hr3
  go_wp2_with fail
  refine Ord.Seg.go hS (fun h => by cases h) ?_
  (try simp only [Act.put, List.setIfInBounds_toArray, List.set_cons_zero, List.set_cons_succ])
  ((with_reducible refine Ord.e_p (v := ?_) ?_ ?_ ?_ ?_); rotate_left; (· exact rfl); (· kernel_rfl); (· intro w2; go_simp; try with_reducible rfl))
  (try simp only [Act.put, List.setIfInBounds_toArray, List.set_cons_zero, List.set_cons_succ])
  ((with_reducible refine Ord.e_p (v := ?_) ?_ ?_ ?_ ?_); rotate_left; (· exact rfl); (· kernel_rfl); (· intro w2; go_simp; try with_reducible rfl))
  (try simp only [Act.put, List.setIfInBounds_toArray, List.set_cons_zero, List.set_cons_succ])
  refine Ord.e_nil ?_
  have hfin := bnx hb hS
  clear hS hb
  go_wp2
  go_ret
  exact ⟨rfl, hfin⟩
theorem ubxputs_any (V : UbV) (a : UbA) (w : World) (h : UbOk V) (hr : UbR w w.heap.size V a) :
    Calls Tryz.prog 3 #[.agg (ubL V a).toArray] w fun e w' => e = .returned (.bool true) ∧ Below w.heap.size w w' := by
  by_cases g1 : a.n ≤ 70
  · by_cases g2 : a.n' ≤ 40
    · exact ubxputs_yes V a w h hr g1 g2
    · exact ubxputs_no2 V a w h g1 g2
  · exact ubxputs_no1 V a w h g1

end Go.Proofs.YtmkidihcdljkiaaGreat
