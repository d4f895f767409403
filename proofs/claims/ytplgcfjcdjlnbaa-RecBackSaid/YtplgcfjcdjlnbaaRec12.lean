/-
  RecBack walked (printed by gen_rec12.py).
-/
import Derived.Test.YtplgcfjcdjlnbaaRecBk
set_option linter.unusedSimpArgs false
set_option linter.unusedVariables false
namespace Go.Proofs.Ytplgcfjcdjlnbaa
open Go.RowKit NumLaw
attribute [local go_sem] Addr.add_mid
attribute [-go_sem] run_eql_struct run_neq_struct

set_option maxRecDepth 10000 in
set_option maxHeartbeats 16000000 in
theorem recback_any (t : Nat) (V : List Int) (t' : Nat) (V' : List Int) (A : Option Addr) (n c : Nat) (b : List UInt8) (w : World) (ht : t < 4294967296) (hV : V.length = 12) (h32 : ∀ x ∈ V, in32 x) (ht' : t' < 4294967296) (hV' : V'.length = 12) (h32' : ∀ x ∈ V', in32 x) (h : Rd w w.heap.size 1 A n c (bv b)) :
    Calls Try.prog 6 #[.agg (rcC t V).toArray, .agg (rcC t' V').toArray, .slice A n c] w fun e w' => e = .returned (.bool true) ∧ Below w.heap.size w w' := by
  have hlb := h.blen
  have Hlb := Lib.hid hlb
  obtain ⟨i0, hi⟩ := info_parts u8_info
  have Hi := Lib.hid hi
  have HV := Lib.hid hV
  have HV' := Lib.hid hV'
  obtain ⟨a0, a1, hs, hb⟩ := al2 w (.cells (rcC t V).toArray 25) (.cells (rcC t' V').toArray 25)
  by_cases h5 : n ≤ 500
  case neg =>
    have h5' : ¬ (n : Int) ≤ 500 := by omega
    clear hi hlb
    go_enter Try.func6, Try.ntmps6
    go_wp2_with fail
    generalize ((w.alloc (.cells (rcC t V).toArray 25)).alloc (.cells (rcC t' V').toArray 25)) = w1 at *
    go_fit (knows34 w1)
    rintro e w2 ⟨rfl, hbx⟩
    have hb2 := bnx hb hbx
    clear hbx
    go_wp2
    go_ret
    exact ⟨rfl, hb2⟩
  have h5' : (n : Int) ≤ 500 := by omega
  have hle := h.le
  have hmx := h.max
  unfold maxLen at hmx
  have HKey := Lib.hid (fun w1 => recKey_any t' V' w1 ht' hV' h32')
  have HDel := Lib.hid (fun w1 => recDelta_any t V t' V' w1 ht hV h32 ht' hV' h32')
  have HKl := Lib.hid (recK_len t' V' hV')
  have HDl := Lib.hid (recD_len (t := t) (t' := t') hV hV' h32 h32')
  have k1 := fun w1 A1 n1 c1 B (h1 : Rd w1 B 1 A1 n1 c1 (bv (recK t' V' ++ b))) (hB1 : B ≤ w1.heap.size) (hn : n1 ≤ 1000000) => takeKey_any A1 n1 c1 B (recK t' V' ++ b) w1 h1 hB1 hn
  obtain ⟨e1, e2, e3, e4⟩ := key_there (t := t') b ht' hV' h32'
  rw [e1, e2, e3, e4] at k1
  have k2 := fun w1 A1 n1 c1 B (h1 : Rd w1 B 1 A1 n1 c1 (bv (recD t V t' V' ++ b))) (hB1 : B ≤ w1.heap.size) (hn : n1 ≤ 1000000) => recTakeDelta_any t V A1 n1 c1 B (recD t V t' V' ++ b) w1 ht hV h32 h1 hB1 hn
  obtain ⟨d1, d2, d3, d4⟩ := rec_there (t := t) (t' := t') b ht ht' hV hV' h32 h32'
  rw [d1, d2, d3, d4] at k2
  have k3 := fun w1 (h1 : Rd w1 w.heap.size 1 A n c (bv b)) (hB1 : w.heap.size ≤ w1.heap.size) => recTakeDelta_any t V A n c w.heap.size b w1 ht hV h32 h1 hB1 (by omega)
  have hl3 := recTV_len (b := b) ht hV h32
  have Hback := Lib.hid (rec_back (b := b) ht hV h32)
  have Hbad := Lib.hid (recT_bad (t := t) (V := V) (b := b))
  have HDel3 := Lib.hid (fun w1 (h : recTE V b = 0) => recDelta_any t V (recTt t V b) (recTV V b) w1 ht hV h32 (rec_back ht hV h32 h).2.2.2.2.2 (rec_back ht hV h32 h).2.2.2.1 (rec_back ht hV h32 h).2.2.2.2.1)
  generalize recTt t V b = T3 at *
  generalize recTV V b = V3 at *
  generalize recTn V b = n3 at *
  generalize recTE V b = e5 at *
  have HK1 := Lib.hid k1
  have HK2 := Lib.hid k2
  have HK3 := Lib.hid k3
  have Hl3 := Lib.hid hl3
  have HQ := Lib.hid (fun w => rec_neq t' t' V' V' hV' hV' w)
  have qg := rec_guard
  clear hi hlb hV h32 hV' h32' k1 k2 k3 hl3 e1 e2 e3 e4 d1 d2 d3 d4
  go_enter Try.func6, Try.ntmps6
  go_wp2_with fail
  generalize ((w.alloc (.cells (rcC t V).toArray 25)).alloc (.cells (rcC t' V').toArray 25)) = w1 at *
  replace a0 : RcB w1 w.heap.size t V := a0
  replace a1 : RcB w1 (w.heap.size + 1) t' V' := a1
  clear hs
  go_fit (knows34 w1)
  rintro e w2 ⟨rfl, hbx⟩
  replace a0 : RcB w2 w.heap.size t V := blk_old a0 hbx (blk_lt a0)
  replace a1 : RcB w2 (w.heap.size + 1) t' V' := blk_old a1 hbx (blk_lt a1)
  replace hb := bnx hb hbx
  clear hbx w1
  go_wp2_with (first | (with_reducible refine stop_loadT 25 ?_) | (with_reducible refine stop_storeT 25 ?_) | (with_reducible refine stop_loadG 25 ?_))
  refine go_ (wpList_load_mid rfl _ _ rfl (w.heap.size + 1) 0 rfl _ _ a1.all Try.underlying25 rfl (by rw [rcC_size t' V' HV'.out]; kernel_rfl) ?_)
  go_wp2_with fail
  go_fit (HKey.out w2)
  rintro e w3 ⟨Ak, ck, nk, rfl, ownk, hbx⟩
  have hlk := own_len ownk
  rw [HKl.out] at hlk
  subst hlk
  have hrk := Rd.own ownk
  replace a0 : RcB w3 w.heap.size t V := blk_old a0 hbx (blk_lt a0)
  replace a1 : RcB w3 (w.heap.size + 1) t' V' := blk_old a1 hbx (blk_lt a1)
  replace hb := bnx hb hbx
  clear hbx ownk w2
  go_wp2_with (first | (with_reducible refine stop_loadT 25 ?_) | (with_reducible refine stop_storeT 25 ?_) | (with_reducible refine stop_loadG 25 ?_))
  refine go_ (wpList_load_mid rfl _ _ rfl w.heap.size 0 rfl _ _ a0.all Try.underlying25 rfl (by rw [rcC_size t V HV.out]; kernel_rfl) ?_)
  go_wp2_with (first | (with_reducible refine stop_loadT 25 ?_) | (with_reducible refine stop_storeT 25 ?_) | (with_reducible refine stop_loadG 25 ?_))
  refine go_ (wpList_load_mid rfl _ _ rfl (w.heap.size + 1) 0 rfl _ _ a1.all Try.underlying25 rfl (by rw [rcC_size t' V' HV'.out]; kernel_rfl) ?_)
  go_wp2_with fail
  go_fit (HDel.out w3)
  rintro e w4 ⟨Ad, cd, nd, rfl, ownd, hbx⟩
  have hld := own_len ownd
  have hd2 := HDl.out
  rw [hld] at HK2 hd2
  have Hld := Lib.hid hld
  obtain ⟨hd2a, hd2b⟩ := hd2
  have hrd := Rd.own ownd
  replace hrk := hrk.nx hbx
  replace a0 : RcB w4 w.heap.size t V := blk_old a0 hbx (blk_lt a0)
  replace a1 : RcB w4 (w.heap.size + 1) t' V' := blk_old a1 hbx (blk_lt a1)
  replace hb := bnx hb hbx
  clear hbx ownd w3 hld
  go_wp2_with (at_builtin; refine stop_ ?_)
  have hown5 : (w4.alloc (.cells #[] 5)).ownsRow w4.heap.size 5 1 (.slice (some ⟨w4.heap.size, 0, none⟩) 0 0) 0 [] := own_empty w4 _ _ (Nat.le_refl _) 1
  have hb5 : Below w4.heap.size w4 (w4.alloc (.cells #[] 5)) := (Below.refl _ _).alloc (Nat.le_refl _) _
  refine go_ (wpList_appG Try.underlying26 Hi.out rfl (by omega) hown5 rfl (hrk.up hb5) rfl (bv_one _) (k := 52) (by omega) (List.nil_append _) (by unfold maxLen; omega) (by omega) hb5.size ?_)
  intro A6 c6 w6 hown6 hgr6 hob6
  clear hob6
  have hb6 := Below.grown hb5 hgr6 hb5.size (fun j hj => (own_blk hown5 hj).1)
  clear hown5 hb5 hgr6
  go_wp2_with (at_builtin; refine stop_ ?_)
  refine go_ (wpList_appG Try.underlying26 Hi.out rfl (by omega) hown6 rfl (h.up (bnx hb hb6)) rfl (bv_one _) (k := 52 + n) rfl (bv_app _ _).symm (by unfold maxLen; omega) (by omega) hb6.size ?_)
  intro A7 c7 w7 hown7 hgr7 hob7
  clear hob7
  have hb7 := Below.grown hb6 hgr7 hb6.size (fun j hj => (own_blk hown6 hj).1)
  clear hown6 hb6 hgr7
  replace hrd := hrd.nx hb7
  replace a0 : RcB w7 w.heap.size t V := blk_old a0 hb7 (blk_lt a0)
  replace a1 : RcB w7 (w.heap.size + 1) t' V' := blk_old a1 hb7 (blk_lt a1)
  replace hb := bnx hb hb7
  clear hb7 hrk w6
  go_wp2_with fail
  go_fit (HK1.out w7 A7 (52 + n) c7 _ (Rd.own hown7) (Nat.le_refl _) (by omega))
  rintro e w8 ⟨rfl, hbx⟩
  replace hrd := hrd.nx hbx
  replace a0 : RcB w8 w.heap.size t V := blk_old a0 hbx (blk_lt a0)
  replace a1 : RcB w8 (w.heap.size + 1) t' V' := blk_old a1 hbx (blk_lt a1)
  replace hb := bnx hb hbx
  clear hbx hown7 w7
  go_wp2_with (first | (with_reducible refine stop_loadT 25 ?_) | (with_reducible refine stop_storeT 25 ?_) | (with_reducible refine stop_loadG 25 ?_))
  have hbx : Below w8.heap.size w8 (w8.alloc (.cells #[.int .u32 0, .int .i32 0, .int .i32 0, .int .i32 0, .int .i32 0, .int .i32 0, .int .i32 0, .int .i32 0, .int .i32 0, .int .i32 0, .int .i32 0, .int .i32 0, .int .i32 0] 25)) := (Below.refl _ _).alloc (Nat.le_refl _) _
  have r9 := heap_alloc_new w8 (.cells #[.int .u32 0, .int .i32 0, .int .i32 0, .int .i32 0, .int .i32 0, .int .i32 0, .int .i32 0, .int .i32 0, .int .i32 0, .int .i32 0, .int .i32 0, .int .i32 0, .int .i32 0] 25)
  have lt1 : w.heap.size + 1 < w8.heap.size := blk_lt a1
  replace hrd := hrd.up hbx
  replace a0 : RcB _ w.heap.size t V := blk_old a0 hbx (blk_lt a0)
  replace a1 : RcB _ (w.heap.size + 1) t' V' := blk_old a1 hbx (blk_lt a1)
  replace hb := bnx hb hbx
  generalize (w8.alloc (.cells #[.int .u32 0, .int .i32 0, .int .i32 0, .int .i32 0, .int .i32 0, .int .i32 0, .int .i32 0, .int .i32 0, .int .i32 0, .int .i32 0, .int .i32 0, .int .i32 0, .int .i32 0] 25)) = w9 at *
  generalize w8.heap.size = g9 at *
  clear hbx w8
  replace r9 : RcB w9 g9 0 z12 := r9
  refine go_ (wpList_store_row rfl _ _ _ rfl g9 (rcC t' V').toArray rfl rfl _ _ r9 (by rw [List.size_toArray, rcC_size t' V' HV'.out]; kernel_rfl) (by rw [List.size_toArray, List.size_toArray, rcC_size t' V' HV'.out]; rfl) (all_oneCell_toArray (rcC_one t' V')) ?_)
  obtain ⟨x9, hAz⟩ := rc_store t' V' HV'.out w9 g9 r9
  replace hrd := hrd.up (below_setRow (Below.refl g9 w9) (Nat.le_refl g9) (rcC t' V').toArray)
  replace a0 : RcB _ w.heap.size t V := hAz.keep a0 (by omega)
  replace a1 : RcB _ (w.heap.size + 1) t' V' := hAz.keep a1 (by omega)
  replace hb := below_awG hb hAz (fun k hk => by omega) hb.size
  generalize (w9.setRow g9 (rcC t' V').toArray) = w5 at *
  have hg9 : g9 < w5.heap.size := blk_lt x9
  replace hrd := hrd.more (Nat.le_of_lt hg9)
  have hd2i : (nd : Int) ≤ 67 := by omega
  clear hAz r9 w9
  go_wp2_with fail
  refine Ord.region_m [1, 3, 5, 6, 11] [[0, 1, 2, 3, 4, 5, 6, 7, 8, 9, 10, 11, 12, 13, 14], [0, 1, 2, 3, 4, 5, 11, 6, 7, 8, 9, 10, 12, 13, 14], [0, 1, 2, 3, 11, 4, 5, 6, 7, 8, 9, 10, 12, 13, 14], [0, 1, 11, 2, 3, 4, 5, 6, 7, 8, 9, 10, 12, 13, 14], [11, 0, 1, 2, 3, 4, 5, 6, 7, 8, 9, 10, 12, 13, 14]] (fun w' => Below w5.heap.size w5 w') false [] (by kernel_rfl) (by kernel_rfl) ((Below.refl _ _).drew) ?_
  have hS : Below w5.heap.size w5 w5.drew := (Below.refl _ _).drew
  generalize w5.drew = x0 at *
  intro LL hLL
  simp only [List.mem_cons, List.not_mem_nil, or_false] at hLL
  rcases hLL with rfl | rfl | rfl | rfl | rfl
  · simp only [Ord.lst, List.filterMap_cons, List.filterMap_nil, List.getElem?_toArray, List.getElem?_cons_succ, List.getElem?_cons_zero]
    refine Ord.e_rowS Try.underlying25 rfl (by rw [rcC_size t V HV.out]; kernel_rfl) rfl (by unfold rcC; simp) (fun w' hS => (show RcB w' w.heap.size t V from blk_old a0 (show Below _ w5 w' from hS) (blk_lt a0)).all) hS (by kernel_rfl) ?_
    (try simp only [Act.put, List.setIfInBounds_toArray, List.set_cons_zero, List.set_cons_succ])
    refine Ord.e_x rfl (by kernel_rfl) ?_
    go_wp2_with fail
    have ownA : (x0.alloc (.cells #[] 5)).ownsRow w5.heap.size 5 1 (.slice (some ⟨x0.heap.size, 0, none⟩) 0 0) 0 [] := own_empty x0 _ _ (hS.size) 1
    have hbx : Below x0.heap.size x0 (x0.alloc (.cells #[] 5)) := (Below.refl _ _).alloc (Nat.le_refl _) _
    replace hS := bnx hS hbx
    refine Ord.Seg.go hS (fun h => by cases h) ?_
    (try simp only [Act.put, List.setIfInBounds_toArray, List.set_cons_zero, List.set_cons_succ])
    generalize (x0.alloc (.cells #[] 5)) = x1 at *
    generalize x0.heap.size = gb at *
    clear hbx
    ((with_reducible refine Ord.e_p (v := ?_) ?_ ?_ ?_ ?_); rotate_left; (· exact rfl); (· kernel_rfl); (· intro w2; go_simp; try with_reducible rfl))
    (try simp only [Act.put, List.setIfInBounds_toArray, List.set_cons_zero, List.set_cons_succ])
    refine Ord.e_x rfl (by kernel_rfl) ?_
    refine wpList_appG (base := w5.heap.size) Try.underlying26 Hi.out rfl (by omega) ownA rfl (hrd.up hS) rfl (bv_one _) (k := nd) (by omega) (List.nil_append _) (by unfold maxLen; omega) (by omega) hS.size ?_
    intro AB cB x2 ownB hgr hob
    replace hS := Below.grown hS hgr hS.size (fun j hj => by have := (own_blk ownA hj).1; omega)
    clear hgr hob ownA
    go_wp2_with fail
    refine Ord.Seg.go hS (fun h => by cases h) ?_
    (try simp only [Act.put, List.setIfInBounds_toArray, List.set_cons_zero, List.set_cons_succ])
    ((with_reducible refine Ord.e_p (v := ?_) ?_ ?_ ?_ ?_); rotate_left; (· exact rfl); (· kernel_rfl); (· intro w2; go_simp; try with_reducible rfl))
    (try simp only [Act.put, List.setIfInBounds_toArray, List.set_cons_zero, List.set_cons_succ])
    refine Ord.e_x rfl (by kernel_rfl) ?_
    refine wpList_appG (base := w5.heap.size) Try.underlying26 Hi.out rfl (by omega) ownB rfl (h.up (bnx hb hS)) rfl (bv_one _) (k := nd + n) (rfl) ((bv_app _ _).symm) (by unfold maxLen; omega) (by omega) hS.size ?_
    intro AC cC x3 ownC hgr hob
    replace hS := Below.grown hS hgr hS.size (fun j hj => by have := (own_blk ownB hj).1; omega)
    clear hgr hob ownB
    go_wp2_with fail
    refine Ord.Seg.go hS (fun h => by cases h) ?_
    (try simp only [Act.put, List.setIfInBounds_toArray, List.set_cons_zero, List.set_cons_succ])
    refine Ord.e_x rfl (by kernel_rfl) ?_
    go_wp2_with fail
    go_fit (HK2.out x3 AC (nd + n) cC _ (Rd.own ownC) (Nat.le_refl _) (by omega))
    rintro e x4 ⟨rfl, hbx⟩
    replace hS := bnx hS hbx
    clear hbx ownC
    go_wp2_with fail
    refine Ord.Seg.go hS (fun h => by cases h) ?_
    (try simp only [Act.put, List.setIfInBounds_toArray, List.set_cons_zero, List.set_cons_succ])
    ((with_reducible refine Ord.e_p (v := ?_) ?_ ?_ ?_ ?_); rotate_left; (· exact rfl); (· kernel_rfl); (· intro w2; go_simp; try with_reducible rfl))
    (try simp only [Act.put, List.setIfInBounds_toArray, List.set_cons_zero, List.set_cons_succ])
    ((with_reducible refine Ord.e_p (v := ?_) ?_ ?_ ?_ ?_); rotate_left; (· exact rfl); (· kernel_rfl); (· intro w2; go_simp; try with_reducible rfl))
    (try simp only [Act.put, List.setIfInBounds_toArray, List.set_cons_zero, List.set_cons_succ])
    ((with_reducible refine Ord.e_p (v := ?_) ?_ ?_ ?_ ?_); rotate_left; (· exact rfl); (· kernel_rfl); (· intro w2; go_simp; try with_reducible rfl))
    (try simp only [Act.put, List.setIfInBounds_toArray, List.set_cons_zero, List.set_cons_succ])
    ((with_reducible refine Ord.e_p (v := ?_) ?_ ?_ ?_ ?_); rotate_left; (· exact rfl); (· kernel_rfl); (· intro w2; go_simp; try with_reducible rfl))
    (try simp only [Act.put, List.setIfInBounds_toArray, List.set_cons_zero, List.set_cons_succ])
    refine Ord.e_x rfl (by kernel_rfl) ?_
    go_wp2_with fail
    have hbx : Below x4.heap.size x4 (x4.alloc (.cells #[.int .u32 0, .int .i32 0, .int .i32 0, .int .i32 0, .int .i32 0, .int .i32 0, .int .i32 0, .int .i32 0, .int .i32 0, .int .i32 0, .int .i32 0, .int .i32 0, .int .i32 0] 25)) := (Below.refl _ _).alloc (Nat.le_refl _) _
    have r12 := heap_alloc_new x4 (.cells #[.int .u32 0, .int .i32 0, .int .i32 0, .int .i32 0, .int .i32 0, .int .i32 0, .int .i32 0, .int .i32 0, .int .i32 0, .int .i32 0, .int .i32 0, .int .i32 0, .int .i32 0] 25)
    have hM12 : w5.heap.size ≤ x4.heap.size := hS.size
    replace hS := bnx hS hbx
    refine Ord.Seg.go hS (fun h => by cases h) ?_
    (try simp only [Act.put, List.setIfInBounds_toArray, List.set_cons_zero, List.set_cons_succ])
    generalize (x4.alloc (.cells #[.int .u32 0, .int .i32 0, .int .i32 0, .int .i32 0, .int .i32 0, .int .i32 0, .int .i32 0, .int .i32 0, .int .i32 0, .int .i32 0, .int .i32 0, .int .i32 0, .int .i32 0] 25)) = x5 at *
    generalize x4.heap.size = g12 at *
    clear hbx
    replace r12 : RcB x5 g12 0 z12 := r12
    have hlt12 : g12 < x5.heap.size := blk_lt r12
    refine Ord.e_x rfl (by kernel_rfl) ?_
    replace r12 : RcB x5 g12 0 z12 := r12
    refine wpList_store_row rfl _ _ _ rfl g12 (rcC t' V').toArray rfl rfl _ _ r12 (by rw [List.size_toArray, rcC_size t' V' HV'.out]; kernel_rfl) (by rw [List.size_toArray, List.size_toArray, rcC_size t' V' HV'.out]; rfl) (all_oneCell_toArray (rcC_one t' V')) ?_
    obtain ⟨x12, hAz⟩ := rc_store t' V' HV'.out x5 g12 r12
    replace hS := below_awG hS hAz (fun k hk => by omega) hS.size
    generalize (x5.setRow g12 (rcC t' V').toArray) = wz at *
    go_wp2_with fail
    refine Ord.Seg.go hS (fun h => by cases h) ?_
    (try simp only [Act.put, List.setIfInBounds_toArray, List.set_cons_zero, List.set_cons_succ])
    clear hAz r12 hlt12 hM12
    ((with_reducible refine Ord.e_p (v := ?_) ?_ ?_ ?_ ?_); rotate_left; (· exact rfl); (· kernel_rfl); (· intro w2; go_simp; try with_reducible rfl))
    (try simp only [Act.put, List.setIfInBounds_toArray, List.set_cons_zero, List.set_cons_succ])
    ((with_reducible refine Ord.e_p (v := ?_) ?_ ?_ ?_ ?_); rotate_left; (· exact rfl); (· kernel_rfl); (· intro w2; go_simp; try with_reducible rfl))
    (try simp only [Act.put, List.setIfInBounds_toArray, List.set_cons_zero, List.set_cons_succ])
    refine Ord.e_nil ?_
    replace a1 : RcB wz (w.heap.size + 1) t' V' := blk_old a1 hS (blk_lt a1)
    replace x9 : RcB wz g9 t' V' := blk_old x9 hS (blk_lt x9)
    replace a0 : RcB wz w.heap.size t V := blk_old a0 hS (blk_lt a0)
    replace hb := bnx hb hS
    clear hS hrd hg9
    have q1 := HQ.out
    simp only [and_self, decide_true, Bool.not_true] at q1
    go_wp2_with (first | (with_reducible refine stop_loadT 25 ?_) | (with_reducible refine stop_storeT 25 ?_) | (with_reducible refine stop_loadG 25 ?_))
    refine go_ (wpList_load_mid rfl _ _ rfl g9 0 rfl _ _ x9.all Try.underlying25 rfl (by rw [rcC_size t' V' HV'.out]; kernel_rfl) ?_)
    go_wp2_with (first | (with_reducible refine stop_loadT 25 ?_) | (with_reducible refine stop_storeT 25 ?_) | (with_reducible refine stop_loadG 25 ?_))
    refine go_ (wpList_load_mid rfl _ _ rfl (w.heap.size + 1) 0 rfl _ _ a1.all Try.underlying25 rfl (by rw [rcC_size t' V' HV'.out]; kernel_rfl) ?_)
    go_wp2_with fail
    go_fit (num34_any 0 wz)
    rintro e wn ⟨rfl, rfl⟩
    go_wp2_with (first | (with_reducible refine stop_loadT 25 ?_) | (with_reducible refine stop_storeT 25 ?_) | (with_reducible refine stop_loadG 25 ?_))
    refine go_ (wpList_load_rowG (by kernel_rfl) _ _ rfl g12 rfl _ _ _ _ x12 Try.underlying25 rfl (by rw [List.size_toArray, rcC_size t' V' HV'.out]; kernel_rfl) ?_)
    go_wp2_with (first | (with_reducible refine stop_loadT 25 ?_) | (with_reducible refine stop_storeT 25 ?_) | (with_reducible refine stop_loadG 25 ?_))
    refine go_ (wpList_load_rowG (by kernel_rfl) _ _ rfl (w.heap.size + 1) rfl _ _ _ _ a1 Try.underlying25 rfl (by rw [List.size_toArray, rcC_size t' V' HV'.out]; kernel_rfl) ?_)
    go_wp2_with fail
    go_fit (num34_any 0 wz)
    rintro e wn ⟨rfl, rfl⟩
    clear q1 x9 x12 a1
    go_wp2_with (first | (with_reducible refine stop_loadT 25 ?_) | (with_reducible refine stop_storeT 25 ?_) | (with_reducible refine stop_loadG 25 ?_))
    refine go_ (wpList_load_mid rfl _ _ rfl w.heap.size 0 rfl _ _ a0.all Try.underlying25 rfl (by rw [rcC_size t V HV.out]; kernel_rfl) ?_)
    go_wp2_with fail
    go_fit (HK3.out wz (h.up hb) hb.size)
    rintro e y1 ⟨rfl, hbx⟩
    replace a0 : RcB y1 w.heap.size t V := blk_old a0 hbx (blk_lt a0)
    replace hb := bnx hb hbx
    clear hbx
    go_wp2_with (first | (with_reducible refine stop_loadT 25 ?_) | (with_reducible refine stop_storeT 25 ?_) | (with_reducible refine stop_loadG 25 ?_))
    have hbx : Below y1.heap.size y1 (y1.alloc (.cells #[.int .u32 0, .int .i32 0, .int .i32 0, .int .i32 0, .int .i32 0, .int .i32 0, .int .i32 0, .int .i32 0, .int .i32 0, .int .i32 0, .int .i32 0, .int .i32 0, .int .i32 0] 25)) := (Below.refl _ _).alloc (Nat.le_refl _) _
    have r15 := heap_alloc_new y1 (.cells #[.int .u32 0, .int .i32 0, .int .i32 0, .int .i32 0, .int .i32 0, .int .i32 0, .int .i32 0, .int .i32 0, .int .i32 0, .int .i32 0, .int .i32 0, .int .i32 0, .int .i32 0] 25)
    have lt0 : w.heap.size < y1.heap.size := blk_lt a0
    replace a0 : RcB _ w.heap.size t V := blk_old a0 hbx (blk_lt a0)
    replace hb := bnx hb hbx
    generalize (y1.alloc (.cells #[.int .u32 0, .int .i32 0, .int .i32 0, .int .i32 0, .int .i32 0, .int .i32 0, .int .i32 0, .int .i32 0, .int .i32 0, .int .i32 0, .int .i32 0, .int .i32 0, .int .i32 0] 25)) = y2 at *
    generalize y1.heap.size = g15 at *
    clear hbx
    replace r15 : RcB y2 g15 0 z12 := r15
    refine go_ (wpList_store_row rfl _ _ _ rfl g15 (rcC T3 V3).toArray rfl rfl _ _ r15 (by rw [List.size_toArray, rcC_size T3 V3 Hl3.out]; kernel_rfl) (by rw [List.size_toArray, List.size_toArray, rcC_size T3 V3 Hl3.out]; rfl) (all_oneCell_toArray (rcC_one T3 V3)) ?_)
    obtain ⟨x15, hAz⟩ := rc_store T3 V3 Hl3.out y2 g15 r15
    replace a0 : RcB _ w.heap.size t V := hAz.keep a0 (by omega)
    replace hb := below_awG hb hAz (fun k hk => by omega) hb.size
    generalize (y2.setRow g15 (rcC T3 V3).toArray) = y3 at *
    clear hAz r15
    go_wp2_with fail
    go_fit (num34_any (e5 : Int) y3)
    rintro e wn ⟨rfl, rfl⟩
    by_cases he5 : e5 = 0
    case neg =>
      have he' : ¬ (e5 : Int) = 0 := by omega
      obtain ⟨z1, z2, z3⟩ := Hbad.out he5
      have z2 : V3 = z12 := z2
      subst z1 z2 z3
      have q2 : ∀ w, (binOp .eql 25 (.agg (rcC 0 z12).toArray) (.agg #[.int .u32 0, .int .i32 0, .int .i32 0, .int .i32 0, .int .i32 0, .int .i32 0, .int .i32 0, .int .i32 0, .int .i32 0, .int .i32 0, .int .i32 0, .int .i32 0, .int .i32 0])).run Try.prog w = .ok (.bool true) w := fun w => by
        have := rec_eql 0 0 z12 z12 rfl rfl w
        rw [decide_eq_true ⟨rfl, rfl⟩] at this
        exact this
      have q3 : ∀ w, (binOp .eql 25 (.agg (rcC 0 [0, 0, 0, 0, 0, 0, 0, 0, 0, 0, 0, 0]).toArray) (.agg #[.int .u32 0, .int .i32 0, .int .i32 0, .int .i32 0, .int .i32 0, .int .i32 0, .int .i32 0, .int .i32 0, .int .i32 0, .int .i32 0, .int .i32 0, .int .i32 0, .int .i32 0])).run Try.prog w = .ok (.bool true) w := q2
      clear he5 a0
      go_wp2_with (first | (with_reducible refine stop_loadT 25 ?_) | (with_reducible refine stop_storeT 25 ?_) | (with_reducible refine stop_loadG 25 ?_))
      refine go_ (wpList_load_mid rfl _ _ rfl g15 0 rfl _ _ x15.all Try.underlying25 rfl (by kernel_rfl) ?_)
      clear x15
      go_wp2
      go_ret
      exact ⟨rfl, hb⟩
    subst he5
    obtain ⟨b1, b2, b3, _, _, _⟩ := Hback.out rfl
    rw [Hlb.out] at b2
    have hdel := fun w => HDel3.out w rfl
    rw [b1] at hdel
    have Hdel := Lib.hid hdel
    have hi1 : (n3 : Int) ≤ (n : Int) := by omega
    have hi2 : (2 : Int) ≤ (n3 : Int) := by omega
    have hcut := fun w => run_cut_h (P := Try.prog) Try.underlying26 Hi.out.1 A n c n3 (by omega) w
    clear hdel b1
    go_wp2_with fail
    refine Ord.region_ (fun w' => Below y3.heap.size y3 w') true [111] (by kernel_rfl) (by kernel_rfl) ((Below.refl _ _).drew) ?_
    have hS : Below y3.heap.size y3 y3.drew := (Below.refl _ _).drew
    generalize y3.drew = v0 at *
    ((with_reducible refine Ord.e_p (v := ?_) ?_ ?_ ?_ ?_); rotate_left; (· exact rfl); (· kernel_rfl); (· intro w2; go_simp; try with_reducible rfl))
    (try simp only [Act.put, List.setIfInBounds_toArray, List.set_cons_zero, List.set_cons_succ])
    ((with_reducible refine Ord.e_p (v := ?_) ?_ ?_ ?_ ?_); rotate_left; (· exact rfl); (· kernel_rfl); (· intro w2; go_simp; try with_reducible rfl))
    (try simp only [Act.put, List.setIfInBounds_toArray, List.set_cons_zero, List.set_cons_succ])
    ((with_reducible refine Ord.e_p (v := ?_) ?_ ?_ ?_ ?_); rotate_left; (· exact rfl); (· kernel_rfl); (· intro w2; go_simp; try with_reducible rfl))
    (try simp only [Act.put, List.setIfInBounds_toArray, List.set_cons_zero, List.set_cons_succ])
    ((with_reducible refine Ord.e_p (v := ?_) ?_ ?_ ?_ ?_); rotate_left; (· exact rfl); (· kernel_rfl); (· intro w2; go_simp; try with_reducible rfl))
    (try simp only [Act.put, List.setIfInBounds_toArray, List.set_cons_zero, List.set_cons_succ])
    ((with_reducible refine Ord.e_p (v := ?_) ?_ ?_ ?_ ?_); rotate_left; (· exact rfl); (· kernel_rfl); (· intro w2; go_simp; try with_reducible rfl))
    (try simp only [Act.put, List.setIfInBounds_toArray, List.set_cons_zero, List.set_cons_succ])
    ((with_reducible refine Ord.e_p (v := ?_) ?_ ?_ ?_ ?_); rotate_left; (· exact rfl); (· kernel_rfl); (· intro w2; go_simp; try with_reducible rfl))
    (try simp only [Act.put, List.setIfInBounds_toArray, List.set_cons_zero, List.set_cons_succ])
    ((with_reducible refine Ord.e_p (v := ?_) ?_ ?_ ?_ ?_); rotate_left; (· exact rfl); (· kernel_rfl); (· intro w2; go_simp; try with_reducible rfl))
    (try simp only [Act.put, List.setIfInBounds_toArray, List.set_cons_zero, List.set_cons_succ])
    ((with_reducible refine Ord.e_p (v := ?_) ?_ ?_ ?_ ?_); rotate_left; (· exact rfl); (· kernel_rfl); (· intro w2; go_simp; try with_reducible rfl))
    (try simp only [Act.put, List.setIfInBounds_toArray, List.set_cons_zero, List.set_cons_succ])
    ((with_reducible refine Ord.e_p (v := ?_) ?_ ?_ ?_ ?_); rotate_left; (· exact rfl); (· kernel_rfl); (· intro w2; go_simp; try with_reducible rfl))
    (try simp only [Act.put, List.setIfInBounds_toArray, List.set_cons_zero, List.set_cons_succ])
    refine Ord.e_rowS Try.underlying25 rfl (by rw [rcC_size t V HV.out]; kernel_rfl) rfl (by unfold rcC; simp) (fun w' hS => (show RcB w' w.heap.size t V from blk_old a0 (show Below _ y3 w' from hS) (blk_lt a0)).all) hS (by kernel_rfl) ?_
    (try simp only [Act.put, List.setIfInBounds_toArray, List.set_cons_zero, List.set_cons_succ])
    refine Ord.e_rowS Try.underlying25 rfl (by rw [rcC_size T3 V3 Hl3.out]; kernel_rfl) rfl (by unfold rcC; simp) (fun w' hS => (show RcB w' g15 T3 V3 from blk_old x15 (show Below _ y3 w' from hS) (blk_lt x15)).all) hS (by kernel_rfl) ?_
    (try simp only [Act.put, List.setIfInBounds_toArray, List.set_cons_zero, List.set_cons_succ])
    refine Ord.e_x rfl (by kernel_rfl) ?_
    go_wp2_with fail
    go_fit (Hdel.out v0)
    rintro e v1 ⟨Af, cf, nf, rfl, ownf, hbx⟩
    have hrf := Rd.own ownf
    replace hS := bnx hS hbx
    go_wp2_with fail
    refine Ord.Seg.go hS (fun _ => hbx) ?_
    (try simp only [Act.put, List.setIfInBounds_toArray, List.set_cons_zero, List.set_cons_succ])
    clear ownf
    refine Ord.e_str Try.underlying26 Try.underlying5 Try.underlying9 hrf rfl (by kernel_rfl) (by kernel_rfl) ?_
    (try simp only [Act.put, List.setIfInBounds_toArray, List.set_cons_zero, List.set_cons_succ])
    ((with_reducible refine Ord.e_p (v := ?_) ?_ ?_ ?_ ?_); rotate_left; (· exact rfl); (· kernel_rfl); (· intro w2; go_simp; try with_reducible rfl))
    (try simp only [Act.put, List.setIfInBounds_toArray, List.set_cons_zero, List.set_cons_succ])
    ((with_reducible refine Ord.e_p (v := ?_) ?_ ?_ ?_ ?_); rotate_left; (· exact rfl); (· kernel_rfl); (· intro w2; go_simp; try with_reducible rfl))
    (try simp only [Act.put, List.setIfInBounds_toArray, List.set_cons_zero, List.set_cons_succ])
    ((with_reducible refine Ord.e_p (v := ?_) ?_ ?_ ?_ ?_); rotate_left; (· exact rfl); (· kernel_rfl); (· intro w2; go_simp; try with_reducible rfl))
    (try simp only [Act.put, List.setIfInBounds_toArray, List.set_cons_zero, List.set_cons_succ])
    refine Ord.e_strS Try.underlying26 Try.underlying5 Try.underlying9 (fun w' hS => (h.up (bnx hb (show Below _ y3 w' from hS))).btake (k := n3) b2) hS (bnx hb hS).size rfl (by kernel_rfl) ?_
    (try simp only [Act.put, List.setIfInBounds_toArray, List.set_cons_zero, List.set_cons_succ])
    ((with_reducible refine Ord.e_p (v := ?_) ?_ ?_ ?_ ?_); rotate_left; (· exact rfl); (· kernel_rfl); (· intro w2; go_simp; try with_reducible rfl))
    (try simp only [Act.put, List.setIfInBounds_toArray, List.set_cons_zero, List.set_cons_succ])
    ((with_reducible refine Ord.e_p (v := ?_) ?_ ?_ ?_ ?_); rotate_left; (· exact rfl); (· kernel_rfl); (· intro w2; go_simp; try with_reducible rfl))
    (try simp only [Act.put, List.setIfInBounds_toArray, List.set_cons_zero, List.set_cons_succ])
    ((with_reducible refine Ord.e_p (v := ?_) ?_ ?_ ?_ ?_); rotate_left; (· exact rfl); (· kernel_rfl); (· intro w2; go_simp; try with_reducible rfl))
    (try simp only [Act.put, List.setIfInBounds_toArray, List.set_cons_zero, List.set_cons_succ])
    refine Ord.e_nil ?_
    replace hb := bnx hb hS
    clear hS hbx hrf x15 a0
    go_wp2
    go_ret
    exact ⟨rfl, hb⟩

  · simp only [Ord.lst, List.filterMap_cons, List.filterMap_nil, List.getElem?_toArray, List.getElem?_cons_succ, List.getElem?_cons_zero]
    refine Ord.e_rowS Try.underlying25 rfl (by rw [rcC_size t V HV.out]; kernel_rfl) rfl (by unfold rcC; simp) (fun w' hS => (show RcB w' w.heap.size t V from blk_old a0 (show Below _ w5 w' from hS) (blk_lt a0)).all) hS (by kernel_rfl) ?_
    (try simp only [Act.put, List.setIfInBounds_toArray, List.set_cons_zero, List.set_cons_succ])
    refine Ord.e_x rfl (by kernel_rfl) ?_
    go_wp2_with fail
    have ownA : (x0.alloc (.cells #[] 5)).ownsRow w5.heap.size 5 1 (.slice (some ⟨x0.heap.size, 0, none⟩) 0 0) 0 [] := own_empty x0 _ _ (hS.size) 1
    have hbx : Below x0.heap.size x0 (x0.alloc (.cells #[] 5)) := (Below.refl _ _).alloc (Nat.le_refl _) _
    replace hS := bnx hS hbx
    refine Ord.Seg.go hS (fun h => by cases h) ?_
    (try simp only [Act.put, List.setIfInBounds_toArray, List.set_cons_zero, List.set_cons_succ])
    generalize (x0.alloc (.cells #[] 5)) = x1 at *
    generalize x0.heap.size = gb at *
    clear hbx
    ((with_reducible refine Ord.e_p (v := ?_) ?_ ?_ ?_ ?_); rotate_left; (· exact rfl); (· kernel_rfl); (· intro w2; go_simp; try with_reducible rfl))
    (try simp only [Act.put, List.setIfInBounds_toArray, List.set_cons_zero, List.set_cons_succ])
    refine Ord.e_x rfl (by kernel_rfl) ?_
    refine wpList_appG (base := w5.heap.size) Try.underlying26 Hi.out rfl (by omega) ownA rfl (hrd.up hS) rfl (bv_one _) (k := nd) (by omega) (List.nil_append _) (by unfold maxLen; omega) (by omega) hS.size ?_
    intro AB cB x2 ownB hgr hob
    replace hS := Below.grown hS hgr hS.size (fun j hj => by have := (own_blk ownA hj).1; omega)
    clear hgr hob ownA
    go_wp2_with fail
    refine Ord.Seg.go hS (fun h => by cases h) ?_
    (try simp only [Act.put, List.setIfInBounds_toArray, List.set_cons_zero, List.set_cons_succ])
    ((with_reducible refine Ord.e_p (v := ?_) ?_ ?_ ?_ ?_); rotate_left; (· exact rfl); (· kernel_rfl); (· intro w2; go_simp; try with_reducible rfl))
    (try simp only [Act.put, List.setIfInBounds_toArray, List.set_cons_zero, List.set_cons_succ])
    refine Ord.e_x rfl (by kernel_rfl) ?_
    refine wpList_appG (base := w5.heap.size) Try.underlying26 Hi.out rfl (by omega) ownB rfl (h.up (bnx hb hS)) rfl (bv_one _) (k := nd + n) (rfl) ((bv_app _ _).symm) (by unfold maxLen; omega) (by omega) hS.size ?_
    intro AC cC x3 ownC hgr hob
    replace hS := Below.grown hS hgr hS.size (fun j hj => by have := (own_blk ownB hj).1; omega)
    clear hgr hob ownB
    go_wp2_with fail
    refine Ord.Seg.go hS (fun h => by cases h) ?_
    (try simp only [Act.put, List.setIfInBounds_toArray, List.set_cons_zero, List.set_cons_succ])
    refine Ord.e_x rfl (by kernel_rfl) ?_
    go_wp2_with fail
    have hbx : Below x3.heap.size x3 (x3.alloc (.cells #[.int .u32 0, .int .i32 0, .int .i32 0, .int .i32 0, .int .i32 0, .int .i32 0, .int .i32 0, .int .i32 0, .int .i32 0, .int .i32 0, .int .i32 0, .int .i32 0, .int .i32 0] 25)) := (Below.refl _ _).alloc (Nat.le_refl _) _
    have r12 := heap_alloc_new x3 (.cells #[.int .u32 0, .int .i32 0, .int .i32 0, .int .i32 0, .int .i32 0, .int .i32 0, .int .i32 0, .int .i32 0, .int .i32 0, .int .i32 0, .int .i32 0, .int .i32 0, .int .i32 0] 25)
    have hM12 : w5.heap.size ≤ x3.heap.size := hS.size
    have hne : ∀ j, (Value.slice AC (nd + n) cC).ownBlock = some j → j ≠ x3.heap.size := fun j hj => by have := (own_blk ownC hj).2; omega
    replace ownC := own_up ownC hbx (Nat.le_refl _)
    replace hS := bnx hS hbx
    refine Ord.Seg.go hS (fun h => by cases h) ?_
    (try simp only [Act.put, List.setIfInBounds_toArray, List.set_cons_zero, List.set_cons_succ])
    generalize (x3.alloc (.cells #[.int .u32 0, .int .i32 0, .int .i32 0, .int .i32 0, .int .i32 0, .int .i32 0, .int .i32 0, .int .i32 0, .int .i32 0, .int .i32 0, .int .i32 0, .int .i32 0, .int .i32 0] 25)) = x4 at *
    generalize x3.heap.size = g12 at *
    clear hbx
    replace r12 : RcB x4 g12 0 z12 := r12
    have hlt12 : g12 < x4.heap.size := blk_lt r12
    refine Ord.e_x rfl (by kernel_rfl) ?_
    go_wp2_with fail
    go_fit (HK2.out x4 AC (nd + n) cC _ (Rd.own ownC) (Nat.le_refl _) (by omega))
    rintro e x5 ⟨rfl, hbx⟩
    replace r12 := blk_old r12 hbx (blk_lt r12)
    replace hS := bnx hS hbx
    clear hbx ownC
    go_wp2_with fail
    refine Ord.Seg.go hS (fun h => by cases h) ?_
    (try simp only [Act.put, List.setIfInBounds_toArray, List.set_cons_zero, List.set_cons_succ])
    ((with_reducible refine Ord.e_p (v := ?_) ?_ ?_ ?_ ?_); rotate_left; (· exact rfl); (· kernel_rfl); (· intro w2; go_simp; try with_reducible rfl))
    (try simp only [Act.put, List.setIfInBounds_toArray, List.set_cons_zero, List.set_cons_succ])
    ((with_reducible refine Ord.e_p (v := ?_) ?_ ?_ ?_ ?_); rotate_left; (· exact rfl); (· kernel_rfl); (· intro w2; go_simp; try with_reducible rfl))
    (try simp only [Act.put, List.setIfInBounds_toArray, List.set_cons_zero, List.set_cons_succ])
    ((with_reducible refine Ord.e_p (v := ?_) ?_ ?_ ?_ ?_); rotate_left; (· exact rfl); (· kernel_rfl); (· intro w2; go_simp; try with_reducible rfl))
    (try simp only [Act.put, List.setIfInBounds_toArray, List.set_cons_zero, List.set_cons_succ])
    ((with_reducible refine Ord.e_p (v := ?_) ?_ ?_ ?_ ?_); rotate_left; (· exact rfl); (· kernel_rfl); (· intro w2; go_simp; try with_reducible rfl))
    (try simp only [Act.put, List.setIfInBounds_toArray, List.set_cons_zero, List.set_cons_succ])
    refine Ord.e_x rfl (by kernel_rfl) ?_
    replace r12 : RcB x5 g12 0 z12 := r12
    refine wpList_store_row rfl _ _ _ rfl g12 (rcC t' V').toArray rfl rfl _ _ r12 (by rw [List.size_toArray, rcC_size t' V' HV'.out]; kernel_rfl) (by rw [List.size_toArray, List.size_toArray, rcC_size t' V' HV'.out]; rfl) (all_oneCell_toArray (rcC_one t' V')) ?_
    obtain ⟨x12, hAz⟩ := rc_store t' V' HV'.out x5 g12 r12
    replace hS := below_awG hS hAz (fun k hk => by omega) hS.size
    generalize (x5.setRow g12 (rcC t' V').toArray) = wz at *
    go_wp2_with fail
    refine Ord.Seg.go hS (fun h => by cases h) ?_
    (try simp only [Act.put, List.setIfInBounds_toArray, List.set_cons_zero, List.set_cons_succ])
    clear hAz r12 hlt12 hM12
    ((with_reducible refine Ord.e_p (v := ?_) ?_ ?_ ?_ ?_); rotate_left; (· exact rfl); (· kernel_rfl); (· intro w2; go_simp; try with_reducible rfl))
    (try simp only [Act.put, List.setIfInBounds_toArray, List.set_cons_zero, List.set_cons_succ])
    ((with_reducible refine Ord.e_p (v := ?_) ?_ ?_ ?_ ?_); rotate_left; (· exact rfl); (· kernel_rfl); (· intro w2; go_simp; try with_reducible rfl))
    (try simp only [Act.put, List.setIfInBounds_toArray, List.set_cons_zero, List.set_cons_succ])
    refine Ord.e_nil ?_
    replace a1 : RcB wz (w.heap.size + 1) t' V' := blk_old a1 hS (blk_lt a1)
    replace x9 : RcB wz g9 t' V' := blk_old x9 hS (blk_lt x9)
    replace a0 : RcB wz w.heap.size t V := blk_old a0 hS (blk_lt a0)
    replace hb := bnx hb hS
    clear hS hrd hg9
    have q1 := HQ.out
    simp only [and_self, decide_true, Bool.not_true] at q1
    go_wp2_with (first | (with_reducible refine stop_loadT 25 ?_) | (with_reducible refine stop_storeT 25 ?_) | (with_reducible refine stop_loadG 25 ?_))
    refine go_ (wpList_load_mid rfl _ _ rfl g9 0 rfl _ _ x9.all Try.underlying25 rfl (by rw [rcC_size t' V' HV'.out]; kernel_rfl) ?_)
    go_wp2_with (first | (with_reducible refine stop_loadT 25 ?_) | (with_reducible refine stop_storeT 25 ?_) | (with_reducible refine stop_loadG 25 ?_))
    refine go_ (wpList_load_mid rfl _ _ rfl (w.heap.size + 1) 0 rfl _ _ a1.all Try.underlying25 rfl (by rw [rcC_size t' V' HV'.out]; kernel_rfl) ?_)
    go_wp2_with fail
    go_fit (num34_any 0 wz)
    rintro e wn ⟨rfl, rfl⟩
    go_wp2_with (first | (with_reducible refine stop_loadT 25 ?_) | (with_reducible refine stop_storeT 25 ?_) | (with_reducible refine stop_loadG 25 ?_))
    refine go_ (wpList_load_rowG (by kernel_rfl) _ _ rfl g12 rfl _ _ _ _ x12 Try.underlying25 rfl (by rw [List.size_toArray, rcC_size t' V' HV'.out]; kernel_rfl) ?_)
    go_wp2_with (first | (with_reducible refine stop_loadT 25 ?_) | (with_reducible refine stop_storeT 25 ?_) | (with_reducible refine stop_loadG 25 ?_))
    refine go_ (wpList_load_rowG (by kernel_rfl) _ _ rfl (w.heap.size + 1) rfl _ _ _ _ a1 Try.underlying25 rfl (by rw [List.size_toArray, rcC_size t' V' HV'.out]; kernel_rfl) ?_)
    go_wp2_with fail
    go_fit (num34_any 0 wz)
    rintro e wn ⟨rfl, rfl⟩
    clear q1 x9 x12 a1
    go_wp2_with (first | (with_reducible refine stop_loadT 25 ?_) | (with_reducible refine stop_storeT 25 ?_) | (with_reducible refine stop_loadG 25 ?_))
    refine go_ (wpList_load_mid rfl _ _ rfl w.heap.size 0 rfl _ _ a0.all Try.underlying25 rfl (by rw [rcC_size t V HV.out]; kernel_rfl) ?_)
    go_wp2_with fail
    go_fit (HK3.out wz (h.up hb) hb.size)
    rintro e y1 ⟨rfl, hbx⟩
    replace a0 : RcB y1 w.heap.size t V := blk_old a0 hbx (blk_lt a0)
    replace hb := bnx hb hbx
    clear hbx
    go_wp2_with (first | (with_reducible refine stop_loadT 25 ?_) | (with_reducible refine stop_storeT 25 ?_) | (with_reducible refine stop_loadG 25 ?_))
    have hbx : Below y1.heap.size y1 (y1.alloc (.cells #[.int .u32 0, .int .i32 0, .int .i32 0, .int .i32 0, .int .i32 0, .int .i32 0, .int .i32 0, .int .i32 0, .int .i32 0, .int .i32 0, .int .i32 0, .int .i32 0, .int .i32 0] 25)) := (Below.refl _ _).alloc (Nat.le_refl _) _
    have r15 := heap_alloc_new y1 (.cells #[.int .u32 0, .int .i32 0, .int .i32 0, .int .i32 0, .int .i32 0, .int .i32 0, .int .i32 0, .int .i32 0, .int .i32 0, .int .i32 0, .int .i32 0, .int .i32 0, .int .i32 0] 25)
    have lt0 : w.heap.size < y1.heap.size := blk_lt a0
    replace a0 : RcB _ w.heap.size t V := blk_old a0 hbx (blk_lt a0)
    replace hb := bnx hb hbx
    generalize (y1.alloc (.cells #[.int .u32 0, .int .i32 0, .int .i32 0, .int .i32 0, .int .i32 0, .int .i32 0, .int .i32 0, .int .i32 0, .int .i32 0, .int .i32 0, .int .i32 0, .int .i32 0, .int .i32 0] 25)) = y2 at *
    generalize y1.heap.size = g15 at *
    clear hbx
    replace r15 : RcB y2 g15 0 z12 := r15
    refine go_ (wpList_store_row rfl _ _ _ rfl g15 (rcC T3 V3).toArray rfl rfl _ _ r15 (by rw [List.size_toArray, rcC_size T3 V3 Hl3.out]; kernel_rfl) (by rw [List.size_toArray, List.size_toArray, rcC_size T3 V3 Hl3.out]; rfl) (all_oneCell_toArray (rcC_one T3 V3)) ?_)
    obtain ⟨x15, hAz⟩ := rc_store T3 V3 Hl3.out y2 g15 r15
    replace a0 : RcB _ w.heap.size t V := hAz.keep a0 (by omega)
    replace hb := below_awG hb hAz (fun k hk => by omega) hb.size
    generalize (y2.setRow g15 (rcC T3 V3).toArray) = y3 at *
    clear hAz r15
    go_wp2_with fail
    go_fit (num34_any (e5 : Int) y3)
    rintro e wn ⟨rfl, rfl⟩
    by_cases he5 : e5 = 0
    case neg =>
      have he' : ¬ (e5 : Int) = 0 := by omega
      obtain ⟨z1, z2, z3⟩ := Hbad.out he5
      have z2 : V3 = z12 := z2
      subst z1 z2 z3
      have q2 : ∀ w, (binOp .eql 25 (.agg (rcC 0 z12).toArray) (.agg #[.int .u32 0, .int .i32 0, .int .i32 0, .int .i32 0, .int .i32 0, .int .i32 0, .int .i32 0, .int .i32 0, .int .i32 0, .int .i32 0, .int .i32 0, .int .i32 0, .int .i32 0])).run Try.prog w = .ok (.bool true) w := fun w => by
        have := rec_eql 0 0 z12 z12 rfl rfl w
        rw [decide_eq_true ⟨rfl, rfl⟩] at this
        exact this
      have q3 : ∀ w, (binOp .eql 25 (.agg (rcC 0 [0, 0, 0, 0, 0, 0, 0, 0, 0, 0, 0, 0]).toArray) (.agg #[.int .u32 0, .int .i32 0, .int .i32 0, .int .i32 0, .int .i32 0, .int .i32 0, .int .i32 0, .int .i32 0, .int .i32 0, .int .i32 0, .int .i32 0, .int .i32 0, .int .i32 0])).run Try.prog w = .ok (.bool true) w := q2
      clear he5 a0
      go_wp2_with (first | (with_reducible refine stop_loadT 25 ?_) | (with_reducible refine stop_storeT 25 ?_) | (with_reducible refine stop_loadG 25 ?_))
      refine go_ (wpList_load_mid rfl _ _ rfl g15 0 rfl _ _ x15.all Try.underlying25 rfl (by kernel_rfl) ?_)
      clear x15
      go_wp2
      go_ret
      exact ⟨rfl, hb⟩
    subst he5
    obtain ⟨b1, b2, b3, _, _, _⟩ := Hback.out rfl
    rw [Hlb.out] at b2
    have hdel := fun w => HDel3.out w rfl
    rw [b1] at hdel
    have Hdel := Lib.hid hdel
    have hi1 : (n3 : Int) ≤ (n : Int) := by omega
    have hi2 : (2 : Int) ≤ (n3 : Int) := by omega
    have hcut := fun w => run_cut_h (P := Try.prog) Try.underlying26 Hi.out.1 A n c n3 (by omega) w
    clear hdel b1
    go_wp2_with fail
    refine Ord.region_ (fun w' => Below y3.heap.size y3 w') true [111] (by kernel_rfl) (by kernel_rfl) ((Below.refl _ _).drew) ?_
    have hS : Below y3.heap.size y3 y3.drew := (Below.refl _ _).drew
    generalize y3.drew = v0 at *
    ((with_reducible refine Ord.e_p (v := ?_) ?_ ?_ ?_ ?_); rotate_left; (· exact rfl); (· kernel_rfl); (· intro w2; go_simp; try with_reducible rfl))
    (try simp only [Act.put, List.setIfInBounds_toArray, List.set_cons_zero, List.set_cons_succ])
    ((with_reducible refine Ord.e_p (v := ?_) ?_ ?_ ?_ ?_); rotate_left; (· exact rfl); (· kernel_rfl); (· intro w2; go_simp; try with_reducible rfl))
    (try simp only [Act.put, List.setIfInBounds_toArray, List.set_cons_zero, List.set_cons_succ])
    ((with_reducible refine Ord.e_p (v := ?_) ?_ ?_ ?_ ?_); rotate_left; (· exact rfl); (· kernel_rfl); (· intro w2; go_simp; try with_reducible rfl))
    (try simp only [Act.put, List.setIfInBounds_toArray, List.set_cons_zero, List.set_cons_succ])
    ((with_reducible refine Ord.e_p (v := ?_) ?_ ?_ ?_ ?_); rotate_left; (· exact rfl); (· kernel_rfl); (· intro w2; go_simp; try with_reducible rfl))
    (try simp only [Act.put, List.setIfInBounds_toArray, List.set_cons_zero, List.set_cons_succ])
    ((with_reducible refine Ord.e_p (v := ?_) ?_ ?_ ?_ ?_); rotate_left; (· exact rfl); (· kernel_rfl); (· intro w2; go_simp; try with_reducible rfl))
    (try simp only [Act.put, List.setIfInBounds_toArray, List.set_cons_zero, List.set_cons_succ])
    ((with_reducible refine Ord.e_p (v := ?_) ?_ ?_ ?_ ?_); rotate_left; (· exact rfl); (· kernel_rfl); (· intro w2; go_simp; try with_reducible rfl))
    (try simp only [Act.put, List.setIfInBounds_toArray, List.set_cons_zero, List.set_cons_succ])
    ((with_reducible refine Ord.e_p (v := ?_) ?_ ?_ ?_ ?_); rotate_left; (· exact rfl); (· kernel_rfl); (· intro w2; go_simp; try with_reducible rfl))
    (try simp only [Act.put, List.setIfInBounds_toArray, List.set_cons_zero, List.set_cons_succ])
    ((with_reducible refine Ord.e_p (v := ?_) ?_ ?_ ?_ ?_); rotate_left; (· exact rfl); (· kernel_rfl); (· intro w2; go_simp; try with_reducible rfl))
    (try simp only [Act.put, List.setIfInBounds_toArray, List.set_cons_zero, List.set_cons_succ])
    ((with_reducible refine Ord.e_p (v := ?_) ?_ ?_ ?_ ?_); rotate_left; (· exact rfl); (· kernel_rfl); (· intro w2; go_simp; try with_reducible rfl))
    (try simp only [Act.put, List.setIfInBounds_toArray, List.set_cons_zero, List.set_cons_succ])
    refine Ord.e_rowS Try.underlying25 rfl (by rw [rcC_size t V HV.out]; kernel_rfl) rfl (by unfold rcC; simp) (fun w' hS => (show RcB w' w.heap.size t V from blk_old a0 (show Below _ y3 w' from hS) (blk_lt a0)).all) hS (by kernel_rfl) ?_
    (try simp only [Act.put, List.setIfInBounds_toArray, List.set_cons_zero, List.set_cons_succ])
    refine Ord.e_rowS Try.underlying25 rfl (by rw [rcC_size T3 V3 Hl3.out]; kernel_rfl) rfl (by unfold rcC; simp) (fun w' hS => (show RcB w' g15 T3 V3 from blk_old x15 (show Below _ y3 w' from hS) (blk_lt x15)).all) hS (by kernel_rfl) ?_
    (try simp only [Act.put, List.setIfInBounds_toArray, List.set_cons_zero, List.set_cons_succ])
    refine Ord.e_x rfl (by kernel_rfl) ?_
    go_wp2_with fail
    go_fit (Hdel.out v0)
    rintro e v1 ⟨Af, cf, nf, rfl, ownf, hbx⟩
    have hrf := Rd.own ownf
    replace hS := bnx hS hbx
    go_wp2_with fail
    refine Ord.Seg.go hS (fun _ => hbx) ?_
    (try simp only [Act.put, List.setIfInBounds_toArray, List.set_cons_zero, List.set_cons_succ])
    clear ownf
    refine Ord.e_str Try.underlying26 Try.underlying5 Try.underlying9 hrf rfl (by kernel_rfl) (by kernel_rfl) ?_
    (try simp only [Act.put, List.setIfInBounds_toArray, List.set_cons_zero, List.set_cons_succ])
    ((with_reducible refine Ord.e_p (v := ?_) ?_ ?_ ?_ ?_); rotate_left; (· exact rfl); (· kernel_rfl); (· intro w2; go_simp; try with_reducible rfl))
    (try simp only [Act.put, List.setIfInBounds_toArray, List.set_cons_zero, List.set_cons_succ])
    ((with_reducible refine Ord.e_p (v := ?_) ?_ ?_ ?_ ?_); rotate_left; (· exact rfl); (· kernel_rfl); (· intro w2; go_simp; try with_reducible rfl))
    (try simp only [Act.put, List.setIfInBounds_toArray, List.set_cons_zero, List.set_cons_succ])
    ((with_reducible refine Ord.e_p (v := ?_) ?_ ?_ ?_ ?_); rotate_left; (· exact rfl); (· kernel_rfl); (· intro w2; go_simp; try with_reducible rfl))
    (try simp only [Act.put, List.setIfInBounds_toArray, List.set_cons_zero, List.set_cons_succ])
    refine Ord.e_strS Try.underlying26 Try.underlying5 Try.underlying9 (fun w' hS => (h.up (bnx hb (show Below _ y3 w' from hS))).btake (k := n3) b2) hS (bnx hb hS).size rfl (by kernel_rfl) ?_
    (try simp only [Act.put, List.setIfInBounds_toArray, List.set_cons_zero, List.set_cons_succ])
    ((with_reducible refine Ord.e_p (v := ?_) ?_ ?_ ?_ ?_); rotate_left; (· exact rfl); (· kernel_rfl); (· intro w2; go_simp; try with_reducible rfl))
    (try simp only [Act.put, List.setIfInBounds_toArray, List.set_cons_zero, List.set_cons_succ])
    ((with_reducible refine Ord.e_p (v := ?_) ?_ ?_ ?_ ?_); rotate_left; (· exact rfl); (· kernel_rfl); (· intro w2; go_simp; try with_reducible rfl))
    (try simp only [Act.put, List.setIfInBounds_toArray, List.set_cons_zero, List.set_cons_succ])
    ((with_reducible refine Ord.e_p (v := ?_) ?_ ?_ ?_ ?_); rotate_left; (· exact rfl); (· kernel_rfl); (· intro w2; go_simp; try with_reducible rfl))
    (try simp only [Act.put, List.setIfInBounds_toArray, List.set_cons_zero, List.set_cons_succ])
    refine Ord.e_nil ?_
    replace hb := bnx hb hS
    clear hS hbx hrf x15 a0
    go_wp2
    go_ret
    exact ⟨rfl, hb⟩

  · simp only [Ord.lst, List.filterMap_cons, List.filterMap_nil, List.getElem?_toArray, List.getElem?_cons_succ, List.getElem?_cons_zero]
    refine Ord.e_rowS Try.underlying25 rfl (by rw [rcC_size t V HV.out]; kernel_rfl) rfl (by unfold rcC; simp) (fun w' hS => (show RcB w' w.heap.size t V from blk_old a0 (show Below _ w5 w' from hS) (blk_lt a0)).all) hS (by kernel_rfl) ?_
    (try simp only [Act.put, List.setIfInBounds_toArray, List.set_cons_zero, List.set_cons_succ])
    refine Ord.e_x rfl (by kernel_rfl) ?_
    go_wp2_with fail
    have ownA : (x0.alloc (.cells #[] 5)).ownsRow w5.heap.size 5 1 (.slice (some ⟨x0.heap.size, 0, none⟩) 0 0) 0 [] := own_empty x0 _ _ (hS.size) 1
    have hbx : Below x0.heap.size x0 (x0.alloc (.cells #[] 5)) := (Below.refl _ _).alloc (Nat.le_refl _) _
    replace hS := bnx hS hbx
    refine Ord.Seg.go hS (fun h => by cases h) ?_
    (try simp only [Act.put, List.setIfInBounds_toArray, List.set_cons_zero, List.set_cons_succ])
    generalize (x0.alloc (.cells #[] 5)) = x1 at *
    generalize x0.heap.size = gb at *
    clear hbx
    ((with_reducible refine Ord.e_p (v := ?_) ?_ ?_ ?_ ?_); rotate_left; (· exact rfl); (· kernel_rfl); (· intro w2; go_simp; try with_reducible rfl))
    (try simp only [Act.put, List.setIfInBounds_toArray, List.set_cons_zero, List.set_cons_succ])
    refine Ord.e_x rfl (by kernel_rfl) ?_
    refine wpList_appG (base := w5.heap.size) Try.underlying26 Hi.out rfl (by omega) ownA rfl (hrd.up hS) rfl (bv_one _) (k := nd) (by omega) (List.nil_append _) (by unfold maxLen; omega) (by omega) hS.size ?_
    intro AB cB x2 ownB hgr hob
    replace hS := Below.grown hS hgr hS.size (fun j hj => by have := (own_blk ownA hj).1; omega)
    clear hgr hob ownA
    go_wp2_with fail
    refine Ord.Seg.go hS (fun h => by cases h) ?_
    (try simp only [Act.put, List.setIfInBounds_toArray, List.set_cons_zero, List.set_cons_succ])
    refine Ord.e_x rfl (by kernel_rfl) ?_
    go_wp2_with fail
    have hbx : Below x2.heap.size x2 (x2.alloc (.cells #[.int .u32 0, .int .i32 0, .int .i32 0, .int .i32 0, .int .i32 0, .int .i32 0, .int .i32 0, .int .i32 0, .int .i32 0, .int .i32 0, .int .i32 0, .int .i32 0, .int .i32 0] 25)) := (Below.refl _ _).alloc (Nat.le_refl _) _
    have r12 := heap_alloc_new x2 (.cells #[.int .u32 0, .int .i32 0, .int .i32 0, .int .i32 0, .int .i32 0, .int .i32 0, .int .i32 0, .int .i32 0, .int .i32 0, .int .i32 0, .int .i32 0, .int .i32 0, .int .i32 0] 25)
    have hM12 : w5.heap.size ≤ x2.heap.size := hS.size
    have hne : ∀ j, (Value.slice AB (nd) cB).ownBlock = some j → j ≠ x2.heap.size := fun j hj => by have := (own_blk ownB hj).2; omega
    replace ownB := own_up ownB hbx (Nat.le_refl _)
    replace hS := bnx hS hbx
    refine Ord.Seg.go hS (fun h => by cases h) ?_
    (try simp only [Act.put, List.setIfInBounds_toArray, List.set_cons_zero, List.set_cons_succ])
    generalize (x2.alloc (.cells #[.int .u32 0, .int .i32 0, .int .i32 0, .int .i32 0, .int .i32 0, .int .i32 0, .int .i32 0, .int .i32 0, .int .i32 0, .int .i32 0, .int .i32 0, .int .i32 0, .int .i32 0] 25)) = x3 at *
    generalize x2.heap.size = g12 at *
    clear hbx
    replace r12 : RcB x3 g12 0 z12 := r12
    have hlt12 : g12 < x3.heap.size := blk_lt r12
    ((with_reducible refine Ord.e_p (v := ?_) ?_ ?_ ?_ ?_); rotate_left; (· exact rfl); (· kernel_rfl); (· intro w2; go_simp; try with_reducible rfl))
    (try simp only [Act.put, List.setIfInBounds_toArray, List.set_cons_zero, List.set_cons_succ])
    refine Ord.e_x rfl (by kernel_rfl) ?_
    refine wpList_appG (base := w5.heap.size) Try.underlying26 Hi.out rfl (by omega) ownB rfl (h.up (bnx hb hS)) rfl (bv_one _) (k := nd + n) (rfl) ((bv_app _ _).symm) (by unfold maxLen; omega) (by omega) hS.size ?_
    intro AC cC x4 ownC hgr hob
    have hne2 : ∀ j, (Value.slice AC (nd + n) cC).ownBlock = some j → j ≠ g12 := fun j hj => by
      rcases hob with e | e
      · exact hne j (e.symm.trans hj)
      · have e2 := e.symm.trans hj
        injection e2 with e2
        have := blk_lt r12
        omega
    replace r12 := (hgr.block g12 (blk_lt r12) (fun e => hne g12 e.symm rfl)).trans r12
    replace hne := hne2
    clear hne2
    replace hS := Below.grown hS hgr hS.size (fun j hj => by have := (own_blk ownB hj).1; omega)
    clear hgr hob ownB
    go_wp2_with fail
    refine Ord.Seg.go hS (fun h => by cases h) ?_
    (try simp only [Act.put, List.setIfInBounds_toArray, List.set_cons_zero, List.set_cons_succ])
    refine Ord.e_x rfl (by kernel_rfl) ?_
    go_wp2_with fail
    go_fit (HK2.out x4 AC (nd + n) cC _ (Rd.own ownC) (Nat.le_refl _) (by omega))
    rintro e x5 ⟨rfl, hbx⟩
    replace r12 := blk_old r12 hbx (blk_lt r12)
    replace hS := bnx hS hbx
    clear hbx ownC
    go_wp2_with fail
    refine Ord.Seg.go hS (fun h => by cases h) ?_
    (try simp only [Act.put, List.setIfInBounds_toArray, List.set_cons_zero, List.set_cons_succ])
    ((with_reducible refine Ord.e_p (v := ?_) ?_ ?_ ?_ ?_); rotate_left; (· exact rfl); (· kernel_rfl); (· intro w2; go_simp; try with_reducible rfl))
    (try simp only [Act.put, List.setIfInBounds_toArray, List.set_cons_zero, List.set_cons_succ])
    ((with_reducible refine Ord.e_p (v := ?_) ?_ ?_ ?_ ?_); rotate_left; (· exact rfl); (· kernel_rfl); (· intro w2; go_simp; try with_reducible rfl))
    (try simp only [Act.put, List.setIfInBounds_toArray, List.set_cons_zero, List.set_cons_succ])
    ((with_reducible refine Ord.e_p (v := ?_) ?_ ?_ ?_ ?_); rotate_left; (· exact rfl); (· kernel_rfl); (· intro w2; go_simp; try with_reducible rfl))
    (try simp only [Act.put, List.setIfInBounds_toArray, List.set_cons_zero, List.set_cons_succ])
    ((with_reducible refine Ord.e_p (v := ?_) ?_ ?_ ?_ ?_); rotate_left; (· exact rfl); (· kernel_rfl); (· intro w2; go_simp; try with_reducible rfl))
    (try simp only [Act.put, List.setIfInBounds_toArray, List.set_cons_zero, List.set_cons_succ])
    refine Ord.e_x rfl (by kernel_rfl) ?_
    replace r12 : RcB x5 g12 0 z12 := r12
    refine wpList_store_row rfl _ _ _ rfl g12 (rcC t' V').toArray rfl rfl _ _ r12 (by rw [List.size_toArray, rcC_size t' V' HV'.out]; kernel_rfl) (by rw [List.size_toArray, List.size_toArray, rcC_size t' V' HV'.out]; rfl) (all_oneCell_toArray (rcC_one t' V')) ?_
    obtain ⟨x12, hAz⟩ := rc_store t' V' HV'.out x5 g12 r12
    replace hS := below_awG hS hAz (fun k hk => by omega) hS.size
    generalize (x5.setRow g12 (rcC t' V').toArray) = wz at *
    go_wp2_with fail
    refine Ord.Seg.go hS (fun h => by cases h) ?_
    (try simp only [Act.put, List.setIfInBounds_toArray, List.set_cons_zero, List.set_cons_succ])
    clear hAz r12 hlt12 hM12
    ((with_reducible refine Ord.e_p (v := ?_) ?_ ?_ ?_ ?_); rotate_left; (· exact rfl); (· kernel_rfl); (· intro w2; go_simp; try with_reducible rfl))
    (try simp only [Act.put, List.setIfInBounds_toArray, List.set_cons_zero, List.set_cons_succ])
    ((with_reducible refine Ord.e_p (v := ?_) ?_ ?_ ?_ ?_); rotate_left; (· exact rfl); (· kernel_rfl); (· intro w2; go_simp; try with_reducible rfl))
    (try simp only [Act.put, List.setIfInBounds_toArray, List.set_cons_zero, List.set_cons_succ])
    refine Ord.e_nil ?_
    replace a1 : RcB wz (w.heap.size + 1) t' V' := blk_old a1 hS (blk_lt a1)
    replace x9 : RcB wz g9 t' V' := blk_old x9 hS (blk_lt x9)
    replace a0 : RcB wz w.heap.size t V := blk_old a0 hS (blk_lt a0)
    replace hb := bnx hb hS
    clear hS hrd hg9
    have q1 := HQ.out
    simp only [and_self, decide_true, Bool.not_true] at q1
    go_wp2_with (first | (with_reducible refine stop_loadT 25 ?_) | (with_reducible refine stop_storeT 25 ?_) | (with_reducible refine stop_loadG 25 ?_))
    refine go_ (wpList_load_mid rfl _ _ rfl g9 0 rfl _ _ x9.all Try.underlying25 rfl (by rw [rcC_size t' V' HV'.out]; kernel_rfl) ?_)
    go_wp2_with (first | (with_reducible refine stop_loadT 25 ?_) | (with_reducible refine stop_storeT 25 ?_) | (with_reducible refine stop_loadG 25 ?_))
    refine go_ (wpList_load_mid rfl _ _ rfl (w.heap.size + 1) 0 rfl _ _ a1.all Try.underlying25 rfl (by rw [rcC_size t' V' HV'.out]; kernel_rfl) ?_)
    go_wp2_with fail
    go_fit (num34_any 0 wz)
    rintro e wn ⟨rfl, rfl⟩
    go_wp2_with (first | (with_reducible refine stop_loadT 25 ?_) | (with_reducible refine stop_storeT 25 ?_) | (with_reducible refine stop_loadG 25 ?_))
    refine go_ (wpList_load_rowG (by kernel_rfl) _ _ rfl g12 rfl _ _ _ _ x12 Try.underlying25 rfl (by rw [List.size_toArray, rcC_size t' V' HV'.out]; kernel_rfl) ?_)
    go_wp2_with (first | (with_reducible refine stop_loadT 25 ?_) | (with_reducible refine stop_storeT 25 ?_) | (with_reducible refine stop_loadG 25 ?_))
    refine go_ (wpList_load_rowG (by kernel_rfl) _ _ rfl (w.heap.size + 1) rfl _ _ _ _ a1 Try.underlying25 rfl (by rw [List.size_toArray, rcC_size t' V' HV'.out]; kernel_rfl) ?_)
    go_wp2_with fail
    go_fit (num34_any 0 wz)
    rintro e wn ⟨rfl, rfl⟩
    clear q1 x9 x12 a1
    go_wp2_with (first | (with_reducible refine stop_loadT 25 ?_) | (with_reducible refine stop_storeT 25 ?_) | (with_reducible refine stop_loadG 25 ?_))
    refine go_ (wpList_load_mid rfl _ _ rfl w.heap.size 0 rfl _ _ a0.all Try.underlying25 rfl (by rw [rcC_size t V HV.out]; kernel_rfl) ?_)
    go_wp2_with fail
    go_fit (HK3.out wz (h.up hb) hb.size)
    rintro e y1 ⟨rfl, hbx⟩
    replace a0 : RcB y1 w.heap.size t V := blk_old a0 hbx (blk_lt a0)
    replace hb := bnx hb hbx
    clear hbx
    go_wp2_with (first | (with_reducible refine stop_loadT 25 ?_) | (with_reducible refine stop_storeT 25 ?_) | (with_reducible refine stop_loadG 25 ?_))
    have hbx : Below y1.heap.size y1 (y1.alloc (.cells #[.int .u32 0, .int .i32 0, .int .i32 0, .int .i32 0, .int .i32 0, .int .i32 0, .int .i32 0, .int .i32 0, .int .i32 0, .int .i32 0, .int .i32 0, .int .i32 0, .int .i32 0] 25)) := (Below.refl _ _).alloc (Nat.le_refl _) _
    have r15 := heap_alloc_new y1 (.cells #[.int .u32 0, .int .i32 0, .int .i32 0, .int .i32 0, .int .i32 0, .int .i32 0, .int .i32 0, .int .i32 0, .int .i32 0, .int .i32 0, .int .i32 0, .int .i32 0, .int .i32 0] 25)
    have lt0 : w.heap.size < y1.heap.size := blk_lt a0
    replace a0 : RcB _ w.heap.size t V := blk_old a0 hbx (blk_lt a0)
    replace hb := bnx hb hbx
    generalize (y1.alloc (.cells #[.int .u32 0, .int .i32 0, .int .i32 0, .int .i32 0, .int .i32 0, .int .i32 0, .int .i32 0, .int .i32 0, .int .i32 0, .int .i32 0, .int .i32 0, .int .i32 0, .int .i32 0] 25)) = y2 at *
    generalize y1.heap.size = g15 at *
    clear hbx
    replace r15 : RcB y2 g15 0 z12 := r15
    refine go_ (wpList_store_row rfl _ _ _ rfl g15 (rcC T3 V3).toArray rfl rfl _ _ r15 (by rw [List.size_toArray, rcC_size T3 V3 Hl3.out]; kernel_rfl) (by rw [List.size_toArray, List.size_toArray, rcC_size T3 V3 Hl3.out]; rfl) (all_oneCell_toArray (rcC_one T3 V3)) ?_)
    obtain ⟨x15, hAz⟩ := rc_store T3 V3 Hl3.out y2 g15 r15
    replace a0 : RcB _ w.heap.size t V := hAz.keep a0 (by omega)
    replace hb := below_awG hb hAz (fun k hk => by omega) hb.size
    generalize (y2.setRow g15 (rcC T3 V3).toArray) = y3 at *
    clear hAz r15
    go_wp2_with fail
    go_fit (num34_any (e5 : Int) y3)
    rintro e wn ⟨rfl, rfl⟩
    by_cases he5 : e5 = 0
    case neg =>
      have he' : ¬ (e5 : Int) = 0 := by omega
      obtain ⟨z1, z2, z3⟩ := Hbad.out he5
      have z2 : V3 = z12 := z2
      subst z1 z2 z3
      have q2 : ∀ w, (binOp .eql 25 (.agg (rcC 0 z12).toArray) (.agg #[.int .u32 0, .int .i32 0, .int .i32 0, .int .i32 0, .int .i32 0, .int .i32 0, .int .i32 0, .int .i32 0, .int .i32 0, .int .i32 0, .int .i32 0, .int .i32 0, .int .i32 0])).run Try.prog w = .ok (.bool true) w := fun w => by
        have := rec_eql 0 0 z12 z12 rfl rfl w
        rw [decide_eq_true ⟨rfl, rfl⟩] at this
        exact this
      have q3 : ∀ w, (binOp .eql 25 (.agg (rcC 0 [0, 0, 0, 0, 0, 0, 0, 0, 0, 0, 0, 0]).toArray) (.agg #[.int .u32 0, .int .i32 0, .int .i32 0, .int .i32 0, .int .i32 0, .int .i32 0, .int .i32 0, .int .i32 0, .int .i32 0, .int .i32 0, .int .i32 0, .int .i32 0, .int .i32 0])).run Try.prog w = .ok (.bool true) w := q2
      clear he5 a0
      go_wp2_with (first | (with_reducible refine stop_loadT 25 ?_) | (with_reducible refine stop_storeT 25 ?_) | (with_reducible refine stop_loadG 25 ?_))
      refine go_ (wpList_load_mid rfl _ _ rfl g15 0 rfl _ _ x15.all Try.underlying25 rfl (by kernel_rfl) ?_)
      clear x15
      go_wp2
      go_ret
      exact ⟨rfl, hb⟩
    subst he5
    obtain ⟨b1, b2, b3, _, _, _⟩ := Hback.out rfl
    rw [Hlb.out] at b2
    have hdel := fun w => HDel3.out w rfl
    rw [b1] at hdel
    have Hdel := Lib.hid hdel
    have hi1 : (n3 : Int) ≤ (n : Int) := by omega
    have hi2 : (2 : Int) ≤ (n3 : Int) := by omega
    have hcut := fun w => run_cut_h (P := Try.prog) Try.underlying26 Hi.out.1 A n c n3 (by omega) w
    clear hdel b1
    go_wp2_with fail
    refine Ord.region_ (fun w' => Below y3.heap.size y3 w') true [111] (by kernel_rfl) (by kernel_rfl) ((Below.refl _ _).drew) ?_
    have hS : Below y3.heap.size y3 y3.drew := (Below.refl _ _).drew
    generalize y3.drew = v0 at *
    ((with_reducible refine Ord.e_p (v := ?_) ?_ ?_ ?_ ?_); rotate_left; (· exact rfl); (· kernel_rfl); (· intro w2; go_simp; try with_reducible rfl))
    (try simp only [Act.put, List.setIfInBounds_toArray, List.set_cons_zero, List.set_cons_succ])
    ((with_reducible refine Ord.e_p (v := ?_) ?_ ?_ ?_ ?_); rotate_left; (· exact rfl); (· kernel_rfl); (· intro w2; go_simp; try with_reducible rfl))
    (try simp only [Act.put, List.setIfInBounds_toArray, List.set_cons_zero, List.set_cons_succ])
    ((with_reducible refine Ord.e_p (v := ?_) ?_ ?_ ?_ ?_); rotate_left; (· exact rfl); (· kernel_rfl); (· intro w2; go_simp; try with_reducible rfl))
    (try simp only [Act.put, List.setIfInBounds_toArray, List.set_cons_zero, List.set_cons_succ])
    ((with_reducible refine Ord.e_p (v := ?_) ?_ ?_ ?_ ?_); rotate_left; (· exact rfl); (· kernel_rfl); (· intro w2; go_simp; try with_reducible rfl))
    (try simp only [Act.put, List.setIfInBounds_toArray, List.set_cons_zero, List.set_cons_succ])
    ((with_reducible refine Ord.e_p (v := ?_) ?_ ?_ ?_ ?_); rotate_left; (· exact rfl); (· kernel_rfl); (· intro w2; go_simp; try with_reducible rfl))
    (try simp only [Act.put, List.setIfInBounds_toArray, List.set_cons_zero, List.set_cons_succ])
    ((with_reducible refine Ord.e_p (v := ?_) ?_ ?_ ?_ ?_); rotate_left; (· exact rfl); (· kernel_rfl); (· intro w2; go_simp; try with_reducible rfl))
    (try simp only [Act.put, List.setIfInBounds_toArray, List.set_cons_zero, List.set_cons_succ])
    ((with_reducible refine Ord.e_p (v := ?_) ?_ ?_ ?_ ?_); rotate_left; (· exact rfl); (· kernel_rfl); (· intro w2; go_simp; try with_reducible rfl))
    (try simp only [Act.put, List.setIfInBounds_toArray, List.set_cons_zero, List.set_cons_succ])
    ((with_reducible refine Ord.e_p (v := ?_) ?_ ?_ ?_ ?_); rotate_left; (· exact rfl); (· kernel_rfl); (· intro w2; go_simp; try with_reducible rfl))
    (try simp only [Act.put, List.setIfInBounds_toArray, List.set_cons_zero, List.set_cons_succ])
    ((with_reducible refine Ord.e_p (v := ?_) ?_ ?_ ?_ ?_); rotate_left; (· exact rfl); (· kernel_rfl); (· intro w2; go_simp; try with_reducible rfl))
    (try simp only [Act.put, List.setIfInBounds_toArray, List.set_cons_zero, List.set_cons_succ])
    refine Ord.e_rowS Try.underlying25 rfl (by rw [rcC_size t V HV.out]; kernel_rfl) rfl (by unfold rcC; simp) (fun w' hS => (show RcB w' w.heap.size t V from blk_old a0 (show Below _ y3 w' from hS) (blk_lt a0)).all) hS (by kernel_rfl) ?_
    (try simp only [Act.put, List.setIfInBounds_toArray, List.set_cons_zero, List.set_cons_succ])
    refine Ord.e_rowS Try.underlying25 rfl (by rw [rcC_size T3 V3 Hl3.out]; kernel_rfl) rfl (by unfold rcC; simp) (fun w' hS => (show RcB w' g15 T3 V3 from blk_old x15 (show Below _ y3 w' from hS) (blk_lt x15)).all) hS (by kernel_rfl) ?_
    (try simp only [Act.put, List.setIfInBounds_toArray, List.set_cons_zero, List.set_cons_succ])
    refine Ord.e_x rfl (by kernel_rfl) ?_
    go_wp2_with fail
    go_fit (Hdel.out v0)
    rintro e v1 ⟨Af, cf, nf, rfl, ownf, hbx⟩
    have hrf := Rd.own ownf
    replace hS := bnx hS hbx
    go_wp2_with fail
    refine Ord.Seg.go hS (fun _ => hbx) ?_
    (try simp only [Act.put, List.setIfInBounds_toArray, List.set_cons_zero, List.set_cons_succ])
    clear ownf
    refine Ord.e_str Try.underlying26 Try.underlying5 Try.underlying9 hrf rfl (by kernel_rfl) (by kernel_rfl) ?_
    (try simp only [Act.put, List.setIfInBounds_toArray, List.set_cons_zero, List.set_cons_succ])
    ((with_reducible refine Ord.e_p (v := ?_) ?_ ?_ ?_ ?_); rotate_left; (· exact rfl); (· kernel_rfl); (· intro w2; go_simp; try with_reducible rfl))
    (try simp only [Act.put, List.setIfInBounds_toArray, List.set_cons_zero, List.set_cons_succ])
    ((with_reducible refine Ord.e_p (v := ?_) ?_ ?_ ?_ ?_); rotate_left; (· exact rfl); (· kernel_rfl); (· intro w2; go_simp; try with_reducible rfl))
    (try simp only [Act.put, List.setIfInBounds_toArray, List.set_cons_zero, List.set_cons_succ])
    ((with_reducible refine Ord.e_p (v := ?_) ?_ ?_ ?_ ?_); rotate_left; (· exact rfl); (· kernel_rfl); (· intro w2; go_simp; try with_reducible rfl))
    (try simp only [Act.put, List.setIfInBounds_toArray, List.set_cons_zero, List.set_cons_succ])
    refine Ord.e_strS Try.underlying26 Try.underlying5 Try.underlying9 (fun w' hS => (h.up (bnx hb (show Below _ y3 w' from hS))).btake (k := n3) b2) hS (bnx hb hS).size rfl (by kernel_rfl) ?_
    (try simp only [Act.put, List.setIfInBounds_toArray, List.set_cons_zero, List.set_cons_succ])
    ((with_reducible refine Ord.e_p (v := ?_) ?_ ?_ ?_ ?_); rotate_left; (· exact rfl); (· kernel_rfl); (· intro w2; go_simp; try with_reducible rfl))
    (try simp only [Act.put, List.setIfInBounds_toArray, List.set_cons_zero, List.set_cons_succ])
    ((with_reducible refine Ord.e_p (v := ?_) ?_ ?_ ?_ ?_); rotate_left; (· exact rfl); (· kernel_rfl); (· intro w2; go_simp; try with_reducible rfl))
    (try simp only [Act.put, List.setIfInBounds_toArray, List.set_cons_zero, List.set_cons_succ])
    ((with_reducible refine Ord.e_p (v := ?_) ?_ ?_ ?_ ?_); rotate_left; (· exact rfl); (· kernel_rfl); (· intro w2; go_simp; try with_reducible rfl))
    (try simp only [Act.put, List.setIfInBounds_toArray, List.set_cons_zero, List.set_cons_succ])
    refine Ord.e_nil ?_
    replace hb := bnx hb hS
    clear hS hbx hrf x15 a0
    go_wp2
    go_ret
    exact ⟨rfl, hb⟩

  · simp only [Ord.lst, List.filterMap_cons, List.filterMap_nil, List.getElem?_toArray, List.getElem?_cons_succ, List.getElem?_cons_zero]
    refine Ord.e_rowS Try.underlying25 rfl (by rw [rcC_size t V HV.out]; kernel_rfl) rfl (by unfold rcC; simp) (fun w' hS => (show RcB w' w.heap.size t V from blk_old a0 (show Below _ w5 w' from hS) (blk_lt a0)).all) hS (by kernel_rfl) ?_
    (try simp only [Act.put, List.setIfInBounds_toArray, List.set_cons_zero, List.set_cons_succ])
    refine Ord.e_x rfl (by kernel_rfl) ?_
    go_wp2_with fail
    have ownA : (x0.alloc (.cells #[] 5)).ownsRow w5.heap.size 5 1 (.slice (some ⟨x0.heap.size, 0, none⟩) 0 0) 0 [] := own_empty x0 _ _ (hS.size) 1
    have hbx : Below x0.heap.size x0 (x0.alloc (.cells #[] 5)) := (Below.refl _ _).alloc (Nat.le_refl _) _
    replace hS := bnx hS hbx
    refine Ord.Seg.go hS (fun h => by cases h) ?_
    (try simp only [Act.put, List.setIfInBounds_toArray, List.set_cons_zero, List.set_cons_succ])
    generalize (x0.alloc (.cells #[] 5)) = x1 at *
    generalize x0.heap.size = gb at *
    clear hbx
    refine Ord.e_x rfl (by kernel_rfl) ?_
    go_wp2_with fail
    have hbx : Below x1.heap.size x1 (x1.alloc (.cells #[.int .u32 0, .int .i32 0, .int .i32 0, .int .i32 0, .int .i32 0, .int .i32 0, .int .i32 0, .int .i32 0, .int .i32 0, .int .i32 0, .int .i32 0, .int .i32 0, .int .i32 0] 25)) := (Below.refl _ _).alloc (Nat.le_refl _) _
    have r12 := heap_alloc_new x1 (.cells #[.int .u32 0, .int .i32 0, .int .i32 0, .int .i32 0, .int .i32 0, .int .i32 0, .int .i32 0, .int .i32 0, .int .i32 0, .int .i32 0, .int .i32 0, .int .i32 0, .int .i32 0] 25)
    have hM12 : w5.heap.size ≤ x1.heap.size := hS.size
    have hne : ∀ j, (Value.slice (some ⟨gb, 0, none⟩) 0 0).ownBlock = some j → j ≠ x1.heap.size := fun j hj => by have := (own_blk ownA hj).2; omega
    replace ownA := own_up ownA hbx (Nat.le_refl _)
    replace hS := bnx hS hbx
    refine Ord.Seg.go hS (fun h => by cases h) ?_
    (try simp only [Act.put, List.setIfInBounds_toArray, List.set_cons_zero, List.set_cons_succ])
    generalize (x1.alloc (.cells #[.int .u32 0, .int .i32 0, .int .i32 0, .int .i32 0, .int .i32 0, .int .i32 0, .int .i32 0, .int .i32 0, .int .i32 0, .int .i32 0, .int .i32 0, .int .i32 0, .int .i32 0] 25)) = x2 at *
    generalize x1.heap.size = g12 at *
    clear hbx
    replace r12 : RcB x2 g12 0 z12 := r12
    have hlt12 : g12 < x2.heap.size := blk_lt r12
    ((with_reducible refine Ord.e_p (v := ?_) ?_ ?_ ?_ ?_); rotate_left; (· exact rfl); (· kernel_rfl); (· intro w2; go_simp; try with_reducible rfl))
    (try simp only [Act.put, List.setIfInBounds_toArray, List.set_cons_zero, List.set_cons_succ])
    refine Ord.e_x rfl (by kernel_rfl) ?_
    refine wpList_appG (base := w5.heap.size) Try.underlying26 Hi.out rfl (by omega) ownA rfl (hrd.up hS) rfl (bv_one _) (k := nd) (by omega) (List.nil_append _) (by unfold maxLen; omega) (by omega) hS.size ?_
    intro AB cB x3 ownB hgr hob
    have hne2 : ∀ j, (Value.slice AB (nd) cB).ownBlock = some j → j ≠ g12 := fun j hj => by
      rcases hob with e | e
      · exact hne j (e.symm.trans hj)
      · have e2 := e.symm.trans hj
        injection e2 with e2
        have := blk_lt r12
        omega
    replace r12 := (hgr.block g12 (blk_lt r12) (fun e => hne g12 e.symm rfl)).trans r12
    replace hne := hne2
    clear hne2
    replace hS := Below.grown hS hgr hS.size (fun j hj => by have := (own_blk ownA hj).1; omega)
    clear hgr hob ownA
    go_wp2_with fail
    refine Ord.Seg.go hS (fun h => by cases h) ?_
    (try simp only [Act.put, List.setIfInBounds_toArray, List.set_cons_zero, List.set_cons_succ])
    ((with_reducible refine Ord.e_p (v := ?_) ?_ ?_ ?_ ?_); rotate_left; (· exact rfl); (· kernel_rfl); (· intro w2; go_simp; try with_reducible rfl))
    (try simp only [Act.put, List.setIfInBounds_toArray, List.set_cons_zero, List.set_cons_succ])
    refine Ord.e_x rfl (by kernel_rfl) ?_
    refine wpList_appG (base := w5.heap.size) Try.underlying26 Hi.out rfl (by omega) ownB rfl (h.up (bnx hb hS)) rfl (bv_one _) (k := nd + n) (rfl) ((bv_app _ _).symm) (by unfold maxLen; omega) (by omega) hS.size ?_
    intro AC cC x4 ownC hgr hob
    have hne2 : ∀ j, (Value.slice AC (nd + n) cC).ownBlock = some j → j ≠ g12 := fun j hj => by
      rcases hob with e | e
      · exact hne j (e.symm.trans hj)
      · have e2 := e.symm.trans hj
        injection e2 with e2
        have := blk_lt r12
        omega
    replace r12 := (hgr.block g12 (blk_lt r12) (fun e => hne g12 e.symm rfl)).trans r12
    replace hne := hne2
    clear hne2
    replace hS := Below.grown hS hgr hS.size (fun j hj => by have := (own_blk ownB hj).1; omega)
    clear hgr hob ownB
    go_wp2_with fail
    refine Ord.Seg.go hS (fun h => by cases h) ?_
    (try simp only [Act.put, List.setIfInBounds_toArray, List.set_cons_zero, List.set_cons_succ])
    refine Ord.e_x rfl (by kernel_rfl) ?_
    go_wp2_with fail
    go_fit (HK2.out x4 AC (nd + n) cC _ (Rd.own ownC) (Nat.le_refl _) (by omega))
    rintro e x5 ⟨rfl, hbx⟩
    replace r12 := blk_old r12 hbx (blk_lt r12)
    replace hS := bnx hS hbx
    clear hbx ownC
    go_wp2_with fail
    refine Ord.Seg.go hS (fun h => by cases h) ?_
    (try simp only [Act.put, List.setIfInBounds_toArray, List.set_cons_zero, List.set_cons_succ])
    ((with_reducible refine Ord.e_p (v := ?_) ?_ ?_ ?_ ?_); rotate_left; (· exact rfl); (· kernel_rfl); (· intro w2; go_simp; try with_reducible rfl))
    (try simp only [Act.put, List.setIfInBounds_toArray, List.set_cons_zero, List.set_cons_succ])
    ((with_reducible refine Ord.e_p (v := ?_) ?_ ?_ ?_ ?_); rotate_left; (· exact rfl); (· kernel_rfl); (· intro w2; go_simp; try with_reducible rfl))
    (try simp only [Act.put, List.setIfInBounds_toArray, List.set_cons_zero, List.set_cons_succ])
    ((with_reducible refine Ord.e_p (v := ?_) ?_ ?_ ?_ ?_); rotate_left; (· exact rfl); (· kernel_rfl); (· intro w2; go_simp; try with_reducible rfl))
    (try simp only [Act.put, List.setIfInBounds_toArray, List.set_cons_zero, List.set_cons_succ])
    ((with_reducible refine Ord.e_p (v := ?_) ?_ ?_ ?_ ?_); rotate_left; (· exact rfl); (· kernel_rfl); (· intro w2; go_simp; try with_reducible rfl))
    (try simp only [Act.put, List.setIfInBounds_toArray, List.set_cons_zero, List.set_cons_succ])
    refine Ord.e_x rfl (by kernel_rfl) ?_
    replace r12 : RcB x5 g12 0 z12 := r12
    refine wpList_store_row rfl _ _ _ rfl g12 (rcC t' V').toArray rfl rfl _ _ r12 (by rw [List.size_toArray, rcC_size t' V' HV'.out]; kernel_rfl) (by rw [List.size_toArray, List.size_toArray, rcC_size t' V' HV'.out]; rfl) (all_oneCell_toArray (rcC_one t' V')) ?_
    obtain ⟨x12, hAz⟩ := rc_store t' V' HV'.out x5 g12 r12
    replace hS := below_awG hS hAz (fun k hk => by omega) hS.size
    generalize (x5.setRow g12 (rcC t' V').toArray) = wz at *
    go_wp2_with fail
    refine Ord.Seg.go hS (fun h => by cases h) ?_
    (try simp only [Act.put, List.setIfInBounds_toArray, List.set_cons_zero, List.set_cons_succ])
    clear hAz r12 hlt12 hM12
    ((with_reducible refine Ord.e_p (v := ?_) ?_ ?_ ?_ ?_); rotate_left; (· exact rfl); (· kernel_rfl); (· intro w2; go_simp; try with_reducible rfl))
    (try simp only [Act.put, List.setIfInBounds_toArray, List.set_cons_zero, List.set_cons_succ])
    ((with_reducible refine Ord.e_p (v := ?_) ?_ ?_ ?_ ?_); rotate_left; (· exact rfl); (· kernel_rfl); (· intro w2; go_simp; try with_reducible rfl))
    (try simp only [Act.put, List.setIfInBounds_toArray, List.set_cons_zero, List.set_cons_succ])
    refine Ord.e_nil ?_
    replace a1 : RcB wz (w.heap.size + 1) t' V' := blk_old a1 hS (blk_lt a1)
    replace x9 : RcB wz g9 t' V' := blk_old x9 hS (blk_lt x9)
    replace a0 : RcB wz w.heap.size t V := blk_old a0 hS (blk_lt a0)
    replace hb := bnx hb hS
    clear hS hrd hg9
    have q1 := HQ.out
    simp only [and_self, decide_true, Bool.not_true] at q1
    go_wp2_with (first | (with_reducible refine stop_loadT 25 ?_) | (with_reducible refine stop_storeT 25 ?_) | (with_reducible refine stop_loadG 25 ?_))
    refine go_ (wpList_load_mid rfl _ _ rfl g9 0 rfl _ _ x9.all Try.underlying25 rfl (by rw [rcC_size t' V' HV'.out]; kernel_rfl) ?_)
    go_wp2_with (first | (with_reducible refine stop_loadT 25 ?_) | (with_reducible refine stop_storeT 25 ?_) | (with_reducible refine stop_loadG 25 ?_))
    refine go_ (wpList_load_mid rfl _ _ rfl (w.heap.size + 1) 0 rfl _ _ a1.all Try.underlying25 rfl (by rw [rcC_size t' V' HV'.out]; kernel_rfl) ?_)
    go_wp2_with fail
    go_fit (num34_any 0 wz)
    rintro e wn ⟨rfl, rfl⟩
    go_wp2_with (first | (with_reducible refine stop_loadT 25 ?_) | (with_reducible refine stop_storeT 25 ?_) | (with_reducible refine stop_loadG 25 ?_))
    refine go_ (wpList_load_rowG (by kernel_rfl) _ _ rfl g12 rfl _ _ _ _ x12 Try.underlying25 rfl (by rw [List.size_toArray, rcC_size t' V' HV'.out]; kernel_rfl) ?_)
    go_wp2_with (first | (with_reducible refine stop_loadT 25 ?_) | (with_reducible refine stop_storeT 25 ?_) | (with_reducible refine stop_loadG 25 ?_))
    refine go_ (wpList_load_rowG (by kernel_rfl) _ _ rfl (w.heap.size + 1) rfl _ _ _ _ a1 Try.underlying25 rfl (by rw [List.size_toArray, rcC_size t' V' HV'.out]; kernel_rfl) ?_)
    go_wp2_with fail
    go_fit (num34_any 0 wz)
    rintro e wn ⟨rfl, rfl⟩
    clear q1 x9 x12 a1
    go_wp2_with (first | (with_reducible refine stop_loadT 25 ?_) | (with_reducible refine stop_storeT 25 ?_) | (with_reducible refine stop_loadG 25 ?_))
    refine go_ (wpList_load_mid rfl _ _ rfl w.heap.size 0 rfl _ _ a0.all Try.underlying25 rfl (by rw [rcC_size t V HV.out]; kernel_rfl) ?_)
    go_wp2_with fail
    go_fit (HK3.out wz (h.up hb) hb.size)
    rintro e y1 ⟨rfl, hbx⟩
    replace a0 : RcB y1 w.heap.size t V := blk_old a0 hbx (blk_lt a0)
    replace hb := bnx hb hbx
    clear hbx
    go_wp2_with (first | (with_reducible refine stop_loadT 25 ?_) | (with_reducible refine stop_storeT 25 ?_) | (with_reducible refine stop_loadG 25 ?_))
    have hbx : Below y1.heap.size y1 (y1.alloc (.cells #[.int .u32 0, .int .i32 0, .int .i32 0, .int .i32 0, .int .i32 0, .int .i32 0, .int .i32 0, .int .i32 0, .int .i32 0, .int .i32 0, .int .i32 0, .int .i32 0, .int .i32 0] 25)) := (Below.refl _ _).alloc (Nat.le_refl _) _
    have r15 := heap_alloc_new y1 (.cells #[.int .u32 0, .int .i32 0, .int .i32 0, .int .i32 0, .int .i32 0, .int .i32 0, .int .i32 0, .int .i32 0, .int .i32 0, .int .i32 0, .int .i32 0, .int .i32 0, .int .i32 0] 25)
    have lt0 : w.heap.size < y1.heap.size := blk_lt a0
    replace a0 : RcB _ w.heap.size t V := blk_old a0 hbx (blk_lt a0)
    replace hb := bnx hb hbx
    generalize (y1.alloc (.cells #[.int .u32 0, .int .i32 0, .int .i32 0, .int .i32 0, .int .i32 0, .int .i32 0, .int .i32 0, .int .i32 0, .int .i32 0, .int .i32 0, .int .i32 0, .int .i32 0, .int .i32 0] 25)) = y2 at *
    generalize y1.heap.size = g15 at *
    clear hbx
    replace r15 : RcB y2 g15 0 z12 := r15
    refine go_ (wpList_store_row rfl _ _ _ rfl g15 (rcC T3 V3).toArray rfl rfl _ _ r15 (by rw [List.size_toArray, rcC_size T3 V3 Hl3.out]; kernel_rfl) (by rw [List.size_toArray, List.size_toArray, rcC_size T3 V3 Hl3.out]; rfl) (all_oneCell_toArray (rcC_one T3 V3)) ?_)
    obtain ⟨x15, hAz⟩ := rc_store T3 V3 Hl3.out y2 g15 r15
    replace a0 : RcB _ w.heap.size t V := hAz.keep a0 (by omega)
    replace hb := below_awG hb hAz (fun k hk => by omega) hb.size
    generalize (y2.setRow g15 (rcC T3 V3).toArray) = y3 at *
    clear hAz r15
    go_wp2_with fail
    go_fit (num34_any (e5 : Int) y3)
    rintro e wn ⟨rfl, rfl⟩
    by_cases he5 : e5 = 0
    case neg =>
      have he' : ¬ (e5 : Int) = 0 := by omega
      obtain ⟨z1, z2, z3⟩ := Hbad.out he5
      have z2 : V3 = z12 := z2
      subst z1 z2 z3
      have q2 : ∀ w, (binOp .eql 25 (.agg (rcC 0 z12).toArray) (.agg #[.int .u32 0, .int .i32 0, .int .i32 0, .int .i32 0, .int .i32 0, .int .i32 0, .int .i32 0, .int .i32 0, .int .i32 0, .int .i32 0, .int .i32 0, .int .i32 0, .int .i32 0])).run Try.prog w = .ok (.bool true) w := fun w => by
        have := rec_eql 0 0 z12 z12 rfl rfl w
        rw [decide_eq_true ⟨rfl, rfl⟩] at this
        exact this
      have q3 : ∀ w, (binOp .eql 25 (.agg (rcC 0 [0, 0, 0, 0, 0, 0, 0, 0, 0, 0, 0, 0]).toArray) (.agg #[.int .u32 0, .int .i32 0, .int .i32 0, .int .i32 0, .int .i32 0, .int .i32 0, .int .i32 0, .int .i32 0, .int .i32 0, .int .i32 0, .int .i32 0, .int .i32 0, .int .i32 0])).run Try.prog w = .ok (.bool true) w := q2
      clear he5 a0
      go_wp2_with (first | (with_reducible refine stop_loadT 25 ?_) | (with_reducible refine stop_storeT 25 ?_) | (with_reducible refine stop_loadG 25 ?_))
      refine go_ (wpList_load_mid rfl _ _ rfl g15 0 rfl _ _ x15.all Try.underlying25 rfl (by kernel_rfl) ?_)
      clear x15
      go_wp2
      go_ret
      exact ⟨rfl, hb⟩
    subst he5
    obtain ⟨b1, b2, b3, _, _, _⟩ := Hback.out rfl
    rw [Hlb.out] at b2
    have hdel := fun w => HDel3.out w rfl
    rw [b1] at hdel
    have Hdel := Lib.hid hdel
    have hi1 : (n3 : Int) ≤ (n : Int) := by omega
    have hi2 : (2 : Int) ≤ (n3 : Int) := by omega
    have hcut := fun w => run_cut_h (P := Try.prog) Try.underlying26 Hi.out.1 A n c n3 (by omega) w
    clear hdel b1
    go_wp2_with fail
    refine Ord.region_ (fun w' => Below y3.heap.size y3 w') true [111] (by kernel_rfl) (by kernel_rfl) ((Below.refl _ _).drew) ?_
    have hS : Below y3.heap.size y3 y3.drew := (Below.refl _ _).drew
    generalize y3.drew = v0 at *
    ((with_reducible refine Ord.e_p (v := ?_) ?_ ?_ ?_ ?_); rotate_left; (· exact rfl); (· kernel_rfl); (· intro w2; go_simp; try with_reducible rfl))
    (try simp only [Act.put, List.setIfInBounds_toArray, List.set_cons_zero, List.set_cons_succ])
    ((with_reducible refine Ord.e_p (v := ?_) ?_ ?_ ?_ ?_); rotate_left; (· exact rfl); (· kernel_rfl); (· intro w2; go_simp; try with_reducible rfl))
    (try simp only [Act.put, List.setIfInBounds_toArray, List.set_cons_zero, List.set_cons_succ])
    ((with_reducible refine Ord.e_p (v := ?_) ?_ ?_ ?_ ?_); rotate_left; (· exact rfl); (· kernel_rfl); (· intro w2; go_simp; try with_reducible rfl))
    (try simp only [Act.put, List.setIfInBounds_toArray, List.set_cons_zero, List.set_cons_succ])
    ((with_reducible refine Ord.e_p (v := ?_) ?_ ?_ ?_ ?_); rotate_left; (· exact rfl); (· kernel_rfl); (· intro w2; go_simp; try with_reducible rfl))
    (try simp only [Act.put, List.setIfInBounds_toArray, List.set_cons_zero, List.set_cons_succ])
    ((with_reducible refine Ord.e_p (v := ?_) ?_ ?_ ?_ ?_); rotate_left; (· exact rfl); (· kernel_rfl); (· intro w2; go_simp; try with_reducible rfl))
    (try simp only [Act.put, List.setIfInBounds_toArray, List.set_cons_zero, List.set_cons_succ])
    ((with_reducible refine Ord.e_p (v := ?_) ?_ ?_ ?_ ?_); rotate_left; (· exact rfl); (· kernel_rfl); (· intro w2; go_simp; try with_reducible rfl))
    (try simp only [Act.put, List.setIfInBounds_toArray, List.set_cons_zero, List.set_cons_succ])
    ((with_reducible refine Ord.e_p (v := ?_) ?_ ?_ ?_ ?_); rotate_left; (· exact rfl); (· kernel_rfl); (· intro w2; go_simp; try with_reducible rfl))
    (try simp only [Act.put, List.setIfInBounds_toArray, List.set_cons_zero, List.set_cons_succ])
    ((with_reducible refine Ord.e_p (v := ?_) ?_ ?_ ?_ ?_); rotate_left; (· exact rfl); (· kernel_rfl); (· intro w2; go_simp; try with_reducible rfl))
    (try simp only [Act.put, List.setIfInBounds_toArray, List.set_cons_zero, List.set_cons_succ])
    ((with_reducible refine Ord.e_p (v := ?_) ?_ ?_ ?_ ?_); rotate_left; (· exact rfl); (· kernel_rfl); (· intro w2; go_simp; try with_reducible rfl))
    (try simp only [Act.put, List.setIfInBounds_toArray, List.set_cons_zero, List.set_cons_succ])
    refine Ord.e_rowS Try.underlying25 rfl (by rw [rcC_size t V HV.out]; kernel_rfl) rfl (by unfold rcC; simp) (fun w' hS => (show RcB w' w.heap.size t V from blk_old a0 (show Below _ y3 w' from hS) (blk_lt a0)).all) hS (by kernel_rfl) ?_
    (try simp only [Act.put, List.setIfInBounds_toArray, List.set_cons_zero, List.set_cons_succ])
    refine Ord.e_rowS Try.underlying25 rfl (by rw [rcC_size T3 V3 Hl3.out]; kernel_rfl) rfl (by unfold rcC; simp) (fun w' hS => (show RcB w' g15 T3 V3 from blk_old x15 (show Below _ y3 w' from hS) (blk_lt x15)).all) hS (by kernel_rfl) ?_
    (try simp only [Act.put, List.setIfInBounds_toArray, List.set_cons_zero, List.set_cons_succ])
    refine Ord.e_x rfl (by kernel_rfl) ?_
    go_wp2_with fail
    go_fit (Hdel.out v0)
    rintro e v1 ⟨Af, cf, nf, rfl, ownf, hbx⟩
    have hrf := Rd.own ownf
    replace hS := bnx hS hbx
    go_wp2_with fail
    refine Ord.Seg.go hS (fun _ => hbx) ?_
    (try simp only [Act.put, List.setIfInBounds_toArray, List.set_cons_zero, List.set_cons_succ])
    clear ownf
    refine Ord.e_str Try.underlying26 Try.underlying5 Try.underlying9 hrf rfl (by kernel_rfl) (by kernel_rfl) ?_
    (try simp only [Act.put, List.setIfInBounds_toArray, List.set_cons_zero, List.set_cons_succ])
    ((with_reducible refine Ord.e_p (v := ?_) ?_ ?_ ?_ ?_); rotate_left; (· exact rfl); (· kernel_rfl); (· intro w2; go_simp; try with_reducible rfl))
    (try simp only [Act.put, List.setIfInBounds_toArray, List.set_cons_zero, List.set_cons_succ])
    ((with_reducible refine Ord.e_p (v := ?_) ?_ ?_ ?_ ?_); rotate_left; (· exact rfl); (· kernel_rfl); (· intro w2; go_simp; try with_reducible rfl))
    (try simp only [Act.put, List.setIfInBounds_toArray, List.set_cons_zero, List.set_cons_succ])
    ((with_reducible refine Ord.e_p (v := ?_) ?_ ?_ ?_ ?_); rotate_left; (· exact rfl); (· kernel_rfl); (· intro w2; go_simp; try with_reducible rfl))
    (try simp only [Act.put, List.setIfInBounds_toArray, List.set_cons_zero, List.set_cons_succ])
    refine Ord.e_strS Try.underlying26 Try.underlying5 Try.underlying9 (fun w' hS => (h.up (bnx hb (show Below _ y3 w' from hS))).btake (k := n3) b2) hS (bnx hb hS).size rfl (by kernel_rfl) ?_
    (try simp only [Act.put, List.setIfInBounds_toArray, List.set_cons_zero, List.set_cons_succ])
    ((with_reducible refine Ord.e_p (v := ?_) ?_ ?_ ?_ ?_); rotate_left; (· exact rfl); (· kernel_rfl); (· intro w2; go_simp; try with_reducible rfl))
    (try simp only [Act.put, List.setIfInBounds_toArray, List.set_cons_zero, List.set_cons_succ])
    ((with_reducible refine Ord.e_p (v := ?_) ?_ ?_ ?_ ?_); rotate_left; (· exact rfl); (· kernel_rfl); (· intro w2; go_simp; try with_reducible rfl))
    (try simp only [Act.put, List.setIfInBounds_toArray, List.set_cons_zero, List.set_cons_succ])
    ((with_reducible refine Ord.e_p (v := ?_) ?_ ?_ ?_ ?_); rotate_left; (· exact rfl); (· kernel_rfl); (· intro w2; go_simp; try with_reducible rfl))
    (try simp only [Act.put, List.setIfInBounds_toArray, List.set_cons_zero, List.set_cons_succ])
    refine Ord.e_nil ?_
    replace hb := bnx hb hS
    clear hS hbx hrf x15 a0
    go_wp2
    go_ret
    exact ⟨rfl, hb⟩

  · simp only [Ord.lst, List.filterMap_cons, List.filterMap_nil, List.getElem?_toArray, List.getElem?_cons_succ, List.getElem?_cons_zero]
    refine Ord.e_x rfl (by kernel_rfl) ?_
    go_wp2_with fail
    have hbx : Below x0.heap.size x0 (x0.alloc (.cells #[.int .u32 0, .int .i32 0, .int .i32 0, .int .i32 0, .int .i32 0, .int .i32 0, .int .i32 0, .int .i32 0, .int .i32 0, .int .i32 0, .int .i32 0, .int .i32 0, .int .i32 0] 25)) := (Below.refl _ _).alloc (Nat.le_refl _) _
    have r12 := heap_alloc_new x0 (.cells #[.int .u32 0, .int .i32 0, .int .i32 0, .int .i32 0, .int .i32 0, .int .i32 0, .int .i32 0, .int .i32 0, .int .i32 0, .int .i32 0, .int .i32 0, .int .i32 0, .int .i32 0] 25)
    have hM12 : w5.heap.size ≤ x0.heap.size := hS.size
    replace hS := bnx hS hbx
    refine Ord.Seg.go hS (fun h => by cases h) ?_
    (try simp only [Act.put, List.setIfInBounds_toArray, List.set_cons_zero, List.set_cons_succ])
    generalize (x0.alloc (.cells #[.int .u32 0, .int .i32 0, .int .i32 0, .int .i32 0, .int .i32 0, .int .i32 0, .int .i32 0, .int .i32 0, .int .i32 0, .int .i32 0, .int .i32 0, .int .i32 0, .int .i32 0] 25)) = x1 at *
    generalize x0.heap.size = g12 at *
    clear hbx
    replace r12 : RcB x1 g12 0 z12 := r12
    have hlt12 : g12 < x1.heap.size := blk_lt r12
    refine Ord.e_rowS Try.underlying25 rfl (by rw [rcC_size t V HV.out]; kernel_rfl) rfl (by unfold rcC; simp) (fun w' hS => (show RcB w' w.heap.size t V from blk_old a0 (show Below _ w5 w' from hS) (blk_lt a0)).all) hS (by kernel_rfl) ?_
    (try simp only [Act.put, List.setIfInBounds_toArray, List.set_cons_zero, List.set_cons_succ])
    refine Ord.e_x rfl (by kernel_rfl) ?_
    go_wp2_with fail
    have ownA : (x1.alloc (.cells #[] 5)).ownsRow (g12 + 1) 5 1 (.slice (some ⟨x1.heap.size, 0, none⟩) 0 0) 0 [] := own_empty x1 _ _ (hlt12) 1
    have hbx : Below x1.heap.size x1 (x1.alloc (.cells #[] 5)) := (Below.refl _ _).alloc (Nat.le_refl _) _
    have hlt12 : g12 < _ := blk_lt r12
    replace r12 := blk_old r12 hbx (blk_lt r12)
    replace hS := bnx hS hbx
    refine Ord.Seg.go hS (fun h => by cases h) ?_
    (try simp only [Act.put, List.setIfInBounds_toArray, List.set_cons_zero, List.set_cons_succ])
    generalize (x1.alloc (.cells #[] 5)) = x2 at *
    generalize x1.heap.size = gb at *
    clear hbx
    have hne : ∀ j, (Value.slice (some ⟨gb, 0, none⟩) 0 0).ownBlock = some j → j ≠ g12 := fun j hj => by have := (own_blk ownA hj).1; omega
    ((with_reducible refine Ord.e_p (v := ?_) ?_ ?_ ?_ ?_); rotate_left; (· exact rfl); (· kernel_rfl); (· intro w2; go_simp; try with_reducible rfl))
    (try simp only [Act.put, List.setIfInBounds_toArray, List.set_cons_zero, List.set_cons_succ])
    refine Ord.e_x rfl (by kernel_rfl) ?_
    refine wpList_appG (base := (g12 + 1)) Try.underlying26 Hi.out rfl (by omega) ownA rfl (hrd.up hS) rfl (bv_one _) (k := nd) (by omega) (List.nil_append _) (by unfold maxLen; omega) (by omega) (by have := blk_lt r12; omega) ?_
    intro AB cB x3 ownB hgr hob
    have hne2 : ∀ j, (Value.slice AB (nd) cB).ownBlock = some j → j ≠ g12 := fun j hj => by
      rcases hob with e | e
      · exact hne j (e.symm.trans hj)
      · have e2 := e.symm.trans hj
        injection e2 with e2
        have := blk_lt r12
        omega
    replace r12 := (hgr.block g12 (blk_lt r12) (fun e => hne g12 e.symm rfl)).trans r12
    replace hne := hne2
    clear hne2
    replace hS := Below.grown hS hgr hS.size (fun j hj => by have := (own_blk ownA hj).1; omega)
    clear hgr hob ownA
    go_wp2_with fail
    refine Ord.Seg.go hS (fun h => by cases h) ?_
    (try simp only [Act.put, List.setIfInBounds_toArray, List.set_cons_zero, List.set_cons_succ])
    ((with_reducible refine Ord.e_p (v := ?_) ?_ ?_ ?_ ?_); rotate_left; (· exact rfl); (· kernel_rfl); (· intro w2; go_simp; try with_reducible rfl))
    (try simp only [Act.put, List.setIfInBounds_toArray, List.set_cons_zero, List.set_cons_succ])
    refine Ord.e_x rfl (by kernel_rfl) ?_
    refine wpList_appG (base := (g12 + 1)) Try.underlying26 Hi.out rfl (by omega) ownB rfl (h.up (bnx hb hS)) rfl (bv_one _) (k := nd + n) (rfl) ((bv_app _ _).symm) (by unfold maxLen; omega) (by omega) (by have := blk_lt r12; omega) ?_
    intro AC cC x4 ownC hgr hob
    have hne2 : ∀ j, (Value.slice AC (nd + n) cC).ownBlock = some j → j ≠ g12 := fun j hj => by
      rcases hob with e | e
      · exact hne j (e.symm.trans hj)
      · have e2 := e.symm.trans hj
        injection e2 with e2
        have := blk_lt r12
        omega
    replace r12 := (hgr.block g12 (blk_lt r12) (fun e => hne g12 e.symm rfl)).trans r12
    replace hne := hne2
    clear hne2
    replace hS := Below.grown hS hgr hS.size (fun j hj => by have := (own_blk ownB hj).1; omega)
    clear hgr hob ownB
    go_wp2_with fail
    refine Ord.Seg.go hS (fun h => by cases h) ?_
    (try simp only [Act.put, List.setIfInBounds_toArray, List.set_cons_zero, List.set_cons_succ])
    refine Ord.e_x rfl (by kernel_rfl) ?_
    go_wp2_with fail
    go_fit (HK2.out x4 AC (nd + n) cC _ (Rd.own ownC) (Nat.le_refl _) (by omega))
    rintro e x5 ⟨rfl, hbx⟩
    replace r12 := blk_old r12 hbx (blk_lt r12)
    replace hS := bnx hS hbx
    clear hbx ownC
    go_wp2_with fail
    refine Ord.Seg.go hS (fun h => by cases h) ?_
    (try simp only [Act.put, List.setIfInBounds_toArray, List.set_cons_zero, List.set_cons_succ])
    ((with_reducible refine Ord.e_p (v := ?_) ?_ ?_ ?_ ?_); rotate_left; (· exact rfl); (· kernel_rfl); (· intro w2; go_simp; try with_reducible rfl))
    (try simp only [Act.put, List.setIfInBounds_toArray, List.set_cons_zero, List.set_cons_succ])
    ((with_reducible refine Ord.e_p (v := ?_) ?_ ?_ ?_ ?_); rotate_left; (· exact rfl); (· kernel_rfl); (· intro w2; go_simp; try with_reducible rfl))
    (try simp only [Act.put, List.setIfInBounds_toArray, List.set_cons_zero, List.set_cons_succ])
    ((with_reducible refine Ord.e_p (v := ?_) ?_ ?_ ?_ ?_); rotate_left; (· exact rfl); (· kernel_rfl); (· intro w2; go_simp; try with_reducible rfl))
    (try simp only [Act.put, List.setIfInBounds_toArray, List.set_cons_zero, List.set_cons_succ])
    ((with_reducible refine Ord.e_p (v := ?_) ?_ ?_ ?_ ?_); rotate_left; (· exact rfl); (· kernel_rfl); (· intro w2; go_simp; try with_reducible rfl))
    (try simp only [Act.put, List.setIfInBounds_toArray, List.set_cons_zero, List.set_cons_succ])
    refine Ord.e_x rfl (by kernel_rfl) ?_
    replace r12 : RcB x5 g12 0 z12 := r12
    refine wpList_store_row rfl _ _ _ rfl g12 (rcC t' V').toArray rfl rfl _ _ r12 (by rw [List.size_toArray, rcC_size t' V' HV'.out]; kernel_rfl) (by rw [List.size_toArray, List.size_toArray, rcC_size t' V' HV'.out]; rfl) (all_oneCell_toArray (rcC_one t' V')) ?_
    obtain ⟨x12, hAz⟩ := rc_store t' V' HV'.out x5 g12 r12
    replace hS := below_awG hS hAz (fun k hk => by omega) hS.size
    generalize (x5.setRow g12 (rcC t' V').toArray) = wz at *
    go_wp2_with fail
    refine Ord.Seg.go hS (fun h => by cases h) ?_
    (try simp only [Act.put, List.setIfInBounds_toArray, List.set_cons_zero, List.set_cons_succ])
    clear hAz r12 hlt12 hM12
    ((with_reducible refine Ord.e_p (v := ?_) ?_ ?_ ?_ ?_); rotate_left; (· exact rfl); (· kernel_rfl); (· intro w2; go_simp; try with_reducible rfl))
    (try simp only [Act.put, List.setIfInBounds_toArray, List.set_cons_zero, List.set_cons_succ])
    ((with_reducible refine Ord.e_p (v := ?_) ?_ ?_ ?_ ?_); rotate_left; (· exact rfl); (· kernel_rfl); (· intro w2; go_simp; try with_reducible rfl))
    (try simp only [Act.put, List.setIfInBounds_toArray, List.set_cons_zero, List.set_cons_succ])
    refine Ord.e_nil ?_
    replace a1 : RcB wz (w.heap.size + 1) t' V' := blk_old a1 hS (blk_lt a1)
    replace x9 : RcB wz g9 t' V' := blk_old x9 hS (blk_lt x9)
    replace a0 : RcB wz w.heap.size t V := blk_old a0 hS (blk_lt a0)
    replace hb := bnx hb hS
    clear hS hrd hg9
    have q1 := HQ.out
    simp only [and_self, decide_true, Bool.not_true] at q1
    go_wp2_with (first | (with_reducible refine stop_loadT 25 ?_) | (with_reducible refine stop_storeT 25 ?_) | (with_reducible refine stop_loadG 25 ?_))
    refine go_ (wpList_load_mid rfl _ _ rfl g9 0 rfl _ _ x9.all Try.underlying25 rfl (by rw [rcC_size t' V' HV'.out]; kernel_rfl) ?_)
    go_wp2_with (first | (with_reducible refine stop_loadT 25 ?_) | (with_reducible refine stop_storeT 25 ?_) | (with_reducible refine stop_loadG 25 ?_))
    refine go_ (wpList_load_mid rfl _ _ rfl (w.heap.size + 1) 0 rfl _ _ a1.all Try.underlying25 rfl (by rw [rcC_size t' V' HV'.out]; kernel_rfl) ?_)
    go_wp2_with fail
    go_fit (num34_any 0 wz)
    rintro e wn ⟨rfl, rfl⟩
    go_wp2_with (first | (with_reducible refine stop_loadT 25 ?_) | (with_reducible refine stop_storeT 25 ?_) | (with_reducible refine stop_loadG 25 ?_))
    refine go_ (wpList_load_rowG (by kernel_rfl) _ _ rfl g12 rfl _ _ _ _ x12 Try.underlying25 rfl (by rw [List.size_toArray, rcC_size t' V' HV'.out]; kernel_rfl) ?_)
    go_wp2_with (first | (with_reducible refine stop_loadT 25 ?_) | (with_reducible refine stop_storeT 25 ?_) | (with_reducible refine stop_loadG 25 ?_))
    refine go_ (wpList_load_rowG (by kernel_rfl) _ _ rfl (w.heap.size + 1) rfl _ _ _ _ a1 Try.underlying25 rfl (by rw [List.size_toArray, rcC_size t' V' HV'.out]; kernel_rfl) ?_)
    go_wp2_with fail
    go_fit (num34_any 0 wz)
    rintro e wn ⟨rfl, rfl⟩
    clear q1 x9 x12 a1
    go_wp2_with (first | (with_reducible refine stop_loadT 25 ?_) | (with_reducible refine stop_storeT 25 ?_) | (with_reducible refine stop_loadG 25 ?_))
    refine go_ (wpList_load_mid rfl _ _ rfl w.heap.size 0 rfl _ _ a0.all Try.underlying25 rfl (by rw [rcC_size t V HV.out]; kernel_rfl) ?_)
    go_wp2_with fail
    go_fit (HK3.out wz (h.up hb) hb.size)
    rintro e y1 ⟨rfl, hbx⟩
    replace a0 : RcB y1 w.heap.size t V := blk_old a0 hbx (blk_lt a0)
    replace hb := bnx hb hbx
    clear hbx
    go_wp2_with (first | (with_reducible refine stop_loadT 25 ?_) | (with_reducible refine stop_storeT 25 ?_) | (with_reducible refine stop_loadG 25 ?_))
    have hbx : Below y1.heap.size y1 (y1.alloc (.cells #[.int .u32 0, .int .i32 0, .int .i32 0, .int .i32 0, .int .i32 0, .int .i32 0, .int .i32 0, .int .i32 0, .int .i32 0, .int .i32 0, .int .i32 0, .int .i32 0, .int .i32 0] 25)) := (Below.refl _ _).alloc (Nat.le_refl _) _
    have r15 := heap_alloc_new y1 (.cells #[.int .u32 0, .int .i32 0, .int .i32 0, .int .i32 0, .int .i32 0, .int .i32 0, .int .i32 0, .int .i32 0, .int .i32 0, .int .i32 0, .int .i32 0, .int .i32 0, .int .i32 0] 25)
    have lt0 : w.heap.size < y1.heap.size := blk_lt a0
    replace a0 : RcB _ w.heap.size t V := blk_old a0 hbx (blk_lt a0)
    replace hb := bnx hb hbx
    generalize (y1.alloc (.cells #[.int .u32 0, .int .i32 0, .int .i32 0, .int .i32 0, .int .i32 0, .int .i32 0, .int .i32 0, .int .i32 0, .int .i32 0, .int .i32 0, .int .i32 0, .int .i32 0, .int .i32 0] 25)) = y2 at *
    generalize y1.heap.size = g15 at *
    clear hbx
    replace r15 : RcB y2 g15 0 z12 := r15
    refine go_ (wpList_store_row rfl _ _ _ rfl g15 (rcC T3 V3).toArray rfl rfl _ _ r15 (by rw [List.size_toArray, rcC_size T3 V3 Hl3.out]; kernel_rfl) (by rw [List.size_toArray, List.size_toArray, rcC_size T3 V3 Hl3.out]; rfl) (all_oneCell_toArray (rcC_one T3 V3)) ?_)
    obtain ⟨x15, hAz⟩ := rc_store T3 V3 Hl3.out y2 g15 r15
    replace a0 : RcB _ w.heap.size t V := hAz.keep a0 (by omega)
    replace hb := below_awG hb hAz (fun k hk => by omega) hb.size
    generalize (y2.setRow g15 (rcC T3 V3).toArray) = y3 at *
    clear hAz r15
    go_wp2_with fail
    go_fit (num34_any (e5 : Int) y3)
    rintro e wn ⟨rfl, rfl⟩
    by_cases he5 : e5 = 0
    case neg =>
      have he' : ¬ (e5 : Int) = 0 := by omega
      obtain ⟨z1, z2, z3⟩ := Hbad.out he5
      have z2 : V3 = z12 := z2
      subst z1 z2 z3
      have q2 : ∀ w, (binOp .eql 25 (.agg (rcC 0 z12).toArray) (.agg #[.int .u32 0, .int .i32 0, .int .i32 0, .int .i32 0, .int .i32 0, .int .i32 0, .int .i32 0, .int .i32 0, .int .i32 0, .int .i32 0, .int .i32 0, .int .i32 0, .int .i32 0])).run Try.prog w = .ok (.bool true) w := fun w => by
        have := rec_eql 0 0 z12 z12 rfl rfl w
        rw [decide_eq_true ⟨rfl, rfl⟩] at this
        exact this
      have q3 : ∀ w, (binOp .eql 25 (.agg (rcC 0 [0, 0, 0, 0, 0, 0, 0, 0, 0, 0, 0, 0]).toArray) (.agg #[.int .u32 0, .int .i32 0, .int .i32 0, .int .i32 0, .int .i32 0, .int .i32 0, .int .i32 0, .int .i32 0, .int .i32 0, .int .i32 0, .int .i32 0, .int .i32 0, .int .i32 0])).run Try.prog w = .ok (.bool true) w := q2
      clear he5 a0
      go_wp2_with (first | (with_reducible refine stop_loadT 25 ?_) | (with_reducible refine stop_storeT 25 ?_) | (with_reducible refine stop_loadG 25 ?_))
      refine go_ (wpList_load_mid rfl _ _ rfl g15 0 rfl _ _ x15.all Try.underlying25 rfl (by kernel_rfl) ?_)
      clear x15
      go_wp2
      go_ret
      exact ⟨rfl, hb⟩
    subst he5
    obtain ⟨b1, b2, b3, _, _, _⟩ := Hback.out rfl
    rw [Hlb.out] at b2
    have hdel := fun w => HDel3.out w rfl
    rw [b1] at hdel
    have Hdel := Lib.hid hdel
    have hi1 : (n3 : Int) ≤ (n : Int) := by omega
    have hi2 : (2 : Int) ≤ (n3 : Int) := by omega
    have hcut := fun w => run_cut_h (P := Try.prog) Try.underlying26 Hi.out.1 A n c n3 (by omega) w
    clear hdel b1
    go_wp2_with fail
    refine Ord.region_ (fun w' => Below y3.heap.size y3 w') true [111] (by kernel_rfl) (by kernel_rfl) ((Below.refl _ _).drew) ?_
    have hS : Below y3.heap.size y3 y3.drew := (Below.refl _ _).drew
    generalize y3.drew = v0 at *
    ((with_reducible refine Ord.e_p (v := ?_) ?_ ?_ ?_ ?_); rotate_left; (· exact rfl); (· kernel_rfl); (· intro w2; go_simp; try with_reducible rfl))
    (try simp only [Act.put, List.setIfInBounds_toArray, List.set_cons_zero, List.set_cons_succ])
    ((with_reducible refine Ord.e_p (v := ?_) ?_ ?_ ?_ ?_); rotate_left; (· exact rfl); (· kernel_rfl); (· intro w2; go_simp; try with_reducible rfl))
    (try simp only [Act.put, List.setIfInBounds_toArray, List.set_cons_zero, List.set_cons_succ])
    ((with_reducible refine Ord.e_p (v := ?_) ?_ ?_ ?_ ?_); rotate_left; (· exact rfl); (· kernel_rfl); (· intro w2; go_simp; try with_reducible rfl))
    (try simp only [Act.put, List.setIfInBounds_toArray, List.set_cons_zero, List.set_cons_succ])
    ((with_reducible refine Ord.e_p (v := ?_) ?_ ?_ ?_ ?_); rotate_left; (· exact rfl); (· kernel_rfl); (· intro w2; go_simp; try with_reducible rfl))
    (try simp only [Act.put, List.setIfInBounds_toArray, List.set_cons_zero, List.set_cons_succ])
    ((with_reducible refine Ord.e_p (v := ?_) ?_ ?_ ?_ ?_); rotate_left; (· exact rfl); (· kernel_rfl); (· intro w2; go_simp; try with_reducible rfl))
    (try simp only [Act.put, List.setIfInBounds_toArray, List.set_cons_zero, List.set_cons_succ])
    ((with_reducible refine Ord.e_p (v := ?_) ?_ ?_ ?_ ?_); rotate_left; (· exact rfl); (· kernel_rfl); (· intro w2; go_simp; try with_reducible rfl))
    (try simp only [Act.put, List.setIfInBounds_toArray, List.set_cons_zero, List.set_cons_succ])
    ((with_reducible refine Ord.e_p (v := ?_) ?_ ?_ ?_ ?_); rotate_left; (· exact rfl); (· kernel_rfl); (· intro w2; go_simp; try with_reducible rfl))
    (try simp only [Act.put, List.setIfInBounds_toArray, List.set_cons_zero, List.set_cons_succ])
    ((with_reducible refine Ord.e_p (v := ?_) ?_ ?_ ?_ ?_); rotate_left; (· exact rfl); (· kernel_rfl); (· intro w2; go_simp; try with_reducible rfl))
    (try simp only [Act.put, List.setIfInBounds_toArray, List.set_cons_zero, List.set_cons_succ])
    ((with_reducible refine Ord.e_p (v := ?_) ?_ ?_ ?_ ?_); rotate_left; (· exact rfl); (· kernel_rfl); (· intro w2; go_simp; try with_reducible rfl))
    (try simp only [Act.put, List.setIfInBounds_toArray, List.set_cons_zero, List.set_cons_succ])
    refine Ord.e_rowS Try.underlying25 rfl (by rw [rcC_size t V HV.out]; kernel_rfl) rfl (by unfold rcC; simp) (fun w' hS => (show RcB w' w.heap.size t V from blk_old a0 (show Below _ y3 w' from hS) (blk_lt a0)).all) hS (by kernel_rfl) ?_
    (try simp only [Act.put, List.setIfInBounds_toArray, List.set_cons_zero, List.set_cons_succ])
    refine Ord.e_rowS Try.underlying25 rfl (by rw [rcC_size T3 V3 Hl3.out]; kernel_rfl) rfl (by unfold rcC; simp) (fun w' hS => (show RcB w' g15 T3 V3 from blk_old x15 (show Below _ y3 w' from hS) (blk_lt x15)).all) hS (by kernel_rfl) ?_
    (try simp only [Act.put, List.setIfInBounds_toArray, List.set_cons_zero, List.set_cons_succ])
    refine Ord.e_x rfl (by kernel_rfl) ?_
    go_wp2_with fail
    go_fit (Hdel.out v0)
    rintro e v1 ⟨Af, cf, nf, rfl, ownf, hbx⟩
    have hrf := Rd.own ownf
    replace hS := bnx hS hbx
    go_wp2_with fail
    refine Ord.Seg.go hS (fun _ => hbx) ?_
    (try simp only [Act.put, List.setIfInBounds_toArray, List.set_cons_zero, List.set_cons_succ])
    clear ownf
    refine Ord.e_str Try.underlying26 Try.underlying5 Try.underlying9 hrf rfl (by kernel_rfl) (by kernel_rfl) ?_
    (try simp only [Act.put, List.setIfInBounds_toArray, List.set_cons_zero, List.set_cons_succ])
    ((with_reducible refine Ord.e_p (v := ?_) ?_ ?_ ?_ ?_); rotate_left; (· exact rfl); (· kernel_rfl); (· intro w2; go_simp; try with_reducible rfl))
    (try simp only [Act.put, List.setIfInBounds_toArray, List.set_cons_zero, List.set_cons_succ])
    ((with_reducible refine Ord.e_p (v := ?_) ?_ ?_ ?_ ?_); rotate_left; (· exact rfl); (· kernel_rfl); (· intro w2; go_simp; try with_reducible rfl))
    (try simp only [Act.put, List.setIfInBounds_toArray, List.set_cons_zero, List.set_cons_succ])
    ((with_reducible refine Ord.e_p (v := ?_) ?_ ?_ ?_ ?_); rotate_left; (· exact rfl); (· kernel_rfl); (· intro w2; go_simp; try with_reducible rfl))
    (try simp only [Act.put, List.setIfInBounds_toArray, List.set_cons_zero, List.set_cons_succ])
    refine Ord.e_strS Try.underlying26 Try.underlying5 Try.underlying9 (fun w' hS => (h.up (bnx hb (show Below _ y3 w' from hS))).btake (k := n3) b2) hS (bnx hb hS).size rfl (by kernel_rfl) ?_
    (try simp only [Act.put, List.setIfInBounds_toArray, List.set_cons_zero, List.set_cons_succ])
    ((with_reducible refine Ord.e_p (v := ?_) ?_ ?_ ?_ ?_); rotate_left; (· exact rfl); (· kernel_rfl); (· intro w2; go_simp; try with_reducible rfl))
    (try simp only [Act.put, List.setIfInBounds_toArray, List.set_cons_zero, List.set_cons_succ])
    ((with_reducible refine Ord.e_p (v := ?_) ?_ ?_ ?_ ?_); rotate_left; (· exact rfl); (· kernel_rfl); (· intro w2; go_simp; try with_reducible rfl))
    (try simp only [Act.put, List.setIfInBounds_toArray, List.set_cons_zero, List.set_cons_succ])
    ((with_reducible refine Ord.e_p (v := ?_) ?_ ?_ ?_ ?_); rotate_left; (· exact rfl); (· kernel_rfl); (· intro w2; go_simp; try with_reducible rfl))
    (try simp only [Act.put, List.setIfInBounds_toArray, List.set_cons_zero, List.set_cons_succ])
    refine Ord.e_nil ?_
    replace hb := bnx hb hS
    clear hS hbx hrf x15 a0
    go_wp2
    go_ret
    exact ⟨rfl, hb⟩


end Go.Proofs.Ytplgcfjcdjlnbaa
