/-
  The law UbxBack walked (printed by gen_ubx14.py).
-/
import Derived.Test.YtmkidihcdljkiaaGreatKBGUB
import Derived.Test.YtmkidihcdljkiaaGreatKBUbx5P
set_option linter.unusedSimpArgs false
set_option linter.unusedVariables false
namespace Go.Proofs.YtmkidihcdljkiaaGreat
open Go.RowKit NumLaw
attribute [local go_sem] Addr.add_mid

theorem ubEP_len (V : UbV) : (ubEP V).length ≤ 1024 := by
  unfold ubEP
  split
  · unfold putB
    split
    · rename_i h
      rw [frB_len]
      unfold putE at h
      split at h
      · cases h
      · split at h
        · cases h
        · omega
    · simp
  · simp
theorem ubB_all' {w : World} {g : Nat} {V : UbV} {a : UbA} (h : UbB w g V a) : w.rangeAt g 0 (ubL V a) := h.range (fun j v hv => by rwa [Nat.zero_add])

set_option maxRecDepth 20000 in
set_option maxHeartbeats 8000000 in
theorem ubxback_no1 (V : UbV) (a : UbA) (A' : Option Addr) (n' cap' : Nat) (m : List UInt8) (w : World) (h : UbOk V) (hr : UbR w w.heap.size V a) (h' : Rd w w.heap.size 1 A' n' cap' (bv m)) (g : ¬ a.n ≤ 70) :
    Calls Tryz.prog 5 #[.agg (ubL V a).toArray, .slice A' n' cap'] w fun e w' => e = .returned (.bool true) ∧ Below w.heap.size w w' := by
  have hb := (Below.refl w.heap.size w).alloc (Nat.le_refl _) (.cells (ubL V a).toArray 35)
  have hx : UbB (w.alloc (.cells (ubL V a).toArray 35)) w.heap.size V a := heap_alloc_new _ _
  have Hsz := Lib.hid (ub_size V a h.pl h.dl)
  have Hfew := Lib.hid (fun w0 => few21_no1 V a w0 h.pl h.dl g)
  clear h hr h' g
  go_enter Tryz.func5, Tryz.ntmps5
  go_wp2_with (first | (with_reducible refine stop_loadT 35 ?_) | (with_reducible refine stop_storeT 35 ?_) | (with_reducible refine stop_loadG 35 ?_))
  generalize (w.alloc (.cells (ubL V a).toArray 35)) = w1 at *
  refine go_ (wpList_load_row rfl _ _ rfl w.heap.size rfl _ _ _ _ hx Tryz.underlying35 rfl Hsz.out ?_)
  go_wp2_with fail
  go_fit (Hfew.out w1)
  rintro e w2 ⟨rfl, hb2⟩
  replace hb := bnx hb hb2
  clear hb2 hx
  go_wp2_with fail
  go_fit (knows21 w2)
  rintro e w3 ⟨rfl, hb3⟩
  replace hb := bnx hb hb3
  clear hb3
  go_wp2
  go_ret
  exact ⟨rfl, hb⟩

set_option maxRecDepth 20000 in
set_option maxHeartbeats 8000000 in
theorem ubxback_no2 (V : UbV) (a : UbA) (A' : Option Addr) (n' cap' : Nat) (m : List UInt8) (w : World) (h : UbOk V) (hr : UbR w w.heap.size V a) (h' : Rd w w.heap.size 1 A' n' cap' (bv m)) (g1 : a.n ≤ 70) (g : ¬ a.n' ≤ 40) :
    Calls Tryz.prog 5 #[.agg (ubL V a).toArray, .slice A' n' cap'] w fun e w' => e = .returned (.bool true) ∧ Below w.heap.size w w' := by
  have hb := (Below.refl w.heap.size w).alloc (Nat.le_refl _) (.cells (ubL V a).toArray 35)
  have hx : UbB (w.alloc (.cells (ubL V a).toArray 35)) w.heap.size V a := heap_alloc_new _ _
  have Hsz := Lib.hid (ub_size V a h.pl h.dl)
  have Hfew := Lib.hid (fun w0 => few21_no2 V a w0 h.pl h.dl g1 g)
  clear h hr h' g g1
  go_enter Tryz.func5, Tryz.ntmps5
  go_wp2_with (first | (with_reducible refine stop_loadT 35 ?_) | (with_reducible refine stop_storeT 35 ?_) | (with_reducible refine stop_loadG 35 ?_))
  generalize (w.alloc (.cells (ubL V a).toArray 35)) = w1 at *
  refine go_ (wpList_load_row rfl _ _ rfl w.heap.size rfl _ _ _ _ hx Tryz.underlying35 rfl Hsz.out ?_)
  go_wp2_with fail
  go_fit (Hfew.out w1)
  rintro e w2 ⟨rfl, hb2⟩
  replace hb := bnx hb hb2
  clear hb2 hx
  go_wp2_with fail
  go_fit (knows21 w2)
  rintro e w3 ⟨rfl, hb3⟩
  replace hb := bnx hb hb3
  clear hb3
  go_wp2
  go_ret
  exact ⟨rfl, hb⟩

set_option maxRecDepth 20000 in
set_option maxHeartbeats 8000000 in
theorem ubxback_no3 (V : UbV) (a : UbA) (A' : Option Addr) (n' cap' : Nat) (m : List UInt8) (w : World) (h : UbOk V) (hr : UbR w w.heap.size V a) (h' : Rd w w.heap.size 1 A' n' cap' (bv m)) (g1 : a.n ≤ 70) (g2 : a.n' ≤ 40) (g : 1100 < n') :
    Calls Tryz.prog 5 #[.agg (ubL V a).toArray, .slice A' n' cap'] w fun e w' => e = .returned (.bool true) ∧ Below w.heap.size w w' := by
  have hb := (Below.refl w.heap.size w).alloc (Nat.le_refl _) (.cells (ubL V a).toArray 35)
  have hx : UbB (w.alloc (.cells (ubL V a).toArray 35)) w.heap.size V a := heap_alloc_new _ _
  have Hsz := Lib.hid (ub_size V a h.pl h.dl)
  have Hfew := Lib.hid (fun w0 => few21_yes V a w0 h.pl h.dl g1 g2)
  have g' : (1100 : Int) < (n' : Int) := by omega
  clear h hr h' g g1 g2
  go_enter Tryz.func5, Tryz.ntmps5
  go_wp2_with (first | (with_reducible refine stop_loadT 35 ?_) | (with_reducible refine stop_storeT 35 ?_) | (with_reducible refine stop_loadG 35 ?_))
  generalize (w.alloc (.cells (ubL V a).toArray 35)) = w1 at *
  refine go_ (wpList_load_row rfl _ _ rfl w.heap.size rfl _ _ _ _ hx Tryz.underlying35 rfl Hsz.out ?_)
  go_wp2_with fail
  go_fit (Hfew.out w1)
  rintro e w2 ⟨rfl, hb2⟩
  replace hb := bnx hb hb2
  clear hb2 hx
  go_wp2_with fail
  go_fit (knows21 w2)
  rintro e w3 ⟨rfl, hb3⟩
  replace hb := bnx hb hb3
  clear hb3
  go_wp2
  go_ret
  exact ⟨rfl, hb⟩

set_option maxRecDepth 20000 in
set_option maxHeartbeats 8000000 in
theorem ubxback_yes (V : UbV) (a : UbA) (A' : Option Addr) (n' cap' : Nat) (m : List UInt8) (w : World) (h : UbOk V) (hr : UbR w w.heap.size V a) (h' : Rd w w.heap.size 1 A' n' cap' (bv m)) (g1 : a.n ≤ 70) (g2 : a.n' ≤ 40) (g : ¬ 1100 < n') :
    Calls Tryz.prog 5 #[.agg (ubL V a).toArray, .slice A' n' cap'] w fun e w' => e = .returned (.bool true) ∧ Below w.heap.size w w' := by
  have hb := (Below.refl w.heap.size w).alloc (Nat.le_refl _) (.cells (ubL V a).toArray 35)
  have hx : UbB (w.alloc (.cells (ubL V a).toArray 35)) w.heap.size V a := heap_alloc_new _ _
  have Hsz := Lib.hid (ub_size V a h.pl h.dl)
  replace hr := (hr.up hb).more hb.size
  replace h' := h'.nx hb
  have HszL : Hid ((Tryz.prog.info? 35).map (·.size) = some (ubL V a).length) := Lib.hid (by rw [ubL_len h.pl h.dl]; kernel_rfl)
  have Hfew := Lib.hid (fun w0 => few21_yes V a w0 h.pl h.dl g1 g2)
  have Hen := Lib.hid (fun w hr => ubEncode_any V a h w hr)
  have Hpl := Lib.hid (fun w hr => ubPlain_any V a h w hr ⟨by omega, by omega⟩)
  have Huok := Lib.hid (ubPlain_ok h)
  have Hth := Lib.hid (fun he => @ubD_there V m h.pl he)
  have Hnt := Lib.hid (@ubEP_none V)
  have hl1024 := ubEP_len V
  have g' : ¬ (1100 : Int) < (n' : Int) := by omega
  generalize ubEP V = EP at *
  generalize ubEE V = EE at *
  generalize ubPlain V = UP at *
  obtain ⟨i0, hi⟩ := info_parts u8_info
  have Hi := Lib.hid hi
  clear h g1 g2 hi
  go_enter Tryz.func5, Tryz.ntmps5
  go_wp2_with (first | (with_reducible refine stop_loadT 35 ?_) | (with_reducible refine stop_storeT 35 ?_) | (with_reducible refine stop_loadG 35 ?_))
  generalize (w.alloc (.cells (ubL V a).toArray 35)) = w1 at *
  refine go_ (wpList_load_row rfl _ _ rfl w.heap.size rfl _ _ _ _ hx Tryz.underlying35 rfl Hsz.out ?_)
  go_wp2_with fail
  go_fit (Hfew.out w1)
  rintro e w2 ⟨rfl, hb2⟩
  replace hx := hx.old hb2 (blk_lt hx)
  replace hr := (hr.up hb2).more hb2.size
  replace h' := h'.nx hb2
  replace hb := bnx hb hb2
  clear hb2
  go_wp2_with fail
  go_fit (knows21 w2)
  rintro e w3 ⟨rfl, hb3⟩
  replace hx := hx.old hb3 (blk_lt hx)
  replace hr := (hr.up hb3).more hb3.size
  replace h' := h'.nx hb3
  replace hb := bnx hb hb3
  clear hb3
  go_wp2_with (first | (with_reducible refine stop_loadT 35 ?_) | (with_reducible refine stop_storeT 35 ?_) | (with_reducible refine stop_loadG 35 ?_))
  refine go_ (wpList_load_row rfl _ _ rfl w.heap.size rfl _ _ _ _ hx Tryz.underlying35 rfl Hsz.out ?_)
  go_wp2_with fail
  go_fit (Hen.out w3 hr)
  rintro e w4 ⟨Ap, np, kp, rfl, own2, hb4⟩
  have hrp := Rd.own own2
  have hlp := own_len own2
  clear own2
  replace hx := hx.old hb4 (blk_lt hx)
  replace hr := (hr.up hb4).more hb4.size
  replace h' := h'.nx hb4
  replace hb := bnx hb hb4
  clear hb4
  go_wp2_with (at_builtin; refine stop_ ?_)
  obtain ⟨g3, hz3⟩ : ∃ g, w4.heap.size = g := ⟨_, rfl⟩
  rw [hz3]
  have own0 := own_empty w4 w4.heap.size 5 (Nat.le_refl _) 1
  have hc4 : Below w4.heap.size w4 (w4.alloc (.cells #[] 5)) := (Below.refl _ _).alloc (Nat.le_refl _) _
  have hr4 := hrp.up hc4
  rw [hz3] at own0
  have Hz3 := Lib.hid hz3
  clear hz3
  generalize (w4.alloc (.cells #[] 5)) = w5 at *
  refine go_ (wpList_appG (base := g3) (n := 0) Tryz.underlying38 Hi.out rfl (by omega) own0 rfl hr4 rfl (bv_one _) (k := np) (by omega) (List.nil_append _) (by unfold maxLen; omega) (by omega) (by rw [← Hz3.out]; exact hc4.size) ?_)
  intro A5 c5 w6 own5 hgr hob
  have hc5 := Below.grown hc4 hgr hc4.size (fun j hj => by rw [Hz3.out]; exact (own_blk own0 hj).1)
  clear hgr hob own0 hc4 hr4
  have hr5 := h'.up hc5
  go_wp2_with (at_builtin; refine stop_ ?_)
  refine go_ (wpList_appG (base := g3) (n := np) Tryz.underlying38 Hi.out rfl (by omega) own5 rfl hr5 rfl (bv_one _) (k := np + n') rfl (bv_app _ _).symm (by unfold maxLen; omega) (by omega) (by rw [← Hz3.out]; exact hc5.size) ?_)
  intro A6 c6 w7 own6 hgr hob
  have hc6 := Below.grown hc5 hgr hc5.size (fun j hj => by rw [Hz3.out]; exact (own_blk own5 hj).1)
  have hr6 := Rd.own own6
  clear hgr hob own5 hc5 hr5 own6
  replace hx := hx.old hc6 (blk_lt hx)
  replace hr := (hr.up hc6).more hc6.size
  replace h' := h'.nx hc6
  replace hb := bnx hb hc6
  clear hc6
  go_wp2_with fail
  go_fit (ubDecode_any A6 (np + n') c6 w7.heap.size (EP ++ m) w7 hr6 (Nat.le_refl _) (by omega))
  rintro e w8 ⟨a8, rfl, r8, hb8⟩
  clear hr6 hrp
  replace hx := hx.old hb8 (blk_lt hx)
  replace hr := (hr.up hb8).more hb8.size
  replace h' := h'.nx hb8
  replace hb := bnx hb hb8
  clear hb8
  have HL8 := Lib.hid (ubDV_lens (EP ++ m))
  generalize ubDV (EP ++ m) = D8 at *
  generalize ubDN (EP ++ m) = N8 at *
  generalize ubDE (EP ++ m) = E8 at *
  have y1 := heap_alloc_new w8 (.cells #[.int .i64 0, .int .i64 0, .int .i64 0, .int .i64 0, .int .i64 0, .int .i64 0, .int .i64 0, .int .i64 0, .int .i64 0, .int .i64 0, .int .i64 0, .int .i64 0, .int .i64 0, .int .i64 0, .int .i64 0, .int .i64 0, .int .i64 0, .int .i64 0, .int .i64 0, .int .i64 0, .int .i64 0, .int .i64 0, .int .i64 0, .int .i64 0, .int .i64 0, .int .i64 0, .int .i64 0, .int .i64 0, .int .i64 0, .int .i64 0, .int .i64 0, .int .i64 0, .int .i64 0, .int .i64 0, .slice none 0 0, .int .i64 0, .int .i64 0, .int .i64 0, .int .i64 0, .int .i64 0, .int .i64 0, .int .i64 0, .int .i64 0, .bool false, .int .i64 0, .int .i64 0, .int .i64 0, .slice none 0 0] 35)
  have hbA := (Below.refl w8.heap.size w8).alloc (Nat.le_refl _) (.cells #[.int .i64 0, .int .i64 0, .int .i64 0, .int .i64 0, .int .i64 0, .int .i64 0, .int .i64 0, .int .i64 0, .int .i64 0, .int .i64 0, .int .i64 0, .int .i64 0, .int .i64 0, .int .i64 0, .int .i64 0, .int .i64 0, .int .i64 0, .int .i64 0, .int .i64 0, .int .i64 0, .int .i64 0, .int .i64 0, .int .i64 0, .int .i64 0, .int .i64 0, .int .i64 0, .int .i64 0, .int .i64 0, .int .i64 0, .int .i64 0, .int .i64 0, .int .i64 0, .int .i64 0, .int .i64 0, .slice none 0 0, .int .i64 0, .int .i64 0, .int .i64 0, .int .i64 0, .int .i64 0, .int .i64 0, .int .i64 0, .int .i64 0, .bool false, .int .i64 0, .int .i64 0, .int .i64 0, .slice none 0 0] 35)
  go_wp2_with (first | (with_reducible refine stop_loadT 35 ?_) | (with_reducible refine stop_storeT 35 ?_) | (with_reducible refine stop_loadG 35 ?_))
  generalize (w8.alloc (.cells #[.int .i64 0, .int .i64 0, .int .i64 0, .int .i64 0, .int .i64 0, .int .i64 0, .int .i64 0, .int .i64 0, .int .i64 0, .int .i64 0, .int .i64 0, .int .i64 0, .int .i64 0, .int .i64 0, .int .i64 0, .int .i64 0, .int .i64 0, .int .i64 0, .int .i64 0, .int .i64 0, .int .i64 0, .int .i64 0, .int .i64 0, .int .i64 0, .int .i64 0, .int .i64 0, .int .i64 0, .int .i64 0, .int .i64 0, .int .i64 0, .int .i64 0, .int .i64 0, .int .i64 0, .int .i64 0, .slice none 0 0, .int .i64 0, .int .i64 0, .int .i64 0, .int .i64 0, .int .i64 0, .int .i64 0, .int .i64 0, .int .i64 0, .bool false, .int .i64 0, .int .i64 0, .int .i64 0, .slice none 0 0] 35)) = w9 at *
  refine go_ (wpList_store_row rfl _ _ _ rfl w8.heap.size (ubL D8 a8).toArray rfl rfl _ _ y1 (ub_size _ _ HL8.out.1 HL8.out.2) (ub_sizes (V := ub0) (a := ua0) rfl rfl HL8.out.1 HL8.out.2) (ub_one _ _) ?_)
  have m8 : UbB (w9.setRow w8.heap.size (ubL D8 a8).toArray) w8.heap.size D8 a8 := setRow_heap _ _ _ _ _ _ y1
  have hbN : Below w8.heap.size w8 (w9.setRow w8.heap.size (ubL D8 a8).toArray) := below_aw20 hbA (aw_setRow20 _ _) (fun k hk => by rw [hk]; exact Nat.le_refl _) hbA.size
  generalize w9.setRow w8.heap.size (ubL D8 a8).toArray = v1 at *
  clear y1 hbA
  replace hx := hx.old hbN (blk_lt hx)
  replace hr := (hr.up hbN).more hbN.size
  replace h' := h'.nx hbN
  replace r8 := (r8.up hbN).more hbN.size
  replace hb := bnx hb hbN
  clear hbN
  have HszL8 : Hid ((Tryz.prog.info? 35).map (·.size) = some (ubL D8 a8).length) := Lib.hid (by rw [ubL_len HL8.out.1 HL8.out.2]; kernel_rfl)
  have HxS : Hid (∀ w', Below v1.heap.size v1 w' → w'.rangeAt w.heap.size 0 (ubL V a)) := Lib.hid (fun w' hS => ubB_all' (hx.old hS (blk_lt hx)))
  have HmS : Hid (∀ w', Below v1.heap.size v1 w' → w'.rangeAt w8.heap.size 0 (ubL D8 a8)) := Lib.hid (fun w' hS => ubB_all' (m8.old hS (blk_lt m8)))
  have Hr := Lib.hid hr
  have Hr8 := Lib.hid r8
  have H' := Lib.hid h'
  clear hx m8 hr r8 h'
  go_wp2_with fail
  refine Ord.region_ (fun w' => Below v1.heap.size v1 w') false [] (by kernel_rfl) (by kernel_rfl) (Below.refl _ _).drew ?_
  have hS : Below v1.heap.size v1 v1.drew := (Below.refl _ _).drew
  generalize v1.drew = v0 at *
  by_cases he : EE = 0
  · obtain ⟨t1, t2, t3⟩ := Hth.out he
    subst he
    subst t1
    subst t3
    rw [hlp] at t2
    subst t2
    clear Hth Hnt hlp
    ((with_reducible refine Ord.e_p (v := ?_) ?_ ?_ ?_ ?_); rotate_left; (· exact rfl); (· kernel_rfl); (· intro w2; go_simp; try with_reducible rfl))
    (try simp only [Act.put, List.setIfInBounds_toArray, List.set_cons_zero, List.set_cons_succ])
    refine Ord.e_x rfl (by kernel_rfl) ?_
    go_wp2_with fail
    go_fit (num21_any _ _)
    rintro e w9 ⟨rfl, rfl⟩
    go_wp2_with fail
    refine Ord.Seg.go hS (fun h => by cases h) ?_
    (try simp only [Act.put, List.setIfInBounds_toArray, List.set_cons_zero, List.set_cons_succ])
    refine Ord.e_p (v := .bool true) rfl (by kernel_rfl) (fun w2 => by go_simp) ?_
    (try simp only [Act.put, List.setIfInBounds_toArray, List.set_cons_zero, List.set_cons_succ])
    ((with_reducible refine Ord.e_p (v := ?_) ?_ ?_ ?_ ?_); rotate_left; (· exact rfl); (· kernel_rfl); (· intro w2; go_simp; try with_reducible rfl))
    (try simp only [Act.put, List.setIfInBounds_toArray, List.set_cons_zero, List.set_cons_succ])
    ((with_reducible refine Ord.e_p (v := ?_) ?_ ?_ ?_ ?_); rotate_left; (· exact rfl); (· kernel_rfl); (· intro w2; go_simp; try with_reducible rfl))
    (try simp only [Act.put, List.setIfInBounds_toArray, List.set_cons_zero, List.set_cons_succ])
    refine Ord.e_x rfl (by kernel_rfl) ?_
    go_wp2_with fail
    go_fit (num21_any _ _)
    rintro e w9 ⟨rfl, rfl⟩
    go_wp2_with fail
    refine Ord.Seg.go hS (fun h => by cases h) ?_
    (try simp only [Act.put, List.setIfInBounds_toArray, List.set_cons_zero, List.set_cons_succ])
    refine Ord.e_p (v := .bool false) rfl (by kernel_rfl) (fun w2 => by go_simp) ?_
    (try simp only [Act.put, List.setIfInBounds_toArray, List.set_cons_zero, List.set_cons_succ])
    ((with_reducible refine Ord.e_p (v := ?_) ?_ ?_ ?_ ?_); rotate_left; (· exact rfl); (· kernel_rfl); (· intro w2; go_simp; try with_reducible rfl))
    (try simp only [Act.put, List.setIfInBounds_toArray, List.set_cons_zero, List.set_cons_succ])
    ((with_reducible refine Ord.e_p (v := ?_) ?_ ?_ ?_ ?_); rotate_left; (· exact rfl); (· kernel_rfl); (· intro w2; go_simp; try with_reducible rfl))
    (try simp only [Act.put, List.setIfInBounds_toArray, List.set_cons_zero, List.set_cons_succ])
    ((with_reducible refine Ord.e_p (v := ?_) ?_ ?_ ?_ ?_); rotate_left; (· exact rfl); (· kernel_rfl); (· intro w2; go_simp; try with_reducible rfl))
    (try simp only [Act.put, List.setIfInBounds_toArray, List.set_cons_zero, List.set_cons_succ])
    ((with_reducible refine Ord.e_p (v := ?_) ?_ ?_ ?_ ?_); rotate_left; (· exact rfl); (· kernel_rfl); (· intro w2; go_simp; try with_reducible rfl))
    (try simp only [Act.put, List.setIfInBounds_toArray, List.set_cons_zero, List.set_cons_succ])
    refine Ord.e_p (v := .bool false) rfl (by kernel_rfl) (fun w2 => by go_simp) ?_
    (try simp only [Act.put, List.setIfInBounds_toArray, List.set_cons_zero, List.set_cons_succ])
    ((with_reducible refine Ord.e_p (v := ?_) ?_ ?_ ?_ ?_); rotate_left; (· exact rfl); (· kernel_rfl); (· intro w2; go_simp; try with_reducible rfl))
    (try simp only [Act.put, List.setIfInBounds_toArray, List.set_cons_zero, List.set_cons_succ])
    ((with_reducible refine Ord.e_p (v := ?_) ?_ ?_ ?_ ?_); rotate_left; (· exact rfl); (· kernel_rfl); (· intro w2; go_simp; try with_reducible rfl))
    (try simp only [Act.put, List.setIfInBounds_toArray, List.set_cons_zero, List.set_cons_succ])
    refine Ord.e_rowS (b := w8.heap.size) (o := 0) (cs := ubL D8 a8) Tryz.underlying35 rfl HszL8.out rfl (by unfold ubL; simp) (fun w' hS => HmS.out w' hS) hS (by kernel_rfl) ?_
    (try simp only [Act.put, List.setIfInBounds_toArray, List.set_cons_zero, List.set_cons_succ])
    refine Ord.e_rowS (b := w.heap.size) (o := 0) (cs := ubL V a) Tryz.underlying35 rfl HszL.out rfl (by unfold ubL; simp) (fun w' hS => HxS.out w' hS) hS (by kernel_rfl) ?_
    (try simp only [Act.put, List.setIfInBounds_toArray, List.set_cons_zero, List.set_cons_succ])
    refine Ord.e_x rfl (by kernel_rfl) ?_
    go_wp2_with fail
    go_fit (Hpl.out v0 ((Hr.out.up hS).more hS.size))
    rintro e v2 ⟨a2, rfl, hr2, hb2⟩
    replace hS := bnx hS hb2
    clear hb2
    go_wp2_with fail
    refine Ord.Seg.go hS (fun h => by cases h) ?_
    (try simp only [Act.put, List.setIfInBounds_toArray, List.set_cons_zero, List.set_cons_succ])
    refine Ord.e_x rfl (by kernel_rfl) ?_
    go_wp2_with fail
    go_fit (sameub_any D8 a8 a2 v2 HL8.out.1 HL8.out.2 Huok.out.ll ((Hr8.out.up hS).more hS.size) hr2)
    rintro e v4 ⟨rfl, hb4⟩
    replace hS := bnx hS hb4
    clear hb4 hr2
    go_wp2_with fail
    refine Ord.Seg.go hS (fun h => by cases h) ?_
    (try simp only [Act.put, List.setIfInBounds_toArray, List.set_cons_zero, List.set_cons_succ])
    ((with_reducible refine Ord.e_p (v := ?_) ?_ ?_ ?_ ?_); rotate_left; (· exact rfl); (· kernel_rfl); (· intro w2; go_simp; try with_reducible rfl))
    (try simp only [Act.put, List.setIfInBounds_toArray, List.set_cons_zero, List.set_cons_succ])
    ((with_reducible refine Ord.e_p (v := ?_) ?_ ?_ ?_ ?_); rotate_left; (· exact rfl); (· kernel_rfl); (· intro w2; go_simp; try with_reducible rfl))
    (try simp only [Act.put, List.setIfInBounds_toArray, List.set_cons_zero, List.set_cons_succ])
    ((with_reducible refine Ord.e_p (v := ?_) ?_ ?_ ?_ ?_); rotate_left; (· exact rfl); (· kernel_rfl); (· intro w2; go_simp; try with_reducible rfl))
    (try simp only [Act.put, List.setIfInBounds_toArray, List.set_cons_zero, List.set_cons_succ])
    ((with_reducible refine Ord.e_p (v := ?_) ?_ ?_ ?_ ?_); rotate_left; (· exact rfl); (· kernel_rfl); (· intro w2; go_simp; try with_reducible rfl))
    (try simp only [Act.put, List.setIfInBounds_toArray, List.set_cons_zero, List.set_cons_succ])
    ((with_reducible refine Ord.e_p (v := ?_) ?_ ?_ ?_ ?_); rotate_left; (· exact rfl); (· kernel_rfl); (· intro w2; go_simp; try with_reducible rfl))
    (try simp only [Act.put, List.setIfInBounds_toArray, List.set_cons_zero, List.set_cons_succ])
    refine Ord.e_x rfl (by kernel_rfl) ?_
    go_wp2_with fail
    go_fit (num21_any _ _)
    rintro e w9 ⟨rfl, rfl⟩
    go_wp2_with fail
    refine Ord.Seg.go hS (fun h => by cases h) ?_
    (try simp only [Act.put, List.setIfInBounds_toArray, List.set_cons_zero, List.set_cons_succ])
    refine Ord.e_p (v := .bool false) rfl (by kernel_rfl) (fun w2 => by go_simp) ?_
    (try simp only [Act.put, List.setIfInBounds_toArray, List.set_cons_zero, List.set_cons_succ])
    ((with_reducible refine Ord.e_p (v := ?_) ?_ ?_ ?_ ?_); rotate_left; (· exact rfl); (· kernel_rfl); (· intro w2; go_simp; try with_reducible rfl))
    (try simp only [Act.put, List.setIfInBounds_toArray, List.set_cons_zero, List.set_cons_succ])
    ((with_reducible refine Ord.e_u ?_ ?_); (· kernel_rfl))
    (try simp only [Act.put, List.setIfInBounds_toArray, List.set_cons_zero, List.set_cons_succ])
    ((with_reducible refine Ord.e_u ?_ ?_); (· kernel_rfl))
    (try simp only [Act.put, List.setIfInBounds_toArray, List.set_cons_zero, List.set_cons_succ])
    ((with_reducible refine Ord.e_u ?_ ?_); (· kernel_rfl))
    (try simp only [Act.put, List.setIfInBounds_toArray, List.set_cons_zero, List.set_cons_succ])
    ((with_reducible refine Ord.e_p (v := ?_) ?_ ?_ ?_ ?_); rotate_left; (· exact rfl); (· kernel_rfl); (· intro w2; go_simp; try with_reducible rfl))
    (try simp only [Act.put, List.setIfInBounds_toArray, List.set_cons_zero, List.set_cons_succ])
    ((with_reducible refine Ord.e_p (v := ?_) ?_ ?_ ?_ ?_); rotate_left; (· exact rfl); (· kernel_rfl); (· intro w2; go_simp; try with_reducible rfl))
    (try simp only [Act.put, List.setIfInBounds_toArray, List.set_cons_zero, List.set_cons_succ])
    refine Ord.e_nil ?_
    have h' := H'.out.nx hS
    replace hb := bnx hb hS
    clear hS Hr Hr8 H' HmS HxS
    generalize v4 = wt at *
    go_wp2_with fail
    go_fit (ubDecode_any A' n' cap' wt.heap.size m wt h' (Nat.le_refl _) (by omega))
    rintro e wu ⟨ax, rfl, rx, hbu⟩
    replace h' := h'.nx hbu
    replace hb := bnx hb hbu
    clear hbu
    have HL := Lib.hid (ubDV_lens m)
    have Hok := Lib.hid (ubDV_ok m)
    have Hb := Lib.hid (@ubD_back m)
    have Hn := Lib.hid (@ubD_none m)
    have hkl := ubDN_le m
    have hlm := h'.blen
    generalize ubDV m = Q at *
    generalize ubDN m = oN at *
    generalize ubDE m = oG at *
    have y1 := heap_alloc_new wu (.cells #[.int .i64 0, .int .i64 0, .int .i64 0, .int .i64 0, .int .i64 0, .int .i64 0, .int .i64 0, .int .i64 0, .int .i64 0, .int .i64 0, .int .i64 0, .int .i64 0, .int .i64 0, .int .i64 0, .int .i64 0, .int .i64 0, .int .i64 0, .int .i64 0, .int .i64 0, .int .i64 0, .int .i64 0, .int .i64 0, .int .i64 0, .int .i64 0, .int .i64 0, .int .i64 0, .int .i64 0, .int .i64 0, .int .i64 0, .int .i64 0, .int .i64 0, .int .i64 0, .int .i64 0, .int .i64 0, .slice none 0 0, .int .i64 0, .int .i64 0, .int .i64 0, .int .i64 0, .int .i64 0, .int .i64 0, .int .i64 0, .int .i64 0, .bool false, .int .i64 0, .int .i64 0, .int .i64 0, .slice none 0 0] 35)
    have hbA := (Below.refl wu.heap.size wu).alloc (Nat.le_refl _) (.cells #[.int .i64 0, .int .i64 0, .int .i64 0, .int .i64 0, .int .i64 0, .int .i64 0, .int .i64 0, .int .i64 0, .int .i64 0, .int .i64 0, .int .i64 0, .int .i64 0, .int .i64 0, .int .i64 0, .int .i64 0, .int .i64 0, .int .i64 0, .int .i64 0, .int .i64 0, .int .i64 0, .int .i64 0, .int .i64 0, .int .i64 0, .int .i64 0, .int .i64 0, .int .i64 0, .int .i64 0, .int .i64 0, .int .i64 0, .int .i64 0, .int .i64 0, .int .i64 0, .int .i64 0, .int .i64 0, .slice none 0 0, .int .i64 0, .int .i64 0, .int .i64 0, .int .i64 0, .int .i64 0, .int .i64 0, .int .i64 0, .int .i64 0, .bool false, .int .i64 0, .int .i64 0, .int .i64 0, .slice none 0 0] 35)
    go_wp2_with (first | (with_reducible refine stop_loadT 35 ?_) | (with_reducible refine stop_storeT 35 ?_) | (with_reducible refine stop_loadG 35 ?_))
    generalize (wu.alloc (.cells #[.int .i64 0, .int .i64 0, .int .i64 0, .int .i64 0, .int .i64 0, .int .i64 0, .int .i64 0, .int .i64 0, .int .i64 0, .int .i64 0, .int .i64 0, .int .i64 0, .int .i64 0, .int .i64 0, .int .i64 0, .int .i64 0, .int .i64 0, .int .i64 0, .int .i64 0, .int .i64 0, .int .i64 0, .int .i64 0, .int .i64 0, .int .i64 0, .int .i64 0, .int .i64 0, .int .i64 0, .int .i64 0, .int .i64 0, .int .i64 0, .int .i64 0, .int .i64 0, .int .i64 0, .int .i64 0, .slice none 0 0, .int .i64 0, .int .i64 0, .int .i64 0, .int .i64 0, .int .i64 0, .int .i64 0, .int .i64 0, .int .i64 0, .bool false, .int .i64 0, .int .i64 0, .int .i64 0, .slice none 0 0] 35)) = wx at *
    refine go_ (wpList_store_row rfl _ _ _ rfl wu.heap.size (ubL Q ax).toArray rfl rfl _ _ y1 (ub_size _ _ HL.out.1 HL.out.2) (ub_sizes (V := ub0) (a := ua0) rfl rfl HL.out.1 HL.out.2) (ub_one _ _) ?_)
    have mx : UbB (wx.setRow wu.heap.size (ubL Q ax).toArray) wu.heap.size Q ax := setRow_heap _ _ _ _ _ _ y1
    have hbN : Below wu.heap.size wu (wx.setRow wu.heap.size (ubL Q ax).toArray) := below_aw20 hbA (aw_setRow20 _ _) (fun k hk => by rw [hk]; exact Nat.le_refl _) hbA.size
    generalize wx.setRow wu.heap.size (ubL Q ax).toArray = wv at *
    clear y1 hbA
    replace h' := h'.nx hbN
    replace rx := (rx.up hbN).more hbN.size
    replace hb := bnx hb hbN
    clear hbN
    have hN1 : (oN : Int) ≤ (n' : Int) := by omega
    by_cases hg : oG = 0
    · subst hg
      obtain ⟨b1, b2, b3, b4⟩ := Hb.out rfl
      have hput := ubEncode_any Q ax Hok.out wv rx
      rw [b1, b4] at hput
      have Hput := Lib.hid hput
      have hN2 : (8 : Int) ≤ (oN : Int) := by omega
      clear hput b1 b2 b4 Hb Hn rx
      go_wp2_with fail
      go_fit (num21_any _ _)
      rintro e wn ⟨rfl, rfl⟩
      go_wp2_with (first | (with_reducible refine stop_loadT 35 ?_) | (with_reducible refine stop_storeT 35 ?_) | (with_reducible refine stop_loadG 35 ?_))
      refine go_ (wpList_load_row rfl _ _ rfl _ rfl _ _ _ _ mx Tryz.underlying35 rfl (ub_size _ _ HL.out.1 HL.out.2) ?_)
      go_wp2_with fail
      go_fit Hput.out
      rintro e wy ⟨As, ns, ks, rfl, owns, hbx⟩
      have hrs := Rd.own owns
      have hr2 := h'.nx hbx
      replace hb := bnx hb hbx
      clear owns hbx h' Hput mx
      have hNn : oN ≤ n' := by omega
      have hrm := hr2.btake (k := oN) hNn
      have hle2' := hr2.le
      have hcut : ∀ w, (Instr.slice 38 (.slice A' n' cap') none (some (.int .i64 (oN : Int))) none).run Tryz.prog w = .ok (.slice A' oN cap') w := run_cut_h (P := Tryz.prog) Tryz.underlying38 Hi.out.1 A' n' cap' oN (by omega)
      have Hcut := Lib.hid hcut
      clear hcut hr2
      go_wp2_with fail
      refine Ord.region_ (fun w' => Below wy.heap.size wy w') false [] (by kernel_rfl) (by kernel_rfl) (Below.refl _ _).drew ?_
      have hS : Below wy.heap.size wy wy.drew := (Below.refl _ _).drew
      generalize wy.drew = wz at *
      ((with_reducible refine Ord.e_p (v := ?_) ?_ ?_ ?_ ?_); rotate_left; (· exact rfl); (· kernel_rfl); (· intro w2; go_simp; try with_reducible rfl))
      (try simp only [Act.put, List.setIfInBounds_toArray, List.set_cons_zero, List.set_cons_succ])
      refine Ord.e_x rfl (by kernel_rfl) ?_
      go_wp2_with fail
      go_fit (num21_any _ _)
      rintro e w9 ⟨rfl, rfl⟩
      go_wp2_with fail
      refine Ord.Seg.go hS (fun h => by cases h) ?_
      (try simp only [Act.put, List.setIfInBounds_toArray, List.set_cons_zero, List.set_cons_succ])
      refine Ord.e_p (v := .bool true) rfl (by kernel_rfl) (fun w2 => by go_simp) ?_
      (try simp only [Act.put, List.setIfInBounds_toArray, List.set_cons_zero, List.set_cons_succ])
      ((with_reducible refine Ord.e_p (v := ?_) ?_ ?_ ?_ ?_); rotate_left; (· exact rfl); (· kernel_rfl); (· intro w2; go_simp; try with_reducible rfl))
      (try simp only [Act.put, List.setIfInBounds_toArray, List.set_cons_zero, List.set_cons_succ])
      ((with_reducible refine Ord.e_p (v := ?_) ?_ ?_ ?_ ?_); rotate_left; (· exact rfl); (· kernel_rfl); (· intro w2; go_simp; try with_reducible rfl))
      (try simp only [Act.put, List.setIfInBounds_toArray, List.set_cons_zero, List.set_cons_succ])
      ((with_reducible refine Ord.e_p (v := ?_) ?_ ?_ ?_ ?_); rotate_left; (· exact rfl); (· kernel_rfl); (· intro w2; go_simp; try with_reducible rfl))
      (try simp only [Act.put, List.setIfInBounds_toArray, List.set_cons_zero, List.set_cons_succ])
      ((with_reducible refine Ord.e_p (v := ?_) ?_ ?_ ?_ ?_); rotate_left; (· exact rfl); (· kernel_rfl); (· intro w2; go_simp; try with_reducible rfl))
      (try simp only [Act.put, List.setIfInBounds_toArray, List.set_cons_zero, List.set_cons_succ])
      refine Ord.e_p (v := .bool true) rfl (by kernel_rfl) (fun w2 => by go_simp) ?_
      (try simp only [Act.put, List.setIfInBounds_toArray, List.set_cons_zero, List.set_cons_succ])
      ((with_reducible refine Ord.e_p (v := ?_) ?_ ?_ ?_ ?_); rotate_left; (· exact rfl); (· kernel_rfl); (· intro w2; go_simp; try with_reducible rfl))
      (try simp only [Act.put, List.setIfInBounds_toArray, List.set_cons_zero, List.set_cons_succ])
      ((with_reducible refine Ord.e_p (v := ?_) ?_ ?_ ?_ ?_); rotate_left; (· exact rfl); (· kernel_rfl); (· intro w2; go_simp; try with_reducible rfl))
      (try simp only [Act.put, List.setIfInBounds_toArray, List.set_cons_zero, List.set_cons_succ])
      ((with_reducible refine Ord.e_p (v := ?_) ?_ ?_ ?_ ?_); rotate_left; (· exact rfl); (· kernel_rfl); (· intro w2; go_simp; try with_reducible rfl))
      (try simp only [Act.put, List.setIfInBounds_toArray, List.set_cons_zero, List.set_cons_succ])
      refine Ord.e_p (v := .bool true) rfl (by kernel_rfl) (fun w2 => by go_simp) ?_
      (try simp only [Act.put, List.setIfInBounds_toArray, List.set_cons_zero, List.set_cons_succ])
      ((with_reducible refine Ord.e_p (v := ?_) ?_ ?_ ?_ ?_); rotate_left; (· exact rfl); (· kernel_rfl); (· intro w2; go_simp; try with_reducible rfl))
      (try simp only [Act.put, List.setIfInBounds_toArray, List.set_cons_zero, List.set_cons_succ])
      ((with_reducible refine Ord.e_p (v := ?_) ?_ ?_ ?_ ?_); rotate_left; (· exact rfl); (· kernel_rfl); (· intro w2; go_simp; try with_reducible rfl))
      (try simp only [Act.put, List.setIfInBounds_toArray, List.set_cons_zero, List.set_cons_succ])
      ((with_reducible refine Ord.e_p (v := ?_) ?_ ?_ ?_ ?_); rotate_left; (· exact rfl); (· kernel_rfl); (· intro w2; go_simp; try with_reducible rfl))
      (try simp only [Act.put, List.setIfInBounds_toArray, List.set_cons_zero, List.set_cons_succ])
      refine Ord.e_strS Tryz.underlying38 Tryz.underlying5 Tryz.underlying9 (fun w' hS => hrs.up (show Below _ wy w' from hS)) hS hS.size rfl (by kernel_rfl) ?_
      (try simp only [Act.put, List.setIfInBounds_toArray, List.set_cons_zero, List.set_cons_succ])
      ((with_reducible refine Ord.e_p (v := ?_) ?_ ?_ ?_ ?_); rotate_left; (· exact rfl); (· kernel_rfl); (· intro w2; go_simp; try with_reducible rfl))
      (try simp only [Act.put, List.setIfInBounds_toArray, List.set_cons_zero, List.set_cons_succ])
      ((with_reducible refine Ord.e_p (v := ?_) ?_ ?_ ?_ ?_); rotate_left; (· exact rfl); (· kernel_rfl); (· intro w2; go_simp; try with_reducible rfl))
      (try simp only [Act.put, List.setIfInBounds_toArray, List.set_cons_zero, List.set_cons_succ])
      refine Ord.e_p (v := .slice A' oN cap') rfl (by kernel_rfl) (fun w2 => by have hcut := Hcut.out w2; go_simp) ?_
      (try simp only [Act.put, List.setIfInBounds_toArray, List.set_cons_zero, List.set_cons_succ])
      refine Ord.e_strS Tryz.underlying38 Tryz.underlying5 Tryz.underlying9 (fun w' hS => hrm.up (show Below _ wy w' from hS)) hS hS.size rfl (by kernel_rfl) ?_
      (try simp only [Act.put, List.setIfInBounds_toArray, List.set_cons_zero, List.set_cons_succ])
      refine Ord.e_p (v := .bool true) rfl (by kernel_rfl) (fun w2 => by go_simp) ?_
      (try simp only [Act.put, List.setIfInBounds_toArray, List.set_cons_zero, List.set_cons_succ])
      ((with_reducible refine Ord.e_p (v := ?_) ?_ ?_ ?_ ?_); rotate_left; (· exact rfl); (· kernel_rfl); (· intro w2; go_simp; try with_reducible rfl))
      (try simp only [Act.put, List.setIfInBounds_toArray, List.set_cons_zero, List.set_cons_succ])
      ((with_reducible refine Ord.e_p (v := ?_) ?_ ?_ ?_ ?_); rotate_left; (· exact rfl); (· kernel_rfl); (· intro w2; go_simp; try with_reducible rfl))
      (try simp only [Act.put, List.setIfInBounds_toArray, List.set_cons_zero, List.set_cons_succ])
      refine Ord.e_nil ?_
      have hbf := bnx hb hS
      clear hS hb hrs hrm
      go_wp2
      go_ret
      exact ⟨rfl, hbf⟩
    · obtain rfl := Hn.out hg
      have hg' : ¬ (oG : Int) = 0 := by omega
      have hgq : ((oG : Int) != 0) = true := by simp; exact hg
      have hN0 : (0 : Int) ≤ (oN : Int) := by omega
      have hsm : Calls Tryz.prog 14 #[.agg (ubL ub0 ax).toArray, .agg #[.int .i64 0, .int .i64 0, .int .i64 0, .int .i64 0, .int .i64 0, .int .i64 0, .int .i64 0, .int .i64 0, .int .i64 0, .int .i64 0, .int .i64 0, .int .i64 0, .int .i64 0, .int .i64 0, .int .i64 0, .int .i64 0, .int .i64 0, .int .i64 0, .int .i64 0, .int .i64 0, .int .i64 0, .int .i64 0, .int .i64 0, .int .i64 0, .int .i64 0, .int .i64 0, .int .i64 0, .int .i64 0, .int .i64 0, .int .i64 0, .int .i64 0, .int .i64 0, .int .i64 0, .int .i64 0, .slice none 0 0, .int .i64 0, .int .i64 0, .int .i64 0, .int .i64 0, .int .i64 0, .int .i64 0, .int .i64 0, .int .i64 0, .bool false, .int .i64 0, .int .i64 0, .int .i64 0, .slice none 0 0]] wv fun e w' => e = .returned (.bool true) ∧ Below wv.heap.size wv w' := sameub_any ub0 ax ua0 wv rfl rfl (by intro s hs; cases hs) rx (UbR.nil _ _ _ rfl rfl)
      have Hsm := Lib.hid hsm
      clear hsm rx h' Hb Hn hg
      go_wp2_with fail
      go_fit (num21_any _ _)
      rintro e wn ⟨rfl, rfl⟩
      go_wp2_with (first | (with_reducible refine stop_loadT 35 ?_) | (with_reducible refine stop_storeT 35 ?_) | (with_reducible refine stop_loadG 35 ?_))
      refine go_ (wpList_load_row rfl _ _ rfl _ rfl _ _ _ _ mx Tryz.underlying35 rfl (ub_size _ _ HL.out.1 HL.out.2) ?_)
      go_wp2_with fail
      go_fit Hsm.out
      rintro e wy ⟨rfl, hbx⟩
      have hbf := bnx hb hbx
      clear hbx hb mx
      go_wp2
      go_ret
      exact ⟨by simp [*], hbf⟩
  · have hn0 : EP = [] := Hnt.out he
    obtain rfl : np = 0 := by rw [← hlp, hn0]; rfl
    have he' : ¬ (EE : Int) = 0 := by omega
    have heq : ((EE : Int) == 0) = false := by simp; exact he
    have hen : ((EE : Int) != 0) = true := by simp; exact he
    clear Hth Hnt hlp hn0 he hl1024
    ((with_reducible refine Ord.e_p (v := ?_) ?_ ?_ ?_ ?_); rotate_left; (· exact rfl); (· kernel_rfl); (· intro w2; go_simp; try with_reducible rfl))
    (try simp only [Act.put, List.setIfInBounds_toArray, List.set_cons_zero, List.set_cons_succ])
    refine Ord.e_x rfl (by kernel_rfl) ?_
    go_wp2_with fail
    go_fit (num21_any _ _)
    rintro e w9 ⟨rfl, rfl⟩
    go_wp2_with fail
    refine Ord.Seg.go hS (fun h => by cases h) ?_
    (try simp only [Act.put, List.setIfInBounds_toArray, List.set_cons_zero, List.set_cons_succ])
    refine Ord.e_p (v := .bool false) rfl (by kernel_rfl) (fun w2 => by go_simp) ?_
    (try simp only [Act.put, List.setIfInBounds_toArray, List.set_cons_zero, List.set_cons_succ])
    ((with_reducible refine Ord.e_p (v := ?_) ?_ ?_ ?_ ?_); rotate_left; (· exact rfl); (· kernel_rfl); (· intro w2; go_simp; try with_reducible rfl))
    (try simp only [Act.put, List.setIfInBounds_toArray, List.set_cons_zero, List.set_cons_succ])
    ((with_reducible refine Ord.e_u ?_ ?_); (· kernel_rfl))
    (try simp only [Act.put, List.setIfInBounds_toArray, List.set_cons_zero, List.set_cons_succ])
    ((with_reducible refine Ord.e_u ?_ ?_); (· kernel_rfl))
    (try simp only [Act.put, List.setIfInBounds_toArray, List.set_cons_zero, List.set_cons_succ])
    ((with_reducible refine Ord.e_u ?_ ?_); (· kernel_rfl))
    (try simp only [Act.put, List.setIfInBounds_toArray, List.set_cons_zero, List.set_cons_succ])
    ((with_reducible refine Ord.e_u ?_ ?_); (· kernel_rfl))
    (try simp only [Act.put, List.setIfInBounds_toArray, List.set_cons_zero, List.set_cons_succ])
    ((with_reducible refine Ord.e_u ?_ ?_); (· kernel_rfl))
    (try simp only [Act.put, List.setIfInBounds_toArray, List.set_cons_zero, List.set_cons_succ])
    ((with_reducible refine Ord.e_u ?_ ?_); (· kernel_rfl))
    (try simp only [Act.put, List.setIfInBounds_toArray, List.set_cons_zero, List.set_cons_succ])
    ((with_reducible refine Ord.e_u ?_ ?_); (· kernel_rfl))
    (try simp only [Act.put, List.setIfInBounds_toArray, List.set_cons_zero, List.set_cons_succ])
    ((with_reducible refine Ord.e_u ?_ ?_); (· kernel_rfl))
    (try simp only [Act.put, List.setIfInBounds_toArray, List.set_cons_zero, List.set_cons_succ])
    ((with_reducible refine Ord.e_u ?_ ?_); (· kernel_rfl))
    (try simp only [Act.put, List.setIfInBounds_toArray, List.set_cons_zero, List.set_cons_succ])
    ((with_reducible refine Ord.e_u ?_ ?_); (· kernel_rfl))
    (try simp only [Act.put, List.setIfInBounds_toArray, List.set_cons_zero, List.set_cons_succ])
    ((with_reducible refine Ord.e_u ?_ ?_); (· kernel_rfl))
    (try simp only [Act.put, List.setIfInBounds_toArray, List.set_cons_zero, List.set_cons_succ])
    ((with_reducible refine Ord.e_u ?_ ?_); (· kernel_rfl))
    (try simp only [Act.put, List.setIfInBounds_toArray, List.set_cons_zero, List.set_cons_succ])
    ((with_reducible refine Ord.e_u ?_ ?_); (· kernel_rfl))
    (try simp only [Act.put, List.setIfInBounds_toArray, List.set_cons_zero, List.set_cons_succ])
    ((with_reducible refine Ord.e_u ?_ ?_); (· kernel_rfl))
    (try simp only [Act.put, List.setIfInBounds_toArray, List.set_cons_zero, List.set_cons_succ])
    ((with_reducible refine Ord.e_u ?_ ?_); (· kernel_rfl))
    (try simp only [Act.put, List.setIfInBounds_toArray, List.set_cons_zero, List.set_cons_succ])
    ((with_reducible refine Ord.e_u ?_ ?_); (· kernel_rfl))
    (try simp only [Act.put, List.setIfInBounds_toArray, List.set_cons_zero, List.set_cons_succ])
    ((with_reducible refine Ord.e_p (v := ?_) ?_ ?_ ?_ ?_); rotate_left; (· exact rfl); (· kernel_rfl); (· intro w2; go_simp; try with_reducible rfl))
    (try simp only [Act.put, List.setIfInBounds_toArray, List.set_cons_zero, List.set_cons_succ])
    ((with_reducible refine Ord.e_p (v := ?_) ?_ ?_ ?_ ?_); rotate_left; (· exact rfl); (· kernel_rfl); (· intro w2; go_simp; try with_reducible rfl))
    (try simp only [Act.put, List.setIfInBounds_toArray, List.set_cons_zero, List.set_cons_succ])
    ((with_reducible refine Ord.e_p (v := ?_) ?_ ?_ ?_ ?_); rotate_left; (· exact rfl); (· kernel_rfl); (· intro w2; go_simp; try with_reducible rfl))
    (try simp only [Act.put, List.setIfInBounds_toArray, List.set_cons_zero, List.set_cons_succ])
    refine Ord.e_x rfl (by kernel_rfl) ?_
    go_wp2_with fail
    go_fit (num21_any _ _)
    rintro e w9 ⟨rfl, rfl⟩
    go_wp2_with fail
    refine Ord.Seg.go hS (fun h => by cases h) ?_
    (try simp only [Act.put, List.setIfInBounds_toArray, List.set_cons_zero, List.set_cons_succ])
    refine Ord.e_p (v := .bool true) rfl (by kernel_rfl) (fun w2 => by go_simp) ?_
    (try simp only [Act.put, List.setIfInBounds_toArray, List.set_cons_zero, List.set_cons_succ])
    ((with_reducible refine Ord.e_p (v := ?_) ?_ ?_ ?_ ?_); rotate_left; (· exact rfl); (· kernel_rfl); (· intro w2; go_simp; try with_reducible rfl))
    (try simp only [Act.put, List.setIfInBounds_toArray, List.set_cons_zero, List.set_cons_succ])
    ((with_reducible refine Ord.e_p (v := ?_) ?_ ?_ ?_ ?_); rotate_left; (· exact rfl); (· kernel_rfl); (· intro w2; go_simp; try with_reducible rfl))
    (try simp only [Act.put, List.setIfInBounds_toArray, List.set_cons_zero, List.set_cons_succ])
    ((with_reducible refine Ord.e_p (v := ?_) ?_ ?_ ?_ ?_); rotate_left; (· exact rfl); (· kernel_rfl); (· intro w2; go_simp; try with_reducible rfl))
    (try simp only [Act.put, List.setIfInBounds_toArray, List.set_cons_zero, List.set_cons_succ])
    refine Ord.e_p (v := .bool false) rfl (by kernel_rfl) (fun w2 => by go_simp) ?_
    (try simp only [Act.put, List.setIfInBounds_toArray, List.set_cons_zero, List.set_cons_succ])
    ((with_reducible refine Ord.e_p (v := ?_) ?_ ?_ ?_ ?_); rotate_left; (· exact rfl); (· kernel_rfl); (· intro w2; go_simp; try with_reducible rfl))
    (try simp only [Act.put, List.setIfInBounds_toArray, List.set_cons_zero, List.set_cons_succ])
    ((with_reducible refine Ord.e_p (v := ?_) ?_ ?_ ?_ ?_); rotate_left; (· exact rfl); (· kernel_rfl); (· intro w2; go_simp; try with_reducible rfl))
    (try simp only [Act.put, List.setIfInBounds_toArray, List.set_cons_zero, List.set_cons_succ])
    refine Ord.e_nil ?_
    have h' := H'.out.nx hS
    replace hb := bnx hb hS
    clear hS Hr Hr8 H' HmS HxS
    generalize v0 = wt at *
    go_wp2_with fail
    go_fit (ubDecode_any A' n' cap' wt.heap.size m wt h' (Nat.le_refl _) (by omega))
    rintro e wu ⟨ax, rfl, rx, hbu⟩
    replace h' := h'.nx hbu
    replace hb := bnx hb hbu
    clear hbu
    have HL := Lib.hid (ubDV_lens m)
    have Hok := Lib.hid (ubDV_ok m)
    have Hb := Lib.hid (@ubD_back m)
    have Hn := Lib.hid (@ubD_none m)
    have hkl := ubDN_le m
    have hlm := h'.blen
    generalize ubDV m = Q at *
    generalize ubDN m = oN at *
    generalize ubDE m = oG at *
    have y1 := heap_alloc_new wu (.cells #[.int .i64 0, .int .i64 0, .int .i64 0, .int .i64 0, .int .i64 0, .int .i64 0, .int .i64 0, .int .i64 0, .int .i64 0, .int .i64 0, .int .i64 0, .int .i64 0, .int .i64 0, .int .i64 0, .int .i64 0, .int .i64 0, .int .i64 0, .int .i64 0, .int .i64 0, .int .i64 0, .int .i64 0, .int .i64 0, .int .i64 0, .int .i64 0, .int .i64 0, .int .i64 0, .int .i64 0, .int .i64 0, .int .i64 0, .int .i64 0, .int .i64 0, .int .i64 0, .int .i64 0, .int .i64 0, .slice none 0 0, .int .i64 0, .int .i64 0, .int .i64 0, .int .i64 0, .int .i64 0, .int .i64 0, .int .i64 0, .int .i64 0, .bool false, .int .i64 0, .int .i64 0, .int .i64 0, .slice none 0 0] 35)
    have hbA := (Below.refl wu.heap.size wu).alloc (Nat.le_refl _) (.cells #[.int .i64 0, .int .i64 0, .int .i64 0, .int .i64 0, .int .i64 0, .int .i64 0, .int .i64 0, .int .i64 0, .int .i64 0, .int .i64 0, .int .i64 0, .int .i64 0, .int .i64 0, .int .i64 0, .int .i64 0, .int .i64 0, .int .i64 0, .int .i64 0, .int .i64 0, .int .i64 0, .int .i64 0, .int .i64 0, .int .i64 0, .int .i64 0, .int .i64 0, .int .i64 0, .int .i64 0, .int .i64 0, .int .i64 0, .int .i64 0, .int .i64 0, .int .i64 0, .int .i64 0, .int .i64 0, .slice none 0 0, .int .i64 0, .int .i64 0, .int .i64 0, .int .i64 0, .int .i64 0, .int .i64 0, .int .i64 0, .int .i64 0, .bool false, .int .i64 0, .int .i64 0, .int .i64 0, .slice none 0 0] 35)
    go_wp2_with (first | (with_reducible refine stop_loadT 35 ?_) | (with_reducible refine stop_storeT 35 ?_) | (with_reducible refine stop_loadG 35 ?_))
    generalize (wu.alloc (.cells #[.int .i64 0, .int .i64 0, .int .i64 0, .int .i64 0, .int .i64 0, .int .i64 0, .int .i64 0, .int .i64 0, .int .i64 0, .int .i64 0, .int .i64 0, .int .i64 0, .int .i64 0, .int .i64 0, .int .i64 0, .int .i64 0, .int .i64 0, .int .i64 0, .int .i64 0, .int .i64 0, .int .i64 0, .int .i64 0, .int .i64 0, .int .i64 0, .int .i64 0, .int .i64 0, .int .i64 0, .int .i64 0, .int .i64 0, .int .i64 0, .int .i64 0, .int .i64 0, .int .i64 0, .int .i64 0, .slice none 0 0, .int .i64 0, .int .i64 0, .int .i64 0, .int .i64 0, .int .i64 0, .int .i64 0, .int .i64 0, .int .i64 0, .bool false, .int .i64 0, .int .i64 0, .int .i64 0, .slice none 0 0] 35)) = wx at *
    refine go_ (wpList_store_row rfl _ _ _ rfl wu.heap.size (ubL Q ax).toArray rfl rfl _ _ y1 (ub_size _ _ HL.out.1 HL.out.2) (ub_sizes (V := ub0) (a := ua0) rfl rfl HL.out.1 HL.out.2) (ub_one _ _) ?_)
    have mx : UbB (wx.setRow wu.heap.size (ubL Q ax).toArray) wu.heap.size Q ax := setRow_heap _ _ _ _ _ _ y1
    have hbN : Below wu.heap.size wu (wx.setRow wu.heap.size (ubL Q ax).toArray) := below_aw20 hbA (aw_setRow20 _ _) (fun k hk => by rw [hk]; exact Nat.le_refl _) hbA.size
    generalize wx.setRow wu.heap.size (ubL Q ax).toArray = wv at *
    clear y1 hbA
    replace h' := h'.nx hbN
    replace rx := (rx.up hbN).more hbN.size
    replace hb := bnx hb hbN
    clear hbN
    have hN1 : (oN : Int) ≤ (n' : Int) := by omega
    by_cases hg : oG = 0
    · subst hg
      obtain ⟨b1, b2, b3, b4⟩ := Hb.out rfl
      have hput := ubEncode_any Q ax Hok.out wv rx
      rw [b1, b4] at hput
      have Hput := Lib.hid hput
      have hN2 : (8 : Int) ≤ (oN : Int) := by omega
      clear hput b1 b2 b4 Hb Hn rx
      go_wp2_with fail
      go_fit (num21_any _ _)
      rintro e wn ⟨rfl, rfl⟩
      go_wp2_with (first | (with_reducible refine stop_loadT 35 ?_) | (with_reducible refine stop_storeT 35 ?_) | (with_reducible refine stop_loadG 35 ?_))
      refine go_ (wpList_load_row rfl _ _ rfl _ rfl _ _ _ _ mx Tryz.underlying35 rfl (ub_size _ _ HL.out.1 HL.out.2) ?_)
      go_wp2_with fail
      go_fit Hput.out
      rintro e wy ⟨As, ns, ks, rfl, owns, hbx⟩
      have hrs := Rd.own owns
      have hr2 := h'.nx hbx
      replace hb := bnx hb hbx
      clear owns hbx h' Hput mx
      have hNn : oN ≤ n' := by omega
      have hrm := hr2.btake (k := oN) hNn
      have hle2' := hr2.le
      have hcut : ∀ w, (Instr.slice 38 (.slice A' n' cap') none (some (.int .i64 (oN : Int))) none).run Tryz.prog w = .ok (.slice A' oN cap') w := run_cut_h (P := Tryz.prog) Tryz.underlying38 Hi.out.1 A' n' cap' oN (by omega)
      have Hcut := Lib.hid hcut
      clear hcut hr2
      go_wp2_with fail
      refine Ord.region_ (fun w' => Below wy.heap.size wy w') false [] (by kernel_rfl) (by kernel_rfl) (Below.refl _ _).drew ?_
      have hS : Below wy.heap.size wy wy.drew := (Below.refl _ _).drew
      generalize wy.drew = wz at *
      ((with_reducible refine Ord.e_p (v := ?_) ?_ ?_ ?_ ?_); rotate_left; (· exact rfl); (· kernel_rfl); (· intro w2; go_simp; try with_reducible rfl))
      (try simp only [Act.put, List.setIfInBounds_toArray, List.set_cons_zero, List.set_cons_succ])
      refine Ord.e_x rfl (by kernel_rfl) ?_
      go_wp2_with fail
      go_fit (num21_any _ _)
      rintro e w9 ⟨rfl, rfl⟩
      go_wp2_with fail
      refine Ord.Seg.go hS (fun h => by cases h) ?_
      (try simp only [Act.put, List.setIfInBounds_toArray, List.set_cons_zero, List.set_cons_succ])
      refine Ord.e_p (v := .bool true) rfl (by kernel_rfl) (fun w2 => by go_simp) ?_
      (try simp only [Act.put, List.setIfInBounds_toArray, List.set_cons_zero, List.set_cons_succ])
      ((with_reducible refine Ord.e_p (v := ?_) ?_ ?_ ?_ ?_); rotate_left; (· exact rfl); (· kernel_rfl); (· intro w2; go_simp; try with_reducible rfl))
      (try simp only [Act.put, List.setIfInBounds_toArray, List.set_cons_zero, List.set_cons_succ])
      ((with_reducible refine Ord.e_p (v := ?_) ?_ ?_ ?_ ?_); rotate_left; (· exact rfl); (· kernel_rfl); (· intro w2; go_simp; try with_reducible rfl))
      (try simp only [Act.put, List.setIfInBounds_toArray, List.set_cons_zero, List.set_cons_succ])
      ((with_reducible refine Ord.e_p (v := ?_) ?_ ?_ ?_ ?_); rotate_left; (· exact rfl); (· kernel_rfl); (· intro w2; go_simp; try with_reducible rfl))
      (try simp only [Act.put, List.setIfInBounds_toArray, List.set_cons_zero, List.set_cons_succ])
      ((with_reducible refine Ord.e_p (v := ?_) ?_ ?_ ?_ ?_); rotate_left; (· exact rfl); (· kernel_rfl); (· intro w2; go_simp; try with_reducible rfl))
      (try simp only [Act.put, List.setIfInBounds_toArray, List.set_cons_zero, List.set_cons_succ])
      refine Ord.e_p (v := .bool true) rfl (by kernel_rfl) (fun w2 => by go_simp) ?_
      (try simp only [Act.put, List.setIfInBounds_toArray, List.set_cons_zero, List.set_cons_succ])
      ((with_reducible refine Ord.e_p (v := ?_) ?_ ?_ ?_ ?_); rotate_left; (· exact rfl); (· kernel_rfl); (· intro w2; go_simp; try with_reducible rfl))
      (try simp only [Act.put, List.setIfInBounds_toArray, List.set_cons_zero, List.set_cons_succ])
      ((with_reducible refine Ord.e_p (v := ?_) ?_ ?_ ?_ ?_); rotate_left; (· exact rfl); (· kernel_rfl); (· intro w2; go_simp; try with_reducible rfl))
      (try simp only [Act.put, List.setIfInBounds_toArray, List.set_cons_zero, List.set_cons_succ])
      ((with_reducible refine Ord.e_p (v := ?_) ?_ ?_ ?_ ?_); rotate_left; (· exact rfl); (· kernel_rfl); (· intro w2; go_simp; try with_reducible rfl))
      (try simp only [Act.put, List.setIfInBounds_toArray, List.set_cons_zero, List.set_cons_succ])
      refine Ord.e_p (v := .bool true) rfl (by kernel_rfl) (fun w2 => by go_simp) ?_
      (try simp only [Act.put, List.setIfInBounds_toArray, List.set_cons_zero, List.set_cons_succ])
      ((with_reducible refine Ord.e_p (v := ?_) ?_ ?_ ?_ ?_); rotate_left; (· exact rfl); (· kernel_rfl); (· intro w2; go_simp; try with_reducible rfl))
      (try simp only [Act.put, List.setIfInBounds_toArray, List.set_cons_zero, List.set_cons_succ])
      ((with_reducible refine Ord.e_p (v := ?_) ?_ ?_ ?_ ?_); rotate_left; (· exact rfl); (· kernel_rfl); (· intro w2; go_simp; try with_reducible rfl))
      (try simp only [Act.put, List.setIfInBounds_toArray, List.set_cons_zero, List.set_cons_succ])
      ((with_reducible refine Ord.e_p (v := ?_) ?_ ?_ ?_ ?_); rotate_left; (· exact rfl); (· kernel_rfl); (· intro w2; go_simp; try with_reducible rfl))
      (try simp only [Act.put, List.setIfInBounds_toArray, List.set_cons_zero, List.set_cons_succ])
      refine Ord.e_strS Tryz.underlying38 Tryz.underlying5 Tryz.underlying9 (fun w' hS => hrs.up (show Below _ wy w' from hS)) hS hS.size rfl (by kernel_rfl) ?_
      (try simp only [Act.put, List.setIfInBounds_toArray, List.set_cons_zero, List.set_cons_succ])
      ((with_reducible refine Ord.e_p (v := ?_) ?_ ?_ ?_ ?_); rotate_left; (· exact rfl); (· kernel_rfl); (· intro w2; go_simp; try with_reducible rfl))
      (try simp only [Act.put, List.setIfInBounds_toArray, List.set_cons_zero, List.set_cons_succ])
      ((with_reducible refine Ord.e_p (v := ?_) ?_ ?_ ?_ ?_); rotate_left; (· exact rfl); (· kernel_rfl); (· intro w2; go_simp; try with_reducible rfl))
      (try simp only [Act.put, List.setIfInBounds_toArray, List.set_cons_zero, List.set_cons_succ])
      refine Ord.e_p (v := .slice A' oN cap') rfl (by kernel_rfl) (fun w2 => by have hcut := Hcut.out w2; go_simp) ?_
      (try simp only [Act.put, List.setIfInBounds_toArray, List.set_cons_zero, List.set_cons_succ])
      refine Ord.e_strS Tryz.underlying38 Tryz.underlying5 Tryz.underlying9 (fun w' hS => hrm.up (show Below _ wy w' from hS)) hS hS.size rfl (by kernel_rfl) ?_
      (try simp only [Act.put, List.setIfInBounds_toArray, List.set_cons_zero, List.set_cons_succ])
      refine Ord.e_p (v := .bool true) rfl (by kernel_rfl) (fun w2 => by go_simp) ?_
      (try simp only [Act.put, List.setIfInBounds_toArray, List.set_cons_zero, List.set_cons_succ])
      ((with_reducible refine Ord.e_p (v := ?_) ?_ ?_ ?_ ?_); rotate_left; (· exact rfl); (· kernel_rfl); (· intro w2; go_simp; try with_reducible rfl))
      (try simp only [Act.put, List.setIfInBounds_toArray, List.set_cons_zero, List.set_cons_succ])
      ((with_reducible refine Ord.e_p (v := ?_) ?_ ?_ ?_ ?_); rotate_left; (· exact rfl); (· kernel_rfl); (· intro w2; go_simp; try with_reducible rfl))
      (try simp only [Act.put, List.setIfInBounds_toArray, List.set_cons_zero, List.set_cons_succ])
      refine Ord.e_nil ?_
      have hbf := bnx hb hS
      clear hS hb hrs hrm
      go_wp2
      go_ret
      exact ⟨rfl, hbf⟩
    · obtain rfl := Hn.out hg
      have hg' : ¬ (oG : Int) = 0 := by omega
      have hgq : ((oG : Int) != 0) = true := by simp; exact hg
      have hN0 : (0 : Int) ≤ (oN : Int) := by omega
      have hsm : Calls Tryz.prog 14 #[.agg (ubL ub0 ax).toArray, .agg #[.int .i64 0, .int .i64 0, .int .i64 0, .int .i64 0, .int .i64 0, .int .i64 0, .int .i64 0, .int .i64 0, .int .i64 0, .int .i64 0, .int .i64 0, .int .i64 0, .int .i64 0, .int .i64 0, .int .i64 0, .int .i64 0, .int .i64 0, .int .i64 0, .int .i64 0, .int .i64 0, .int .i64 0, .int .i64 0, .int .i64 0, .int .i64 0, .int .i64 0, .int .i64 0, .int .i64 0, .int .i64 0, .int .i64 0, .int .i64 0, .int .i64 0, .int .i64 0, .int .i64 0, .int .i64 0, .slice none 0 0, .int .i64 0, .int .i64 0, .int .i64 0, .int .i64 0, .int .i64 0, .int .i64 0, .int .i64 0, .int .i64 0, .bool false, .int .i64 0, .int .i64 0, .int .i64 0, .slice none 0 0]] wv fun e w' => e = .returned (.bool true) ∧ Below wv.heap.size wv w' := sameub_any ub0 ax ua0 wv rfl rfl (by intro s hs; cases hs) rx (UbR.nil _ _ _ rfl rfl)
      have Hsm := Lib.hid hsm
      clear hsm rx h' Hb Hn hg
      go_wp2_with fail
      go_fit (num21_any _ _)
      rintro e wn ⟨rfl, rfl⟩
      go_wp2_with (first | (with_reducible refine stop_loadT 35 ?_) | (with_reducible refine stop_storeT 35 ?_) | (with_reducible refine stop_loadG 35 ?_))
      refine go_ (wpList_load_row rfl _ _ rfl _ rfl _ _ _ _ mx Tryz.underlying35 rfl (ub_size _ _ HL.out.1 HL.out.2) ?_)
      go_wp2_with fail
      go_fit Hsm.out
      rintro e wy ⟨rfl, hbx⟩
      have hbf := bnx hb hbx
      clear hbx hb mx
      go_wp2
      go_ret
      exact ⟨by simp [*], hbf⟩
theorem ubxback_any (V : UbV) (a : UbA) (A' : Option Addr) (n' cap' : Nat) (m : List UInt8) (w : World) (h : UbOk V) (hr : UbR w w.heap.size V a) (h' : Rd w w.heap.size 1 A' n' cap' (bv m)) :
    Calls Tryz.prog 5 #[.agg (ubL V a).toArray, .slice A' n' cap'] w fun e w' => e = .returned (.bool true) ∧ Below w.heap.size w w' := by
  by_cases g1 : a.n ≤ 70
  · by_cases g2 : a.n' ≤ 40
    · by_cases g : 1100 < n'
      · exact ubxback_no3 V a A' n' cap' m w h hr h' g1 g2 g
      · exact ubxback_yes V a A' n' cap' m w h hr h' g1 g2 g
    · exact ubxback_no2 V a A' n' cap' m w h hr h' g1 g2
  · exact ubxback_no1 V a A' n' cap' m w h hr h' g1

end Go.Proofs.YtmkidihcdljkiaaGreat
