/-
  The document's Take walked, a case a kind (printed by gen_ubx7.py).
-/
import Derived.Test.YtmkidihcdljkiaaGreatKTUbx7
import Derived.Test.YtmkidihcdljkiaaGreatKTSats9
import Derived.Test.YtmkidihcdljkiaaGreatKTVal7
set_option linter.unusedSimpArgs false
set_option linter.unusedVariables false
namespace Go.Proofs.YtmkidihcdljkiaaGreat
open Go.RowKit NumLaw
attribute [local go_sem] Addr.add_mid

theorem qdopTake_l (A : Option Addr) (n c B : Nat) (b : List UInt8) (w : World) (h' : Rd w B 1 A n c (bv b)) (hB : B ≤ w.heap.size) (hn : n ≤ 1000000000) :
    Calls Tryz.prog 35 #[.slice A n c] w fun e w' => e = .returned (.tuple #[.agg (i64s (takeD dopF b)).toArray, .int .i64 (shTE dopF b : Int)]) ∧ Below w.heap.size w w' :=
  (qdopTake_any A n c B b w h' hB hn).mono fun e w' ⟨x0, x1, x2, x3, x4, x5, x6, x7, hx, he, hb⟩ => ⟨by rw [he, ← hx]; rfl, hb⟩
theorem qackTake_l (A : Option Addr) (n c B : Nat) (b : List UInt8) (y : Bool) (w : World) (h' : Rd w B 1 A n c (bv b)) (hB : B ≤ w.heap.size) (hn : n ≤ 1000000000) :
    Calls Tryz.prog 36 #[.slice A n c, .bool y] w fun e w' => e = .returned (.tuple #[.agg (acS (if shTE ackF b = 0 then y else false) ((takeD ackF b).getD 0 0) ((takeD ackF b).getD 1 0)).toArray, .int .i64 (shTE ackF b : Int)]) ∧ Below w.heap.size w w' :=
  (qackTake_any A n c B b y w h' hB hn).mono fun e w' ⟨x0, x1, hx, he, hb⟩ => ⟨by rw [he, ← hx]; rfl, hb⟩

set_option maxRecDepth 10000 in
set_option maxHeartbeats 8000000 in
theorem qubTake_1 (A : Option Addr) (n cap B : Nat) (b : List UInt8) (w : World) (h : Rd w B 1 A n cap (bv b)) (hB : B ≤ w.heap.size) (hn : n ≤ 1000000000) :
    Calls Tryz.prog 18 #[.agg #[.int .i64 1, .int .i64 7, .slice A n cap]] w (RetUT w (ubT 1 7 b) (ubTE 1 7 b)) := by
  have hk : ubKd 1 7 = 1 := by decide
  obtain ⟨oE, hoE⟩ : ∃ oE, oE = shTE pvtF b := ⟨_, rfl⟩
  obtain ⟨V5, hV5⟩ : ∃ V5 : UbV, V5 = { ub0 with k := 1, p := ptake b } := ⟨_, rfl⟩
  have HE : Hid (oE = ubTE 1 7 b) := Lib.hid (by rw [hoE]; simp [ubTE, hk])
  have HV : Hid (oE = 0 → V5 = ubTV 1 7 b) := Lib.hid (fun h0 => by rw [hoE] at h0; rw [hV5]; simp [ubTV, hk, h0])
  obtain ⟨UT, hUT⟩ : ∃ UT, UT = ubT 1 7 b := ⟨_, rfl⟩
  have H0 : Hid (oE = 0 → V5 = UT) := Lib.hid (fun he => by rw [HV.out he, hUT]; unfold ubT; rw [if_pos (HE.out.symm.trans he)])
  have H1 : Hid (oE ≠ 0 → UT = ub0) := Lib.hid (fun he => by rw [hUT]; unfold ubT; rw [if_neg (by rw [← HE.out]; exact he)])
  have HL : Hid (V5.p.length = 32 ∧ V5.d.length = 8) := Lib.hid (by rw [hV5]; exact ⟨ptake_len b, rfl⟩)
  rw [← hUT, ← HE.out]
  have HoE := Lib.hid hoE
  have HV5 := Lib.hid hV5
  clear hoE hV5 hk hUT HE HV
  obtain ⟨x0, x1, x2, hs, hb⟩ := al3 w (.cells #[.int .i64 1, .int .i64 7, .slice A n cap] 40) (.cells #[.int .i64 0, .int .i64 0, .int .i64 0, .int .i64 0, .int .i64 0, .int .i64 0, .int .i64 0, .int .i64 0, .int .i64 0, .int .i64 0, .int .i64 0, .int .i64 0, .int .i64 0, .int .i64 0, .int .i64 0, .int .i64 0, .int .i64 0, .int .i64 0, .int .i64 0, .int .i64 0, .int .i64 0, .int .i64 0, .int .i64 0, .int .i64 0, .int .i64 0, .int .i64 0, .int .i64 0, .int .i64 0, .int .i64 0, .int .i64 0, .int .i64 0, .int .i64 0, .int .i64 0, .int .i64 0, .slice none 0 0, .int .i64 0, .int .i64 0, .int .i64 0, .int .i64 0, .int .i64 0, .int .i64 0, .int .i64 0, .int .i64 0, .bool false, .int .i64 0, .int .i64 0, .int .i64 0, .slice none 0 0] 35) (.cells #[.int .i64 0, .int .i64 0, .int .i64 0, .int .i64 0, .int .i64 0, .int .i64 0, .int .i64 0, .int .i64 0, .int .i64 0, .int .i64 0, .int .i64 0, .int .i64 0, .int .i64 0, .int .i64 0, .int .i64 0, .int .i64 0, .int .i64 0, .int .i64 0, .int .i64 0, .int .i64 0, .int .i64 0, .int .i64 0, .int .i64 0, .int .i64 0, .int .i64 0, .int .i64 0, .int .i64 0, .int .i64 0, .int .i64 0, .int .i64 0, .int .i64 0, .int .i64 0, .int .i64 0, .int .i64 0, .slice none 0 0, .int .i64 0, .int .i64 0, .int .i64 0, .int .i64 0, .int .i64 0, .int .i64 0, .int .i64 0, .int .i64 0, .bool false, .int .i64 0, .int .i64 0, .int .i64 0, .slice none 0 0] 35)
  have hres : UbB (((w.alloc (.cells #[.int .i64 1, .int .i64 7, .slice A n cap] 40)).alloc (.cells #[.int .i64 0, .int .i64 0, .int .i64 0, .int .i64 0, .int .i64 0, .int .i64 0, .int .i64 0, .int .i64 0, .int .i64 0, .int .i64 0, .int .i64 0, .int .i64 0, .int .i64 0, .int .i64 0, .int .i64 0, .int .i64 0, .int .i64 0, .int .i64 0, .int .i64 0, .int .i64 0, .int .i64 0, .int .i64 0, .int .i64 0, .int .i64 0, .int .i64 0, .int .i64 0, .int .i64 0, .int .i64 0, .int .i64 0, .int .i64 0, .int .i64 0, .int .i64 0, .int .i64 0, .int .i64 0, .slice none 0 0, .int .i64 0, .int .i64 0, .int .i64 0, .int .i64 0, .int .i64 0, .int .i64 0, .int .i64 0, .int .i64 0, .bool false, .int .i64 0, .int .i64 0, .int .i64 0, .slice none 0 0] 35)).alloc (.cells #[.int .i64 0, .int .i64 0, .int .i64 0, .int .i64 0, .int .i64 0, .int .i64 0, .int .i64 0, .int .i64 0, .int .i64 0, .int .i64 0, .int .i64 0, .int .i64 0, .int .i64 0, .int .i64 0, .int .i64 0, .int .i64 0, .int .i64 0, .int .i64 0, .int .i64 0, .int .i64 0, .int .i64 0, .int .i64 0, .int .i64 0, .int .i64 0, .int .i64 0, .int .i64 0, .int .i64 0, .int .i64 0, .int .i64 0, .int .i64 0, .int .i64 0, .int .i64 0, .int .i64 0, .int .i64 0, .slice none 0 0, .int .i64 0, .int .i64 0, .int .i64 0, .int .i64 0, .int .i64 0, .int .i64 0, .int .i64 0, .int .i64 0, .bool false, .int .i64 0, .int .i64 0, .int .i64 0, .slice none 0 0] 35)) (w.heap.size + 1) ub0 ua0 := x1
  have hm : UbB (((w.alloc (.cells #[.int .i64 1, .int .i64 7, .slice A n cap] 40)).alloc (.cells #[.int .i64 0, .int .i64 0, .int .i64 0, .int .i64 0, .int .i64 0, .int .i64 0, .int .i64 0, .int .i64 0, .int .i64 0, .int .i64 0, .int .i64 0, .int .i64 0, .int .i64 0, .int .i64 0, .int .i64 0, .int .i64 0, .int .i64 0, .int .i64 0, .int .i64 0, .int .i64 0, .int .i64 0, .int .i64 0, .int .i64 0, .int .i64 0, .int .i64 0, .int .i64 0, .int .i64 0, .int .i64 0, .int .i64 0, .int .i64 0, .int .i64 0, .int .i64 0, .int .i64 0, .int .i64 0, .slice none 0 0, .int .i64 0, .int .i64 0, .int .i64 0, .int .i64 0, .int .i64 0, .int .i64 0, .int .i64 0, .int .i64 0, .bool false, .int .i64 0, .int .i64 0, .int .i64 0, .slice none 0 0] 35)).alloc (.cells #[.int .i64 0, .int .i64 0, .int .i64 0, .int .i64 0, .int .i64 0, .int .i64 0, .int .i64 0, .int .i64 0, .int .i64 0, .int .i64 0, .int .i64 0, .int .i64 0, .int .i64 0, .int .i64 0, .int .i64 0, .int .i64 0, .int .i64 0, .int .i64 0, .int .i64 0, .int .i64 0, .int .i64 0, .int .i64 0, .int .i64 0, .int .i64 0, .int .i64 0, .int .i64 0, .int .i64 0, .int .i64 0, .int .i64 0, .int .i64 0, .int .i64 0, .int .i64 0, .int .i64 0, .int .i64 0, .slice none 0 0, .int .i64 0, .int .i64 0, .int .i64 0, .int .i64 0, .int .i64 0, .int .i64 0, .int .i64 0, .int .i64 0, .bool false, .int .i64 0, .int .i64 0, .int .i64 0, .slice none 0 0] 35)) (w.heap.size + 2) ub0 ua0 := x2
  have hr := h.up (hb.mono hB)
  clear x1 x2 h hs
  go_enter Tryz.func18, Tryz.ntmps18
  go_wp2_with (with_reducible refine stop_loadT 3 ?_)
  generalize (((w.alloc (.cells #[.int .i64 1, .int .i64 7, .slice A n cap] 40)).alloc (.cells #[.int .i64 0, .int .i64 0, .int .i64 0, .int .i64 0, .int .i64 0, .int .i64 0, .int .i64 0, .int .i64 0, .int .i64 0, .int .i64 0, .int .i64 0, .int .i64 0, .int .i64 0, .int .i64 0, .int .i64 0, .int .i64 0, .int .i64 0, .int .i64 0, .int .i64 0, .int .i64 0, .int .i64 0, .int .i64 0, .int .i64 0, .int .i64 0, .int .i64 0, .int .i64 0, .int .i64 0, .int .i64 0, .int .i64 0, .int .i64 0, .int .i64 0, .int .i64 0, .int .i64 0, .int .i64 0, .slice none 0 0, .int .i64 0, .int .i64 0, .int .i64 0, .int .i64 0, .int .i64 0, .int .i64 0, .int .i64 0, .int .i64 0, .bool false, .int .i64 0, .int .i64 0, .int .i64 0, .slice none 0 0] 35)).alloc (.cells #[.int .i64 0, .int .i64 0, .int .i64 0, .int .i64 0, .int .i64 0, .int .i64 0, .int .i64 0, .int .i64 0, .int .i64 0, .int .i64 0, .int .i64 0, .int .i64 0, .int .i64 0, .int .i64 0, .int .i64 0, .int .i64 0, .int .i64 0, .int .i64 0, .int .i64 0, .int .i64 0, .int .i64 0, .int .i64 0, .int .i64 0, .int .i64 0, .int .i64 0, .int .i64 0, .int .i64 0, .int .i64 0, .int .i64 0, .int .i64 0, .int .i64 0, .int .i64 0, .int .i64 0, .int .i64 0, .slice none 0 0, .int .i64 0, .int .i64 0, .int .i64 0, .int .i64 0, .int .i64 0, .int .i64 0, .int .i64 0, .int .i64 0, .bool false, .int .i64 0, .int .i64 0, .int .i64 0, .slice none 0 0] 35)) = w1 at *
  have e0 := blk_cell (i := 0) (v := .int .i64 1) x0 rfl
  have e1 := blk_cell (i := 1) (v := .int .i64 7) x0 rfl
  have f0 := hm.kc
  have f1 : w1.frozen? ⟨w.heap.size + 2, 0, none⟩ = false := blk_free hm
  have e2 : (w1.setCell ⟨w.heap.size + 2, 0, none⟩ (.int .i64 1)).cell? ⟨w.heap.size, 2, none⟩ = some (.slice A n cap) := by
    rw [World.cell?_setCell_other _ _ _ _ (by intro e; injection e with e; omega)]
    exact blk_cell (i := 2) x0 rfl
  have hm2 : UbB (w1.setCell ⟨w.heap.size + 2, 0, none⟩ (.int .i64 1)) (w.heap.size + 2) { ub0 with k := 1 } ua0 := blk_set (i := 0) hm (.int .i64 1)
  have haw : Aw (fun k => k = w.heap.size + 2) w1 (w1.setCell ⟨w.heap.size + 2, 0, none⟩ (.int .i64 1)) := Aw.set (U := fun k => k = w.heap.size + 2) (Aw.refl _ w1) (p := ⟨w.heap.size + 2, 0, none⟩) _ rfl
  have hres2 : UbB _ (w.heap.size + 1) ub0 ua0 := haw.keep hres (by omega)
  have hr' := hr.up (below_aw20 (Below.refl B w1) haw (fun k hk => by rw [hk]; omega) (Nat.le_trans hB hb.size))
  have hb' := below_aw20 hb haw (fun k hk => by rw [hk]; omega) hb.size
  clear haw hm hres hr hb x0
  refine go_ ?_
  go_wp2_with fail
  generalize (w1.setCell ⟨w.heap.size + 2, 0, none⟩ (.int .i64 1)) = w2 at *
  have hr := hr'
  have hb := hb'
  clear hr' hb' e0 e1 f0 f1 e2
  go_fit (qpvtTake_any A n cap B b w2 hr (Nat.le_trans hB hb.size) hn)
  rintro e w3 ⟨rfl, hb3⟩
  have hgm := blk_lt hm2
  have hm3 := hm2.old hb3 hgm
  have hres3 := hres2.old hb3 (blk_lt hres2)
  replace hb := bnx hb hb3
  go_wp2_with (first | (with_reducible refine stop_loadT 23 ?_) | (with_reducible refine stop_storeT 23 ?_) | (with_reducible refine stop_loadG 23 ?_))
  refine go_ (wpList_store_mid rfl _ _ _ rfl (w.heap.size + 2) 1 (i64s (ptake b)).toArray rfl rfl (hm3.there rfl rfl (by rw [List.size_toArray]; rw [i64s_len, ptake_len]; omega)) (by rw [List.size_toArray, i64s_len, ptake_len]; kernel_rfl) (all_oneCell_toArray (i64v_one _)) ?_)
  obtain ⟨hm5, haw⟩ := hm3.set (ubL_setp rfl (ptake_len b))
  have hres := haw.keep hres3 (by omega)
  have hr5 : UbR (w3.setCells (w.heap.size + 2) 1 (i64s (ptake b))) (w3.setCells (w.heap.size + 2) 1 (i64s (ptake b))).heap.size V5 ua0 := by rw [HV5.out]; exact UbR.nil _ _ _ rfl rfl
  replace hm5 : UbB (w3.setCells (w.heap.size + 2) 1 (i64s (ptake b))) (w.heap.size + 2) { ub0 with k := 1, p := ptake b } ua0 := hm5
  rw [← HV5.out] at hm5
  rw [← HoE.out]
  have hf5 : ∀ p, UbA.A ua0 = some p ∨ UbA.A' ua0 = some p → w.heap.size + 2 < p.block := (fun p hp => by rcases hp with hp | hp <;> cases hp)
  replace hb := below_aw20 hb haw (fun k hk => by rw [hk]; omega) hb.size
  have hws := hb.size
  simp only [List.toList_toArray]
  generalize w3.setCells (w.heap.size + 2) 1 (i64s (ptake b)) = w5 at *
  generalize (ua0 : UbA) = a5 at *
  clear hm2 hm3 hres2 hres3 haw hb3 hr
  by_cases he : oE = 0
  · have he' : (oE : Int) = 0 := by omega
    obtain rfl := H0.out he
    go_wp2_with (first | (with_reducible refine stop_loadT 35 ?_) | (with_reducible refine stop_storeT 35 ?_) | (with_reducible refine stop_loadG 35 ?_))
    refine go_ (wpList_load_row rfl _ _ rfl (w.heap.size + 2) rfl _ _ _ _ hm5 Tryz.underlying35 rfl (ub_size V5 a5 HL.out.1 HL.out.2) ?_)
    go_wp2_with (first | (with_reducible refine stop_loadT 35 ?_) | (with_reducible refine stop_storeT 35 ?_) | (with_reducible refine stop_loadG 35 ?_))
    refine go_ (wpList_store_row rfl _ _ _ rfl (w.heap.size + 1) (ubL V5 a5).toArray rfl rfl _ _ hres (ub_size V5 a5 HL.out.1 HL.out.2) (ub_sizes rfl rfl HL.out.1 HL.out.2) (ub_one V5 a5) ?_)
    have hres2 := setRow_heap _ _ _ (ubL V5 a5).toArray _ _ hres
    have haw : Aw (fun k => k = w.heap.size + 1) w5 (w5.setRow (w.heap.size + 1) (ubL V5 a5).toArray) := aw_setRow20 _ _
    have hb6 := below_aw20 hb haw (fun k hk => by rw [hk]; omega) (by omega)
    have hr6 := ubr_aw hr5 haw (fun p hp => by have := hf5 p hp; omega)
    generalize w5.setRow (w.heap.size + 1) (ubL V5 a5).toArray = w6 at *
    go_wp2
    exact bodyPost_ret (results_cell2 rfl _ _ (w.heap.size + 1) _ _ _ _ rfl hres2 Tryz.underlying35 rfl (ub_size V5 a5 HL.out.1 HL.out.2)) rfl ⟨a5, by rw [he]; rfl, hr6, (fun p hp => by have := hf5 p hp; omega), hb6⟩
  · have he' : ¬ (oE : Int) = 0 := by omega
    obtain rfl := H1.out he
    go_wp2_with (first | (with_reducible refine stop_loadT 35 ?_) | (with_reducible refine stop_storeT 35 ?_) | (with_reducible refine stop_loadG 35 ?_))
    refine go_ (wpList_store_row rfl _ _ _ rfl (w.heap.size + 1) (ubL ub0 ua0).toArray rfl rfl _ _ hres (ub_size ub0 ua0 rfl rfl) (ub_sizes rfl rfl rfl rfl) (ub_one ub0 ua0) ?_)
    have hres2 := setRow_heap _ _ _ (ubL ub0 ua0).toArray _ _ hres
    have haw : Aw (fun k => k = w.heap.size + 1) w5 (w5.setRow (w.heap.size + 1) (ubL ub0 ua0).toArray) := aw_setRow20 _ _
    have hb6 := below_aw20 hb haw (fun k hk => by rw [hk]; omega) (by omega)
    generalize w5.setRow (w.heap.size + 1) (ubL ub0 ua0).toArray = w6 at *
    go_wp2
    exact bodyPost_ret (results_cell2 rfl _ _ (w.heap.size + 1) _ _ _ _ rfl hres2 Tryz.underlying35 rfl (ub_size ub0 ua0 rfl rfl)) rfl ⟨ua0, rfl, UbR.nil _ _ _ rfl rfl, (fun p hp => by rcases hp with hp | hp <;> cases hp), hb6⟩

set_option maxRecDepth 10000 in
set_option maxHeartbeats 8000000 in
theorem qubTake_2 (A : Option Addr) (n cap B : Nat) (b : List UInt8) (w : World) (h : Rd w B 1 A n cap (bv b)) (hB : B ≤ w.heap.size) (hn : n ≤ 1000000000) :
    Calls Tryz.prog 18 #[.agg #[.int .i64 1, .int .i64 53, .slice A n cap]] w (RetUT w (ubT 1 53 b) (ubTE 1 53 b)) := by
  have hk : ubKd 1 53 = 2 := by decide
  obtain ⟨oE, hoE⟩ : ∃ oE, oE = satsTE b := ⟨_, rfl⟩
  obtain ⟨V5, hV5⟩ : ∃ V5 : UbV, V5 = { ub0 with k := 2, t := satsTt b, l := satsTl b } := ⟨_, rfl⟩
  have HE : Hid (oE = ubTE 1 53 b) := Lib.hid (by rw [hoE]; simp [ubTE, hk])
  have HV : Hid (oE = 0 → V5 = ubTV 1 53 b) := Lib.hid (fun h0 => by rw [hoE] at h0; rw [hV5]; simp [ubTV, hk, h0])
  obtain ⟨UT, hUT⟩ : ∃ UT, UT = ubT 1 53 b := ⟨_, rfl⟩
  have H0 : Hid (oE = 0 → V5 = UT) := Lib.hid (fun he => by rw [HV.out he, hUT]; unfold ubT; rw [if_pos (HE.out.symm.trans he)])
  have H1 : Hid (oE ≠ 0 → UT = ub0) := Lib.hid (fun he => by rw [hUT]; unfold ubT; rw [if_neg (by rw [← HE.out]; exact he)])
  have HL : Hid (V5.p.length = 32 ∧ V5.d.length = 8) := Lib.hid (by rw [hV5]; exact ⟨rfl, rfl⟩)
  rw [← hUT, ← HE.out]
  have HoE := Lib.hid hoE
  have HV5 := Lib.hid hV5
  clear hoE hV5 hk hUT HE HV
  obtain ⟨x0, x1, x2, hs, hb⟩ := al3 w (.cells #[.int .i64 1, .int .i64 53, .slice A n cap] 40) (.cells #[.int .i64 0, .int .i64 0, .int .i64 0, .int .i64 0, .int .i64 0, .int .i64 0, .int .i64 0, .int .i64 0, .int .i64 0, .int .i64 0, .int .i64 0, .int .i64 0, .int .i64 0, .int .i64 0, .int .i64 0, .int .i64 0, .int .i64 0, .int .i64 0, .int .i64 0, .int .i64 0, .int .i64 0, .int .i64 0, .int .i64 0, .int .i64 0, .int .i64 0, .int .i64 0, .int .i64 0, .int .i64 0, .int .i64 0, .int .i64 0, .int .i64 0, .int .i64 0, .int .i64 0, .int .i64 0, .slice none 0 0, .int .i64 0, .int .i64 0, .int .i64 0, .int .i64 0, .int .i64 0, .int .i64 0, .int .i64 0, .int .i64 0, .bool false, .int .i64 0, .int .i64 0, .int .i64 0, .slice none 0 0] 35) (.cells #[.int .i64 0, .int .i64 0, .int .i64 0, .int .i64 0, .int .i64 0, .int .i64 0, .int .i64 0, .int .i64 0, .int .i64 0, .int .i64 0, .int .i64 0, .int .i64 0, .int .i64 0, .int .i64 0, .int .i64 0, .int .i64 0, .int .i64 0, .int .i64 0, .int .i64 0, .int .i64 0, .int .i64 0, .int .i64 0, .int .i64 0, .int .i64 0, .int .i64 0, .int .i64 0, .int .i64 0, .int .i64 0, .int .i64 0, .int .i64 0, .int .i64 0, .int .i64 0, .int .i64 0, .int .i64 0, .slice none 0 0, .int .i64 0, .int .i64 0, .int .i64 0, .int .i64 0, .int .i64 0, .int .i64 0, .int .i64 0, .int .i64 0, .bool false, .int .i64 0, .int .i64 0, .int .i64 0, .slice none 0 0] 35)
  have hres : UbB (((w.alloc (.cells #[.int .i64 1, .int .i64 53, .slice A n cap] 40)).alloc (.cells #[.int .i64 0, .int .i64 0, .int .i64 0, .int .i64 0, .int .i64 0, .int .i64 0, .int .i64 0, .int .i64 0, .int .i64 0, .int .i64 0, .int .i64 0, .int .i64 0, .int .i64 0, .int .i64 0, .int .i64 0, .int .i64 0, .int .i64 0, .int .i64 0, .int .i64 0, .int .i64 0, .int .i64 0, .int .i64 0, .int .i64 0, .int .i64 0, .int .i64 0, .int .i64 0, .int .i64 0, .int .i64 0, .int .i64 0, .int .i64 0, .int .i64 0, .int .i64 0, .int .i64 0, .int .i64 0, .slice none 0 0, .int .i64 0, .int .i64 0, .int .i64 0, .int .i64 0, .int .i64 0, .int .i64 0, .int .i64 0, .int .i64 0, .bool false, .int .i64 0, .int .i64 0, .int .i64 0, .slice none 0 0] 35)).alloc (.cells #[.int .i64 0, .int .i64 0, .int .i64 0, .int .i64 0, .int .i64 0, .int .i64 0, .int .i64 0, .int .i64 0, .int .i64 0, .int .i64 0, .int .i64 0, .int .i64 0, .int .i64 0, .int .i64 0, .int .i64 0, .int .i64 0, .int .i64 0, .int .i64 0, .int .i64 0, .int .i64 0, .int .i64 0, .int .i64 0, .int .i64 0, .int .i64 0, .int .i64 0, .int .i64 0, .int .i64 0, .int .i64 0, .int .i64 0, .int .i64 0, .int .i64 0, .int .i64 0, .int .i64 0, .int .i64 0, .slice none 0 0, .int .i64 0, .int .i64 0, .int .i64 0, .int .i64 0, .int .i64 0, .int .i64 0, .int .i64 0, .int .i64 0, .bool false, .int .i64 0, .int .i64 0, .int .i64 0, .slice none 0 0] 35)) (w.heap.size + 1) ub0 ua0 := x1
  have hm : UbB (((w.alloc (.cells #[.int .i64 1, .int .i64 53, .slice A n cap] 40)).alloc (.cells #[.int .i64 0, .int .i64 0, .int .i64 0, .int .i64 0, .int .i64 0, .int .i64 0, .int .i64 0, .int .i64 0, .int .i64 0, .int .i64 0, .int .i64 0, .int .i64 0, .int .i64 0, .int .i64 0, .int .i64 0, .int .i64 0, .int .i64 0, .int .i64 0, .int .i64 0, .int .i64 0, .int .i64 0, .int .i64 0, .int .i64 0, .int .i64 0, .int .i64 0, .int .i64 0, .int .i64 0, .int .i64 0, .int .i64 0, .int .i64 0, .int .i64 0, .int .i64 0, .int .i64 0, .int .i64 0, .slice none 0 0, .int .i64 0, .int .i64 0, .int .i64 0, .int .i64 0, .int .i64 0, .int .i64 0, .int .i64 0, .int .i64 0, .bool false, .int .i64 0, .int .i64 0, .int .i64 0, .slice none 0 0] 35)).alloc (.cells #[.int .i64 0, .int .i64 0, .int .i64 0, .int .i64 0, .int .i64 0, .int .i64 0, .int .i64 0, .int .i64 0, .int .i64 0, .int .i64 0, .int .i64 0, .int .i64 0, .int .i64 0, .int .i64 0, .int .i64 0, .int .i64 0, .int .i64 0, .int .i64 0, .int .i64 0, .int .i64 0, .int .i64 0, .int .i64 0, .int .i64 0, .int .i64 0, .int .i64 0, .int .i64 0, .int .i64 0, .int .i64 0, .int .i64 0, .int .i64 0, .int .i64 0, .int .i64 0, .int .i64 0, .int .i64 0, .slice none 0 0, .int .i64 0, .int .i64 0, .int .i64 0, .int .i64 0, .int .i64 0, .int .i64 0, .int .i64 0, .int .i64 0, .bool false, .int .i64 0, .int .i64 0, .int .i64 0, .slice none 0 0] 35)) (w.heap.size + 2) ub0 ua0 := x2
  have hr := h.up (hb.mono hB)
  clear x1 x2 h hs
  go_enter Tryz.func18, Tryz.ntmps18
  go_wp2_with (with_reducible refine stop_loadT 3 ?_)
  generalize (((w.alloc (.cells #[.int .i64 1, .int .i64 53, .slice A n cap] 40)).alloc (.cells #[.int .i64 0, .int .i64 0, .int .i64 0, .int .i64 0, .int .i64 0, .int .i64 0, .int .i64 0, .int .i64 0, .int .i64 0, .int .i64 0, .int .i64 0, .int .i64 0, .int .i64 0, .int .i64 0, .int .i64 0, .int .i64 0, .int .i64 0, .int .i64 0, .int .i64 0, .int .i64 0, .int .i64 0, .int .i64 0, .int .i64 0, .int .i64 0, .int .i64 0, .int .i64 0, .int .i64 0, .int .i64 0, .int .i64 0, .int .i64 0, .int .i64 0, .int .i64 0, .int .i64 0, .int .i64 0, .slice none 0 0, .int .i64 0, .int .i64 0, .int .i64 0, .int .i64 0, .int .i64 0, .int .i64 0, .int .i64 0, .int .i64 0, .bool false, .int .i64 0, .int .i64 0, .int .i64 0, .slice none 0 0] 35)).alloc (.cells #[.int .i64 0, .int .i64 0, .int .i64 0, .int .i64 0, .int .i64 0, .int .i64 0, .int .i64 0, .int .i64 0, .int .i64 0, .int .i64 0, .int .i64 0, .int .i64 0, .int .i64 0, .int .i64 0, .int .i64 0, .int .i64 0, .int .i64 0, .int .i64 0, .int .i64 0, .int .i64 0, .int .i64 0, .int .i64 0, .int .i64 0, .int .i64 0, .int .i64 0, .int .i64 0, .int .i64 0, .int .i64 0, .int .i64 0, .int .i64 0, .int .i64 0, .int .i64 0, .int .i64 0, .int .i64 0, .slice none 0 0, .int .i64 0, .int .i64 0, .int .i64 0, .int .i64 0, .int .i64 0, .int .i64 0, .int .i64 0, .int .i64 0, .bool false, .int .i64 0, .int .i64 0, .int .i64 0, .slice none 0 0] 35)) = w1 at *
  have e0 := blk_cell (i := 0) (v := .int .i64 1) x0 rfl
  have e1 := blk_cell (i := 1) (v := .int .i64 53) x0 rfl
  have f0 := hm.kc
  have f1 : w1.frozen? ⟨w.heap.size + 2, 0, none⟩ = false := blk_free hm
  have e2 : (w1.setCell ⟨w.heap.size + 2, 0, none⟩ (.int .i64 2)).cell? ⟨w.heap.size, 2, none⟩ = some (.slice A n cap) := by
    rw [World.cell?_setCell_other _ _ _ _ (by intro e; injection e with e; omega)]
    exact blk_cell (i := 2) x0 rfl
  have hm2 : UbB (w1.setCell ⟨w.heap.size + 2, 0, none⟩ (.int .i64 2)) (w.heap.size + 2) { ub0 with k := 2 } ua0 := blk_set (i := 0) hm (.int .i64 2)
  have haw : Aw (fun k => k = w.heap.size + 2) w1 (w1.setCell ⟨w.heap.size + 2, 0, none⟩ (.int .i64 2)) := Aw.set (U := fun k => k = w.heap.size + 2) (Aw.refl _ w1) (p := ⟨w.heap.size + 2, 0, none⟩) _ rfl
  have hres2 : UbB _ (w.heap.size + 1) ub0 ua0 := haw.keep hres (by omega)
  have hr' := hr.up (below_aw20 (Below.refl B w1) haw (fun k hk => by rw [hk]; omega) (Nat.le_trans hB hb.size))
  have hb' := below_aw20 hb haw (fun k hk => by rw [hk]; omega) hb.size
  clear haw hm hres hr hb x0
  refine go_ ?_
  go_wp2_with fail
  generalize (w1.setCell ⟨w.heap.size + 2, 0, none⟩ (.int .i64 2)) = w2 at *
  have hr := hr'
  have hb := hb'
  clear hr' hb' e0 e1 f0 f1 e2
  go_fit (qsatsTake_anyF A n cap B b w2 hr (Nat.le_trans hB hb.size) hn)
  rintro e w3 ⟨A2, n2, c2, rfl, hr2, hf2, hb3⟩
  have hgm := blk_lt hm2
  have hm3 := hm2.old hb3 hgm
  have hres3 := hres2.old hb3 (blk_lt hres2)
  replace hb := bnx hb hb3
  go_wp2_with (first | (with_reducible refine stop_loadT 26 ?_) | (with_reducible refine stop_storeT 26 ?_) | (with_reducible refine stop_loadG 26 ?_))
  refine go_ (wpList_store_mid rfl _ _ _ rfl (w.heap.size + 2) 33 (saS (satsTt b) A2 n2 c2).toArray rfl rfl (hm3.there rfl rfl (by rw [List.size_toArray]; show 33 + 2 ≤ 48; omega)) (by kernel_rfl) (all_oneCell_toArray (saS_one _ _ _ _)) ?_)
  obtain ⟨hm5, haw⟩ := hm3.set (ubL_sets (V := { ub0 with k := 2 }) rfl)
  have hres := haw.keep hres3 (by omega)
  have hfg : ∀ p, A2 = some p → w.heap.size + 2 < p.block := fun p hp => Nat.lt_of_lt_of_le hgm (hf2 p hp)
  have hr5 : UbR (w3.setCells (w.heap.size + 2) 33 (saS (satsTt b) A2 n2 c2)) (w3.setCells (w.heap.size + 2) 33 (saS (satsTt b) A2 n2 c2)).heap.size V5 { ua0 with A := A2, n := n2, c := c2 } := by rw [HV5.out]; exact ⟨rdr_aw hr2 (Nat.le_refl _) haw (fun p hp => by have := hfg p hp; omega), RdR.none_ _ _ 2⟩
  replace hm5 : UbB (w3.setCells (w.heap.size + 2) 33 (saS (satsTt b) A2 n2 c2)) (w.heap.size + 2) { ub0 with k := 2, t := satsTt b, l := satsTl b } { ua0 with A := A2, n := n2, c := c2 } := hm5
  rw [← HV5.out] at hm5
  rw [← HoE.out]
  have hf5 : ∀ p, UbA.A { ua0 with A := A2, n := n2, c := c2 } = some p ∨ UbA.A' { ua0 with A := A2, n := n2, c := c2 } = some p → w.heap.size + 2 < p.block := (fun p hp => by rcases hp with hp | hp; exact hfg p hp; cases hp)
  replace hb := below_aw20 hb haw (fun k hk => by rw [hk]; omega) hb.size
  have hws := hb.size
  simp only [List.toList_toArray]
  generalize w3.setCells (w.heap.size + 2) 33 (saS (satsTt b) A2 n2 c2) = w5 at *
  generalize ({ ua0 with A := A2, n := n2, c := c2 } : UbA) = a5 at *
  clear hm2 hm3 hres2 hres3 haw hb3 hr
  by_cases he : oE = 0
  · have he' : (oE : Int) = 0 := by omega
    obtain rfl := H0.out he
    go_wp2_with (first | (with_reducible refine stop_loadT 35 ?_) | (with_reducible refine stop_storeT 35 ?_) | (with_reducible refine stop_loadG 35 ?_))
    refine go_ (wpList_load_row rfl _ _ rfl (w.heap.size + 2) rfl _ _ _ _ hm5 Tryz.underlying35 rfl (ub_size V5 a5 HL.out.1 HL.out.2) ?_)
    go_wp2_with (first | (with_reducible refine stop_loadT 35 ?_) | (with_reducible refine stop_storeT 35 ?_) | (with_reducible refine stop_loadG 35 ?_))
    refine go_ (wpList_store_row rfl _ _ _ rfl (w.heap.size + 1) (ubL V5 a5).toArray rfl rfl _ _ hres (ub_size V5 a5 HL.out.1 HL.out.2) (ub_sizes rfl rfl HL.out.1 HL.out.2) (ub_one V5 a5) ?_)
    have hres2 := setRow_heap _ _ _ (ubL V5 a5).toArray _ _ hres
    have haw : Aw (fun k => k = w.heap.size + 1) w5 (w5.setRow (w.heap.size + 1) (ubL V5 a5).toArray) := aw_setRow20 _ _
    have hb6 := below_aw20 hb haw (fun k hk => by rw [hk]; omega) (by omega)
    have hr6 := ubr_aw hr5 haw (fun p hp => by have := hf5 p hp; omega)
    generalize w5.setRow (w.heap.size + 1) (ubL V5 a5).toArray = w6 at *
    go_wp2
    exact bodyPost_ret (results_cell2 rfl _ _ (w.heap.size + 1) _ _ _ _ rfl hres2 Tryz.underlying35 rfl (ub_size V5 a5 HL.out.1 HL.out.2)) rfl ⟨a5, by rw [he]; rfl, hr6, (fun p hp => by have := hf5 p hp; omega), hb6⟩
  · have he' : ¬ (oE : Int) = 0 := by omega
    obtain rfl := H1.out he
    go_wp2_with (first | (with_reducible refine stop_loadT 35 ?_) | (with_reducible refine stop_storeT 35 ?_) | (with_reducible refine stop_loadG 35 ?_))
    refine go_ (wpList_store_row rfl _ _ _ rfl (w.heap.size + 1) (ubL ub0 ua0).toArray rfl rfl _ _ hres (ub_size ub0 ua0 rfl rfl) (ub_sizes rfl rfl rfl rfl) (ub_one ub0 ua0) ?_)
    have hres2 := setRow_heap _ _ _ (ubL ub0 ua0).toArray _ _ hres
    have haw : Aw (fun k => k = w.heap.size + 1) w5 (w5.setRow (w.heap.size + 1) (ubL ub0 ua0).toArray) := aw_setRow20 _ _
    have hb6 := below_aw20 hb haw (fun k hk => by rw [hk]; omega) (by omega)
    generalize w5.setRow (w.heap.size + 1) (ubL ub0 ua0).toArray = w6 at *
    go_wp2
    exact bodyPost_ret (results_cell2 rfl _ _ (w.heap.size + 1) _ _ _ _ rfl hres2 Tryz.underlying35 rfl (ub_size ub0 ua0 rfl rfl)) rfl ⟨ua0, rfl, UbR.nil _ _ _ rfl rfl, (fun p hp => by rcases hp with hp | hp <;> cases hp), hb6⟩

set_option maxRecDepth 10000 in
set_option maxHeartbeats 8000000 in
theorem qubTake_3 (A : Option Addr) (n cap B : Nat) (b : List UInt8) (w : World) (h : Rd w B 1 A n cap (bv b)) (hB : B ≤ w.heap.size) (hn : n ≤ 1000000000) :
    Calls Tryz.prog 18 #[.agg #[.int .i64 1, .int .i64 4, .slice A n cap]] w (RetUT w (ubT 1 4 b) (ubTE 1 4 b)) := by
  have hk : ubKd 1 4 = 3 := by decide
  obtain ⟨oE, hoE⟩ : ∃ oE, oE = shTE dopF b := ⟨_, rfl⟩
  obtain ⟨V5, hV5⟩ : ∃ V5 : UbV, V5 = { ub0 with k := 3, d := takeD dopF b } := ⟨_, rfl⟩
  have HE : Hid (oE = ubTE 1 4 b) := Lib.hid (by rw [hoE]; simp [ubTE, hk])
  have HV : Hid (oE = 0 → V5 = ubTV 1 4 b) := Lib.hid (fun h0 => by rw [hoE] at h0; rw [hV5]; simp [ubTV, hk, h0])
  obtain ⟨UT, hUT⟩ : ∃ UT, UT = ubT 1 4 b := ⟨_, rfl⟩
  have H0 : Hid (oE = 0 → V5 = UT) := Lib.hid (fun he => by rw [HV.out he, hUT]; unfold ubT; rw [if_pos (HE.out.symm.trans he)])
  have H1 : Hid (oE ≠ 0 → UT = ub0) := Lib.hid (fun he => by rw [hUT]; unfold ubT; rw [if_neg (by rw [← HE.out]; exact he)])
  have HL : Hid (V5.p.length = 32 ∧ V5.d.length = 8) := Lib.hid (by rw [hV5]; exact ⟨rfl, dopD_len b⟩)
  rw [← hUT, ← HE.out]
  have HoE := Lib.hid hoE
  have HV5 := Lib.hid hV5
  clear hoE hV5 hk hUT HE HV
  obtain ⟨x0, x1, x2, hs, hb⟩ := al3 w (.cells #[.int .i64 1, .int .i64 4, .slice A n cap] 40) (.cells #[.int .i64 0, .int .i64 0, .int .i64 0, .int .i64 0, .int .i64 0, .int .i64 0, .int .i64 0, .int .i64 0, .int .i64 0, .int .i64 0, .int .i64 0, .int .i64 0, .int .i64 0, .int .i64 0, .int .i64 0, .int .i64 0, .int .i64 0, .int .i64 0, .int .i64 0, .int .i64 0, .int .i64 0, .int .i64 0, .int .i64 0, .int .i64 0, .int .i64 0, .int .i64 0, .int .i64 0, .int .i64 0, .int .i64 0, .int .i64 0, .int .i64 0, .int .i64 0, .int .i64 0, .int .i64 0, .slice none 0 0, .int .i64 0, .int .i64 0, .int .i64 0, .int .i64 0, .int .i64 0, .int .i64 0, .int .i64 0, .int .i64 0, .bool false, .int .i64 0, .int .i64 0, .int .i64 0, .slice none 0 0] 35) (.cells #[.int .i64 0, .int .i64 0, .int .i64 0, .int .i64 0, .int .i64 0, .int .i64 0, .int .i64 0, .int .i64 0, .int .i64 0, .int .i64 0, .int .i64 0, .int .i64 0, .int .i64 0, .int .i64 0, .int .i64 0, .int .i64 0, .int .i64 0, .int .i64 0, .int .i64 0, .int .i64 0, .int .i64 0, .int .i64 0, .int .i64 0, .int .i64 0, .int .i64 0, .int .i64 0, .int .i64 0, .int .i64 0, .int .i64 0, .int .i64 0, .int .i64 0, .int .i64 0, .int .i64 0, .int .i64 0, .slice none 0 0, .int .i64 0, .int .i64 0, .int .i64 0, .int .i64 0, .int .i64 0, .int .i64 0, .int .i64 0, .int .i64 0, .bool false, .int .i64 0, .int .i64 0, .int .i64 0, .slice none 0 0] 35)
  have hres : UbB (((w.alloc (.cells #[.int .i64 1, .int .i64 4, .slice A n cap] 40)).alloc (.cells #[.int .i64 0, .int .i64 0, .int .i64 0, .int .i64 0, .int .i64 0, .int .i64 0, .int .i64 0, .int .i64 0, .int .i64 0, .int .i64 0, .int .i64 0, .int .i64 0, .int .i64 0, .int .i64 0, .int .i64 0, .int .i64 0, .int .i64 0, .int .i64 0, .int .i64 0, .int .i64 0, .int .i64 0, .int .i64 0, .int .i64 0, .int .i64 0, .int .i64 0, .int .i64 0, .int .i64 0, .int .i64 0, .int .i64 0, .int .i64 0, .int .i64 0, .int .i64 0, .int .i64 0, .int .i64 0, .slice none 0 0, .int .i64 0, .int .i64 0, .int .i64 0, .int .i64 0, .int .i64 0, .int .i64 0, .int .i64 0, .int .i64 0, .bool false, .int .i64 0, .int .i64 0, .int .i64 0, .slice none 0 0] 35)).alloc (.cells #[.int .i64 0, .int .i64 0, .int .i64 0, .int .i64 0, .int .i64 0, .int .i64 0, .int .i64 0, .int .i64 0, .int .i64 0, .int .i64 0, .int .i64 0, .int .i64 0, .int .i64 0, .int .i64 0, .int .i64 0, .int .i64 0, .int .i64 0, .int .i64 0, .int .i64 0, .int .i64 0, .int .i64 0, .int .i64 0, .int .i64 0, .int .i64 0, .int .i64 0, .int .i64 0, .int .i64 0, .int .i64 0, .int .i64 0, .int .i64 0, .int .i64 0, .int .i64 0, .int .i64 0, .int .i64 0, .slice none 0 0, .int .i64 0, .int .i64 0, .int .i64 0, .int .i64 0, .int .i64 0, .int .i64 0, .int .i64 0, .int .i64 0, .bool false, .int .i64 0, .int .i64 0, .int .i64 0, .slice none 0 0] 35)) (w.heap.size + 1) ub0 ua0 := x1
  have hm : UbB (((w.alloc (.cells #[.int .i64 1, .int .i64 4, .slice A n cap] 40)).alloc (.cells #[.int .i64 0, .int .i64 0, .int .i64 0, .int .i64 0, .int .i64 0, .int .i64 0, .int .i64 0, .int .i64 0, .int .i64 0, .int .i64 0, .int .i64 0, .int .i64 0, .int .i64 0, .int .i64 0, .int .i64 0, .int .i64 0, .int .i64 0, .int .i64 0, .int .i64 0, .int .i64 0, .int .i64 0, .int .i64 0, .int .i64 0, .int .i64 0, .int .i64 0, .int .i64 0, .int .i64 0, .int .i64 0, .int .i64 0, .int .i64 0, .int .i64 0, .int .i64 0, .int .i64 0, .int .i64 0, .slice none 0 0, .int .i64 0, .int .i64 0, .int .i64 0, .int .i64 0, .int .i64 0, .int .i64 0, .int .i64 0, .int .i64 0, .bool false, .int .i64 0, .int .i64 0, .int .i64 0, .slice none 0 0] 35)).alloc (.cells #[.int .i64 0, .int .i64 0, .int .i64 0, .int .i64 0, .int .i64 0, .int .i64 0, .int .i64 0, .int .i64 0, .int .i64 0, .int .i64 0, .int .i64 0, .int .i64 0, .int .i64 0, .int .i64 0, .int .i64 0, .int .i64 0, .int .i64 0, .int .i64 0, .int .i64 0, .int .i64 0, .int .i64 0, .int .i64 0, .int .i64 0, .int .i64 0, .int .i64 0, .int .i64 0, .int .i64 0, .int .i64 0, .int .i64 0, .int .i64 0, .int .i64 0, .int .i64 0, .int .i64 0, .int .i64 0, .slice none 0 0, .int .i64 0, .int .i64 0, .int .i64 0, .int .i64 0, .int .i64 0, .int .i64 0, .int .i64 0, .int .i64 0, .bool false, .int .i64 0, .int .i64 0, .int .i64 0, .slice none 0 0] 35)) (w.heap.size + 2) ub0 ua0 := x2
  have hr := h.up (hb.mono hB)
  clear x1 x2 h hs
  go_enter Tryz.func18, Tryz.ntmps18
  go_wp2_with (with_reducible refine stop_loadT 3 ?_)
  generalize (((w.alloc (.cells #[.int .i64 1, .int .i64 4, .slice A n cap] 40)).alloc (.cells #[.int .i64 0, .int .i64 0, .int .i64 0, .int .i64 0, .int .i64 0, .int .i64 0, .int .i64 0, .int .i64 0, .int .i64 0, .int .i64 0, .int .i64 0, .int .i64 0, .int .i64 0, .int .i64 0, .int .i64 0, .int .i64 0, .int .i64 0, .int .i64 0, .int .i64 0, .int .i64 0, .int .i64 0, .int .i64 0, .int .i64 0, .int .i64 0, .int .i64 0, .int .i64 0, .int .i64 0, .int .i64 0, .int .i64 0, .int .i64 0, .int .i64 0, .int .i64 0, .int .i64 0, .int .i64 0, .slice none 0 0, .int .i64 0, .int .i64 0, .int .i64 0, .int .i64 0, .int .i64 0, .int .i64 0, .int .i64 0, .int .i64 0, .bool false, .int .i64 0, .int .i64 0, .int .i64 0, .slice none 0 0] 35)).alloc (.cells #[.int .i64 0, .int .i64 0, .int .i64 0, .int .i64 0, .int .i64 0, .int .i64 0, .int .i64 0, .int .i64 0, .int .i64 0, .int .i64 0, .int .i64 0, .int .i64 0, .int .i64 0, .int .i64 0, .int .i64 0, .int .i64 0, .int .i64 0, .int .i64 0, .int .i64 0, .int .i64 0, .int .i64 0, .int .i64 0, .int .i64 0, .int .i64 0, .int .i64 0, .int .i64 0, .int .i64 0, .int .i64 0, .int .i64 0, .int .i64 0, .int .i64 0, .int .i64 0, .int .i64 0, .int .i64 0, .slice none 0 0, .int .i64 0, .int .i64 0, .int .i64 0, .int .i64 0, .int .i64 0, .int .i64 0, .int .i64 0, .int .i64 0, .bool false, .int .i64 0, .int .i64 0, .int .i64 0, .slice none 0 0] 35)) = w1 at *
  have e0 := blk_cell (i := 0) (v := .int .i64 1) x0 rfl
  have e1 := blk_cell (i := 1) (v := .int .i64 4) x0 rfl
  have f0 := hm.kc
  have f1 : w1.frozen? ⟨w.heap.size + 2, 0, none⟩ = false := blk_free hm
  have e2 : (w1.setCell ⟨w.heap.size + 2, 0, none⟩ (.int .i64 3)).cell? ⟨w.heap.size, 2, none⟩ = some (.slice A n cap) := by
    rw [World.cell?_setCell_other _ _ _ _ (by intro e; injection e with e; omega)]
    exact blk_cell (i := 2) x0 rfl
  have hm2 : UbB (w1.setCell ⟨w.heap.size + 2, 0, none⟩ (.int .i64 3)) (w.heap.size + 2) { ub0 with k := 3 } ua0 := blk_set (i := 0) hm (.int .i64 3)
  have haw : Aw (fun k => k = w.heap.size + 2) w1 (w1.setCell ⟨w.heap.size + 2, 0, none⟩ (.int .i64 3)) := Aw.set (U := fun k => k = w.heap.size + 2) (Aw.refl _ w1) (p := ⟨w.heap.size + 2, 0, none⟩) _ rfl
  have hres2 : UbB _ (w.heap.size + 1) ub0 ua0 := haw.keep hres (by omega)
  have hr' := hr.up (below_aw20 (Below.refl B w1) haw (fun k hk => by rw [hk]; omega) (Nat.le_trans hB hb.size))
  have hb' := below_aw20 hb haw (fun k hk => by rw [hk]; omega) hb.size
  clear haw hm hres hr hb x0
  refine go_ ?_
  go_wp2_with fail
  generalize (w1.setCell ⟨w.heap.size + 2, 0, none⟩ (.int .i64 3)) = w2 at *
  have hr := hr'
  have hb := hb'
  clear hr' hb' e0 e1 f0 f1 e2
  go_fit (qdopTake_l A n cap B b w2 hr (Nat.le_trans hB hb.size) hn)
  rintro e w3 ⟨rfl, hb3⟩
  have hgm := blk_lt hm2
  have hm3 := hm2.old hb3 hgm
  have hres3 := hres2.old hb3 (blk_lt hres2)
  replace hb := bnx hb hb3
  go_wp2_with (first | (with_reducible refine stop_loadT 28 ?_) | (with_reducible refine stop_storeT 28 ?_) | (with_reducible refine stop_loadG 28 ?_))
  refine go_ (wpList_store_mid rfl _ _ _ rfl (w.heap.size + 2) 35 (i64s (takeD dopF b)).toArray rfl rfl (hm3.there rfl rfl (by rw [List.size_toArray]; rw [i64s_len, dopD_len]; omega)) (by rw [List.size_toArray, i64s_len, dopD_len]; kernel_rfl) (all_oneCell_toArray (i64v_one _)) ?_)
  obtain ⟨hm5, haw⟩ := hm3.set (ubL_setd rfl rfl (dopD_len b))
  have hres := haw.keep hres3 (by omega)
  have hr5 : UbR (w3.setCells (w.heap.size + 2) 35 (i64s (takeD dopF b))) (w3.setCells (w.heap.size + 2) 35 (i64s (takeD dopF b))).heap.size V5 ua0 := by rw [HV5.out]; exact UbR.nil _ _ _ rfl rfl
  replace hm5 : UbB (w3.setCells (w.heap.size + 2) 35 (i64s (takeD dopF b))) (w.heap.size + 2) { ub0 with k := 3, d := takeD dopF b } ua0 := hm5
  rw [← HV5.out] at hm5
  rw [← HoE.out]
  have hf5 : ∀ p, UbA.A ua0 = some p ∨ UbA.A' ua0 = some p → w.heap.size + 2 < p.block := (fun p hp => by rcases hp with hp | hp <;> cases hp)
  replace hb := below_aw20 hb haw (fun k hk => by rw [hk]; omega) hb.size
  have hws := hb.size
  simp only [List.toList_toArray]
  generalize w3.setCells (w.heap.size + 2) 35 (i64s (takeD dopF b)) = w5 at *
  generalize (ua0 : UbA) = a5 at *
  clear hm2 hm3 hres2 hres3 haw hb3 hr
  by_cases he : oE = 0
  · have he' : (oE : Int) = 0 := by omega
    obtain rfl := H0.out he
    go_wp2_with (first | (with_reducible refine stop_loadT 35 ?_) | (with_reducible refine stop_storeT 35 ?_) | (with_reducible refine stop_loadG 35 ?_))
    refine go_ (wpList_load_row rfl _ _ rfl (w.heap.size + 2) rfl _ _ _ _ hm5 Tryz.underlying35 rfl (ub_size V5 a5 HL.out.1 HL.out.2) ?_)
    go_wp2_with (first | (with_reducible refine stop_loadT 35 ?_) | (with_reducible refine stop_storeT 35 ?_) | (with_reducible refine stop_loadG 35 ?_))
    refine go_ (wpList_store_row rfl _ _ _ rfl (w.heap.size + 1) (ubL V5 a5).toArray rfl rfl _ _ hres (ub_size V5 a5 HL.out.1 HL.out.2) (ub_sizes rfl rfl HL.out.1 HL.out.2) (ub_one V5 a5) ?_)
    have hres2 := setRow_heap _ _ _ (ubL V5 a5).toArray _ _ hres
    have haw : Aw (fun k => k = w.heap.size + 1) w5 (w5.setRow (w.heap.size + 1) (ubL V5 a5).toArray) := aw_setRow20 _ _
    have hb6 := below_aw20 hb haw (fun k hk => by rw [hk]; omega) (by omega)
    have hr6 := ubr_aw hr5 haw (fun p hp => by have := hf5 p hp; omega)
    generalize w5.setRow (w.heap.size + 1) (ubL V5 a5).toArray = w6 at *
    go_wp2
    exact bodyPost_ret (results_cell2 rfl _ _ (w.heap.size + 1) _ _ _ _ rfl hres2 Tryz.underlying35 rfl (ub_size V5 a5 HL.out.1 HL.out.2)) rfl ⟨a5, by rw [he]; rfl, hr6, (fun p hp => by have := hf5 p hp; omega), hb6⟩
  · have he' : ¬ (oE : Int) = 0 := by omega
    obtain rfl := H1.out he
    go_wp2_with (first | (with_reducible refine stop_loadT 35 ?_) | (with_reducible refine stop_storeT 35 ?_) | (with_reducible refine stop_loadG 35 ?_))
    refine go_ (wpList_store_row rfl _ _ _ rfl (w.heap.size + 1) (ubL ub0 ua0).toArray rfl rfl _ _ hres (ub_size ub0 ua0 rfl rfl) (ub_sizes rfl rfl rfl rfl) (ub_one ub0 ua0) ?_)
    have hres2 := setRow_heap _ _ _ (ubL ub0 ua0).toArray _ _ hres
    have haw : Aw (fun k => k = w.heap.size + 1) w5 (w5.setRow (w.heap.size + 1) (ubL ub0 ua0).toArray) := aw_setRow20 _ _
    have hb6 := below_aw20 hb haw (fun k hk => by rw [hk]; omega) (by omega)
    generalize w5.setRow (w.heap.size + 1) (ubL ub0 ua0).toArray = w6 at *
    go_wp2
    exact bodyPost_ret (results_cell2 rfl _ _ (w.heap.size + 1) _ _ _ _ rfl hres2 Tryz.underlying35 rfl (ub_size ub0 ua0 rfl rfl)) rfl ⟨ua0, rfl, UbR.nil _ _ _ rfl rfl, (fun p hp => by rcases hp with hp | hp <;> cases hp), hb6⟩

set_option maxRecDepth 10000 in
set_option maxHeartbeats 8000000 in
theorem qubTake_4n (A : Option Addr) (n cap B : Nat) (b : List UInt8) (w : World) (h : Rd w B 1 A n cap (bv b)) (hB : B ≤ w.heap.size) (hn : n ≤ 1000000000) :
    Calls Tryz.prog 18 #[.agg #[.int .i64 5, .int .i64 0, .slice A n cap]] w (RetUT w (ubT 5 0 b) (ubTE 5 0 b)) := by
  have hk : ubKd 5 0 = 4 := by decide
  obtain ⟨oE, hoE⟩ : ∃ oE, oE = shTE ackF b := ⟨_, rfl⟩
  obtain ⟨yv, hyv⟩ : ∃ yv, yv = (if shTE ackF b = 0 then false else false) := ⟨_, rfl⟩
  obtain ⟨x0v, hx0v⟩ : ∃ x, x = (takeD ackF b).getD 0 0 := ⟨_, rfl⟩
  obtain ⟨x1v, hx1v⟩ : ∃ x, x = (takeD ackF b).getD 1 0 := ⟨_, rfl⟩
  have Htk := Lib.hid (fun w1 h1 hB1 => qackTake_l A n cap B b false w1 h1 hB1 hn)
  rw [← hyv, ← hx0v, ← hx1v] at Htk
  obtain ⟨V5, hV5⟩ : ∃ V5 : UbV, V5 = { ub0 with k := 4, y := yv, a1 := x0v, a2 := x1v } := ⟨_, rfl⟩
  have HE : Hid (oE = ubTE 5 0 b) := Lib.hid (by rw [hoE]; simp [ubTE, hk])
  have HV : Hid (oE = 0 → V5 = ubTV 5 0 b) := Lib.hid (fun h0 => by rw [hoE] at h0; rw [hV5, hyv, hx0v, hx1v, if_pos h0]; simp [ubTV, hk])
  obtain ⟨UT, hUT⟩ : ∃ UT, UT = ubT 5 0 b := ⟨_, rfl⟩
  have H0 : Hid (oE = 0 → V5 = UT) := Lib.hid (fun he => by rw [HV.out he, hUT]; unfold ubT; rw [if_pos (HE.out.symm.trans he)])
  have H1 : Hid (oE ≠ 0 → UT = ub0) := Lib.hid (fun he => by rw [hUT]; unfold ubT; rw [if_neg (by rw [← HE.out]; exact he)])
  have HL : Hid (V5.p.length = 32 ∧ V5.d.length = 8) := Lib.hid (by rw [hV5]; exact ⟨rfl, rfl⟩)
  rw [← hUT, ← HE.out]
  have HoE := Lib.hid hoE
  have HV5 := Lib.hid hV5
  clear hoE hV5 hk hUT HE HV hyv hx0v hx1v
  obtain ⟨x0, x1, x2, hs, hb⟩ := al3 w (.cells #[.int .i64 5, .int .i64 0, .slice A n cap] 40) (.cells #[.int .i64 0, .int .i64 0, .int .i64 0, .int .i64 0, .int .i64 0, .int .i64 0, .int .i64 0, .int .i64 0, .int .i64 0, .int .i64 0, .int .i64 0, .int .i64 0, .int .i64 0, .int .i64 0, .int .i64 0, .int .i64 0, .int .i64 0, .int .i64 0, .int .i64 0, .int .i64 0, .int .i64 0, .int .i64 0, .int .i64 0, .int .i64 0, .int .i64 0, .int .i64 0, .int .i64 0, .int .i64 0, .int .i64 0, .int .i64 0, .int .i64 0, .int .i64 0, .int .i64 0, .int .i64 0, .slice none 0 0, .int .i64 0, .int .i64 0, .int .i64 0, .int .i64 0, .int .i64 0, .int .i64 0, .int .i64 0, .int .i64 0, .bool false, .int .i64 0, .int .i64 0, .int .i64 0, .slice none 0 0] 35) (.cells #[.int .i64 0, .int .i64 0, .int .i64 0, .int .i64 0, .int .i64 0, .int .i64 0, .int .i64 0, .int .i64 0, .int .i64 0, .int .i64 0, .int .i64 0, .int .i64 0, .int .i64 0, .int .i64 0, .int .i64 0, .int .i64 0, .int .i64 0, .int .i64 0, .int .i64 0, .int .i64 0, .int .i64 0, .int .i64 0, .int .i64 0, .int .i64 0, .int .i64 0, .int .i64 0, .int .i64 0, .int .i64 0, .int .i64 0, .int .i64 0, .int .i64 0, .int .i64 0, .int .i64 0, .int .i64 0, .slice none 0 0, .int .i64 0, .int .i64 0, .int .i64 0, .int .i64 0, .int .i64 0, .int .i64 0, .int .i64 0, .int .i64 0, .bool false, .int .i64 0, .int .i64 0, .int .i64 0, .slice none 0 0] 35)
  have hres : UbB (((w.alloc (.cells #[.int .i64 5, .int .i64 0, .slice A n cap] 40)).alloc (.cells #[.int .i64 0, .int .i64 0, .int .i64 0, .int .i64 0, .int .i64 0, .int .i64 0, .int .i64 0, .int .i64 0, .int .i64 0, .int .i64 0, .int .i64 0, .int .i64 0, .int .i64 0, .int .i64 0, .int .i64 0, .int .i64 0, .int .i64 0, .int .i64 0, .int .i64 0, .int .i64 0, .int .i64 0, .int .i64 0, .int .i64 0, .int .i64 0, .int .i64 0, .int .i64 0, .int .i64 0, .int .i64 0, .int .i64 0, .int .i64 0, .int .i64 0, .int .i64 0, .int .i64 0, .int .i64 0, .slice none 0 0, .int .i64 0, .int .i64 0, .int .i64 0, .int .i64 0, .int .i64 0, .int .i64 0, .int .i64 0, .int .i64 0, .bool false, .int .i64 0, .int .i64 0, .int .i64 0, .slice none 0 0] 35)).alloc (.cells #[.int .i64 0, .int .i64 0, .int .i64 0, .int .i64 0, .int .i64 0, .int .i64 0, .int .i64 0, .int .i64 0, .int .i64 0, .int .i64 0, .int .i64 0, .int .i64 0, .int .i64 0, .int .i64 0, .int .i64 0, .int .i64 0, .int .i64 0, .int .i64 0, .int .i64 0, .int .i64 0, .int .i64 0, .int .i64 0, .int .i64 0, .int .i64 0, .int .i64 0, .int .i64 0, .int .i64 0, .int .i64 0, .int .i64 0, .int .i64 0, .int .i64 0, .int .i64 0, .int .i64 0, .int .i64 0, .slice none 0 0, .int .i64 0, .int .i64 0, .int .i64 0, .int .i64 0, .int .i64 0, .int .i64 0, .int .i64 0, .int .i64 0, .bool false, .int .i64 0, .int .i64 0, .int .i64 0, .slice none 0 0] 35)) (w.heap.size + 1) ub0 ua0 := x1
  have hm : UbB (((w.alloc (.cells #[.int .i64 5, .int .i64 0, .slice A n cap] 40)).alloc (.cells #[.int .i64 0, .int .i64 0, .int .i64 0, .int .i64 0, .int .i64 0, .int .i64 0, .int .i64 0, .int .i64 0, .int .i64 0, .int .i64 0, .int .i64 0, .int .i64 0, .int .i64 0, .int .i64 0, .int .i64 0, .int .i64 0, .int .i64 0, .int .i64 0, .int .i64 0, .int .i64 0, .int .i64 0, .int .i64 0, .int .i64 0, .int .i64 0, .int .i64 0, .int .i64 0, .int .i64 0, .int .i64 0, .int .i64 0, .int .i64 0, .int .i64 0, .int .i64 0, .int .i64 0, .int .i64 0, .slice none 0 0, .int .i64 0, .int .i64 0, .int .i64 0, .int .i64 0, .int .i64 0, .int .i64 0, .int .i64 0, .int .i64 0, .bool false, .int .i64 0, .int .i64 0, .int .i64 0, .slice none 0 0] 35)).alloc (.cells #[.int .i64 0, .int .i64 0, .int .i64 0, .int .i64 0, .int .i64 0, .int .i64 0, .int .i64 0, .int .i64 0, .int .i64 0, .int .i64 0, .int .i64 0, .int .i64 0, .int .i64 0, .int .i64 0, .int .i64 0, .int .i64 0, .int .i64 0, .int .i64 0, .int .i64 0, .int .i64 0, .int .i64 0, .int .i64 0, .int .i64 0, .int .i64 0, .int .i64 0, .int .i64 0, .int .i64 0, .int .i64 0, .int .i64 0, .int .i64 0, .int .i64 0, .int .i64 0, .int .i64 0, .int .i64 0, .slice none 0 0, .int .i64 0, .int .i64 0, .int .i64 0, .int .i64 0, .int .i64 0, .int .i64 0, .int .i64 0, .int .i64 0, .bool false, .int .i64 0, .int .i64 0, .int .i64 0, .slice none 0 0] 35)) (w.heap.size + 2) ub0 ua0 := x2
  have hr := h.up (hb.mono hB)
  clear x1 x2 h hs
  go_enter Tryz.func18, Tryz.ntmps18
  go_wp2_with (with_reducible refine stop_loadT 3 ?_)
  generalize (((w.alloc (.cells #[.int .i64 5, .int .i64 0, .slice A n cap] 40)).alloc (.cells #[.int .i64 0, .int .i64 0, .int .i64 0, .int .i64 0, .int .i64 0, .int .i64 0, .int .i64 0, .int .i64 0, .int .i64 0, .int .i64 0, .int .i64 0, .int .i64 0, .int .i64 0, .int .i64 0, .int .i64 0, .int .i64 0, .int .i64 0, .int .i64 0, .int .i64 0, .int .i64 0, .int .i64 0, .int .i64 0, .int .i64 0, .int .i64 0, .int .i64 0, .int .i64 0, .int .i64 0, .int .i64 0, .int .i64 0, .int .i64 0, .int .i64 0, .int .i64 0, .int .i64 0, .int .i64 0, .slice none 0 0, .int .i64 0, .int .i64 0, .int .i64 0, .int .i64 0, .int .i64 0, .int .i64 0, .int .i64 0, .int .i64 0, .bool false, .int .i64 0, .int .i64 0, .int .i64 0, .slice none 0 0] 35)).alloc (.cells #[.int .i64 0, .int .i64 0, .int .i64 0, .int .i64 0, .int .i64 0, .int .i64 0, .int .i64 0, .int .i64 0, .int .i64 0, .int .i64 0, .int .i64 0, .int .i64 0, .int .i64 0, .int .i64 0, .int .i64 0, .int .i64 0, .int .i64 0, .int .i64 0, .int .i64 0, .int .i64 0, .int .i64 0, .int .i64 0, .int .i64 0, .int .i64 0, .int .i64 0, .int .i64 0, .int .i64 0, .int .i64 0, .int .i64 0, .int .i64 0, .int .i64 0, .int .i64 0, .int .i64 0, .int .i64 0, .slice none 0 0, .int .i64 0, .int .i64 0, .int .i64 0, .int .i64 0, .int .i64 0, .int .i64 0, .int .i64 0, .int .i64 0, .bool false, .int .i64 0, .int .i64 0, .int .i64 0, .slice none 0 0] 35)) = w1 at *
  have e0 := blk_cell (i := 0) (v := .int .i64 5) x0 rfl
  have e1 := blk_cell (i := 1) (v := .int .i64 0) x0 rfl
  have f0 := hm.kc
  have f1 : w1.frozen? ⟨w.heap.size + 2, 0, none⟩ = false := blk_free hm
  have e2 : (w1.setCell ⟨w.heap.size + 2, 0, none⟩ (.int .i64 4)).cell? ⟨w.heap.size, 2, none⟩ = some (.slice A n cap) := by
    rw [World.cell?_setCell_other _ _ _ _ (by intro e; injection e with e; omega)]
    exact blk_cell (i := 2) x0 rfl
  have e1' : (w1.setCell ⟨w.heap.size + 2, 0, none⟩ (.int .i64 4)).cell? ⟨w.heap.size, 1, none⟩ = some (.int .i64 0) := by
    rw [World.cell?_setCell_other _ _ _ _ (by intro e; injection e with e; omega)]
    exact e1
  have hm2 : UbB (w1.setCell ⟨w.heap.size + 2, 0, none⟩ (.int .i64 4)) (w.heap.size + 2) { ub0 with k := 4 } ua0 := blk_set (i := 0) hm (.int .i64 4)
  have haw : Aw (fun k => k = w.heap.size + 2) w1 (w1.setCell ⟨w.heap.size + 2, 0, none⟩ (.int .i64 4)) := Aw.set (U := fun k => k = w.heap.size + 2) (Aw.refl _ w1) (p := ⟨w.heap.size + 2, 0, none⟩) _ rfl
  have hres2 : UbB _ (w.heap.size + 1) ub0 ua0 := haw.keep hres (by omega)
  have hr' := hr.up (below_aw20 (Below.refl B w1) haw (fun k hk => by rw [hk]; omega) (Nat.le_trans hB hb.size))
  have hb' := below_aw20 hb haw (fun k hk => by rw [hk]; omega) hb.size
  clear haw hm hres hr hb x0
  refine go_ ?_
  go_wp2_with fail
  generalize (w1.setCell ⟨w.heap.size + 2, 0, none⟩ (.int .i64 4)) = w2 at *
  have hr := hr'
  have hb := hb'
  clear hr' hb' e0 e1 f0 f1 e2
  go_fit (Htk.out w2 hr (Nat.le_trans hB hb.size))
  rintro e w3 ⟨rfl, hb3⟩
  have hgm := blk_lt hm2
  have hm3 := hm2.old hb3 hgm
  have hres3 := hres2.old hb3 (blk_lt hres2)
  replace hb := bnx hb hb3
  go_wp2_with (first | (with_reducible refine stop_loadT 30 ?_) | (with_reducible refine stop_storeT 30 ?_) | (with_reducible refine stop_loadG 30 ?_))
  refine go_ (wpList_store_mid rfl _ _ _ rfl (w.heap.size + 2) 43 (acS yv x0v x1v).toArray rfl rfl (hm3.there rfl rfl (by rw [List.size_toArray]; show 43 + 3 ≤ 48; omega)) (by kernel_rfl) (all_oneCell_toArray (acS_one _ _ _)) ?_)
  obtain ⟨hm5, haw⟩ := hm3.set (ubL_seta rfl rfl)
  have hres := haw.keep hres3 (by omega)
  have hr5 : UbR (w3.setCells (w.heap.size + 2) 43 (acS yv x0v x1v)) (w3.setCells (w.heap.size + 2) 43 (acS yv x0v x1v)).heap.size V5 ua0 := by rw [HV5.out]; exact UbR.nil _ _ _ rfl rfl
  replace hm5 : UbB (w3.setCells (w.heap.size + 2) 43 (acS yv x0v x1v)) (w.heap.size + 2) { ub0 with k := 4, y := yv, a1 := x0v, a2 := x1v } ua0 := hm5
  rw [← HV5.out] at hm5
  rw [← HoE.out]
  have hf5 : ∀ p, UbA.A ua0 = some p ∨ UbA.A' ua0 = some p → w.heap.size + 2 < p.block := (fun p hp => by rcases hp with hp | hp <;> cases hp)
  replace hb := below_aw20 hb haw (fun k hk => by rw [hk]; omega) hb.size
  have hws := hb.size
  simp only [List.toList_toArray]
  generalize w3.setCells (w.heap.size + 2) 43 (acS yv x0v x1v) = w5 at *
  generalize (ua0 : UbA) = a5 at *
  clear hm2 hm3 hres2 hres3 haw hb3 hr
  by_cases he : oE = 0
  · have he' : (oE : Int) = 0 := by omega
    obtain rfl := H0.out he
    go_wp2_with (first | (with_reducible refine stop_loadT 35 ?_) | (with_reducible refine stop_storeT 35 ?_) | (with_reducible refine stop_loadG 35 ?_))
    refine go_ (wpList_load_row rfl _ _ rfl (w.heap.size + 2) rfl _ _ _ _ hm5 Tryz.underlying35 rfl (ub_size V5 a5 HL.out.1 HL.out.2) ?_)
    go_wp2_with (first | (with_reducible refine stop_loadT 35 ?_) | (with_reducible refine stop_storeT 35 ?_) | (with_reducible refine stop_loadG 35 ?_))
    refine go_ (wpList_store_row rfl _ _ _ rfl (w.heap.size + 1) (ubL V5 a5).toArray rfl rfl _ _ hres (ub_size V5 a5 HL.out.1 HL.out.2) (ub_sizes rfl rfl HL.out.1 HL.out.2) (ub_one V5 a5) ?_)
    have hres2 := setRow_heap _ _ _ (ubL V5 a5).toArray _ _ hres
    have haw : Aw (fun k => k = w.heap.size + 1) w5 (w5.setRow (w.heap.size + 1) (ubL V5 a5).toArray) := aw_setRow20 _ _
    have hb6 := below_aw20 hb haw (fun k hk => by rw [hk]; omega) (by omega)
    have hr6 := ubr_aw hr5 haw (fun p hp => by have := hf5 p hp; omega)
    generalize w5.setRow (w.heap.size + 1) (ubL V5 a5).toArray = w6 at *
    go_wp2
    exact bodyPost_ret (results_cell2 rfl _ _ (w.heap.size + 1) _ _ _ _ rfl hres2 Tryz.underlying35 rfl (ub_size V5 a5 HL.out.1 HL.out.2)) rfl ⟨a5, by rw [he]; rfl, hr6, (fun p hp => by have := hf5 p hp; omega), hb6⟩
  · have he' : ¬ (oE : Int) = 0 := by omega
    obtain rfl := H1.out he
    go_wp2_with (first | (with_reducible refine stop_loadT 35 ?_) | (with_reducible refine stop_storeT 35 ?_) | (with_reducible refine stop_loadG 35 ?_))
    refine go_ (wpList_store_row rfl _ _ _ rfl (w.heap.size + 1) (ubL ub0 ua0).toArray rfl rfl _ _ hres (ub_size ub0 ua0 rfl rfl) (ub_sizes rfl rfl rfl rfl) (ub_one ub0 ua0) ?_)
    have hres2 := setRow_heap _ _ _ (ubL ub0 ua0).toArray _ _ hres
    have haw : Aw (fun k => k = w.heap.size + 1) w5 (w5.setRow (w.heap.size + 1) (ubL ub0 ua0).toArray) := aw_setRow20 _ _
    have hb6 := below_aw20 hb haw (fun k hk => by rw [hk]; omega) (by omega)
    generalize w5.setRow (w.heap.size + 1) (ubL ub0 ua0).toArray = w6 at *
    go_wp2
    exact bodyPost_ret (results_cell2 rfl _ _ (w.heap.size + 1) _ _ _ _ rfl hres2 Tryz.underlying35 rfl (ub_size ub0 ua0 rfl rfl)) rfl ⟨ua0, rfl, UbR.nil _ _ _ rfl rfl, (fun p hp => by rcases hp with hp | hp <;> cases hp), hb6⟩

set_option maxRecDepth 10000 in
set_option maxHeartbeats 8000000 in
theorem qubTake_4y (A : Option Addr) (n cap B : Nat) (b : List UInt8) (w : World) (h : Rd w B 1 A n cap (bv b)) (hB : B ≤ w.heap.size) (hn : n ≤ 1000000000) :
    Calls Tryz.prog 18 #[.agg #[.int .i64 5, .int .i64 1, .slice A n cap]] w (RetUT w (ubT 5 1 b) (ubTE 5 1 b)) := by
  have hk : ubKd 5 1 = 4 := by decide
  obtain ⟨oE, hoE⟩ : ∃ oE, oE = shTE ackF b := ⟨_, rfl⟩
  obtain ⟨yv, hyv⟩ : ∃ yv, yv = (if shTE ackF b = 0 then true else false) := ⟨_, rfl⟩
  obtain ⟨x0v, hx0v⟩ : ∃ x, x = (takeD ackF b).getD 0 0 := ⟨_, rfl⟩
  obtain ⟨x1v, hx1v⟩ : ∃ x, x = (takeD ackF b).getD 1 0 := ⟨_, rfl⟩
  have Htk := Lib.hid (fun w1 h1 hB1 => qackTake_l A n cap B b true w1 h1 hB1 hn)
  rw [← hyv, ← hx0v, ← hx1v] at Htk
  obtain ⟨V5, hV5⟩ : ∃ V5 : UbV, V5 = { ub0 with k := 4, y := yv, a1 := x0v, a2 := x1v } := ⟨_, rfl⟩
  have HE : Hid (oE = ubTE 5 1 b) := Lib.hid (by rw [hoE]; simp [ubTE, hk])
  have HV : Hid (oE = 0 → V5 = ubTV 5 1 b) := Lib.hid (fun h0 => by rw [hoE] at h0; rw [hV5, hyv, hx0v, hx1v, if_pos h0]; simp [ubTV, hk])
  obtain ⟨UT, hUT⟩ : ∃ UT, UT = ubT 5 1 b := ⟨_, rfl⟩
  have H0 : Hid (oE = 0 → V5 = UT) := Lib.hid (fun he => by rw [HV.out he, hUT]; unfold ubT; rw [if_pos (HE.out.symm.trans he)])
  have H1 : Hid (oE ≠ 0 → UT = ub0) := Lib.hid (fun he => by rw [hUT]; unfold ubT; rw [if_neg (by rw [← HE.out]; exact he)])
  have HL : Hid (V5.p.length = 32 ∧ V5.d.length = 8) := Lib.hid (by rw [hV5]; exact ⟨rfl, rfl⟩)
  rw [← hUT, ← HE.out]
  have HoE := Lib.hid hoE
  have HV5 := Lib.hid hV5
  clear hoE hV5 hk hUT HE HV hyv hx0v hx1v
  obtain ⟨x0, x1, x2, hs, hb⟩ := al3 w (.cells #[.int .i64 5, .int .i64 1, .slice A n cap] 40) (.cells #[.int .i64 0, .int .i64 0, .int .i64 0, .int .i64 0, .int .i64 0, .int .i64 0, .int .i64 0, .int .i64 0, .int .i64 0, .int .i64 0, .int .i64 0, .int .i64 0, .int .i64 0, .int .i64 0, .int .i64 0, .int .i64 0, .int .i64 0, .int .i64 0, .int .i64 0, .int .i64 0, .int .i64 0, .int .i64 0, .int .i64 0, .int .i64 0, .int .i64 0, .int .i64 0, .int .i64 0, .int .i64 0, .int .i64 0, .int .i64 0, .int .i64 0, .int .i64 0, .int .i64 0, .int .i64 0, .slice none 0 0, .int .i64 0, .int .i64 0, .int .i64 0, .int .i64 0, .int .i64 0, .int .i64 0, .int .i64 0, .int .i64 0, .bool false, .int .i64 0, .int .i64 0, .int .i64 0, .slice none 0 0] 35) (.cells #[.int .i64 0, .int .i64 0, .int .i64 0, .int .i64 0, .int .i64 0, .int .i64 0, .int .i64 0, .int .i64 0, .int .i64 0, .int .i64 0, .int .i64 0, .int .i64 0, .int .i64 0, .int .i64 0, .int .i64 0, .int .i64 0, .int .i64 0, .int .i64 0, .int .i64 0, .int .i64 0, .int .i64 0, .int .i64 0, .int .i64 0, .int .i64 0, .int .i64 0, .int .i64 0, .int .i64 0, .int .i64 0, .int .i64 0, .int .i64 0, .int .i64 0, .int .i64 0, .int .i64 0, .int .i64 0, .slice none 0 0, .int .i64 0, .int .i64 0, .int .i64 0, .int .i64 0, .int .i64 0, .int .i64 0, .int .i64 0, .int .i64 0, .bool false, .int .i64 0, .int .i64 0, .int .i64 0, .slice none 0 0] 35)
  have hres : UbB (((w.alloc (.cells #[.int .i64 5, .int .i64 1, .slice A n cap] 40)).alloc (.cells #[.int .i64 0, .int .i64 0, .int .i64 0, .int .i64 0, .int .i64 0, .int .i64 0, .int .i64 0, .int .i64 0, .int .i64 0, .int .i64 0, .int .i64 0, .int .i64 0, .int .i64 0, .int .i64 0, .int .i64 0, .int .i64 0, .int .i64 0, .int .i64 0, .int .i64 0, .int .i64 0, .int .i64 0, .int .i64 0, .int .i64 0, .int .i64 0, .int .i64 0, .int .i64 0, .int .i64 0, .int .i64 0, .int .i64 0, .int .i64 0, .int .i64 0, .int .i64 0, .int .i64 0, .int .i64 0, .slice none 0 0, .int .i64 0, .int .i64 0, .int .i64 0, .int .i64 0, .int .i64 0, .int .i64 0, .int .i64 0, .int .i64 0, .bool false, .int .i64 0, .int .i64 0, .int .i64 0, .slice none 0 0] 35)).alloc (.cells #[.int .i64 0, .int .i64 0, .int .i64 0, .int .i64 0, .int .i64 0, .int .i64 0, .int .i64 0, .int .i64 0, .int .i64 0, .int .i64 0, .int .i64 0, .int .i64 0, .int .i64 0, .int .i64 0, .int .i64 0, .int .i64 0, .int .i64 0, .int .i64 0, .int .i64 0, .int .i64 0, .int .i64 0, .int .i64 0, .int .i64 0, .int .i64 0, .int .i64 0, .int .i64 0, .int .i64 0, .int .i64 0, .int .i64 0, .int .i64 0, .int .i64 0, .int .i64 0, .int .i64 0, .int .i64 0, .slice none 0 0, .int .i64 0, .int .i64 0, .int .i64 0, .int .i64 0, .int .i64 0, .int .i64 0, .int .i64 0, .int .i64 0, .bool false, .int .i64 0, .int .i64 0, .int .i64 0, .slice none 0 0] 35)) (w.heap.size + 1) ub0 ua0 := x1
  have hm : UbB (((w.alloc (.cells #[.int .i64 5, .int .i64 1, .slice A n cap] 40)).alloc (.cells #[.int .i64 0, .int .i64 0, .int .i64 0, .int .i64 0, .int .i64 0, .int .i64 0, .int .i64 0, .int .i64 0, .int .i64 0, .int .i64 0, .int .i64 0, .int .i64 0, .int .i64 0, .int .i64 0, .int .i64 0, .int .i64 0, .int .i64 0, .int .i64 0, .int .i64 0, .int .i64 0, .int .i64 0, .int .i64 0, .int .i64 0, .int .i64 0, .int .i64 0, .int .i64 0, .int .i64 0, .int .i64 0, .int .i64 0, .int .i64 0, .int .i64 0, .int .i64 0, .int .i64 0, .int .i64 0, .slice none 0 0, .int .i64 0, .int .i64 0, .int .i64 0, .int .i64 0, .int .i64 0, .int .i64 0, .int .i64 0, .int .i64 0, .bool false, .int .i64 0, .int .i64 0, .int .i64 0, .slice none 0 0] 35)).alloc (.cells #[.int .i64 0, .int .i64 0, .int .i64 0, .int .i64 0, .int .i64 0, .int .i64 0, .int .i64 0, .int .i64 0, .int .i64 0, .int .i64 0, .int .i64 0, .int .i64 0, .int .i64 0, .int .i64 0, .int .i64 0, .int .i64 0, .int .i64 0, .int .i64 0, .int .i64 0, .int .i64 0, .int .i64 0, .int .i64 0, .int .i64 0, .int .i64 0, .int .i64 0, .int .i64 0, .int .i64 0, .int .i64 0, .int .i64 0, .int .i64 0, .int .i64 0, .int .i64 0, .int .i64 0, .int .i64 0, .slice none 0 0, .int .i64 0, .int .i64 0, .int .i64 0, .int .i64 0, .int .i64 0, .int .i64 0, .int .i64 0, .int .i64 0, .bool false, .int .i64 0, .int .i64 0, .int .i64 0, .slice none 0 0] 35)) (w.heap.size + 2) ub0 ua0 := x2
  have hr := h.up (hb.mono hB)
  clear x1 x2 h hs
  go_enter Tryz.func18, Tryz.ntmps18
  go_wp2_with (with_reducible refine stop_loadT 3 ?_)
  generalize (((w.alloc (.cells #[.int .i64 5, .int .i64 1, .slice A n cap] 40)).alloc (.cells #[.int .i64 0, .int .i64 0, .int .i64 0, .int .i64 0, .int .i64 0, .int .i64 0, .int .i64 0, .int .i64 0, .int .i64 0, .int .i64 0, .int .i64 0, .int .i64 0, .int .i64 0, .int .i64 0, .int .i64 0, .int .i64 0, .int .i64 0, .int .i64 0, .int .i64 0, .int .i64 0, .int .i64 0, .int .i64 0, .int .i64 0, .int .i64 0, .int .i64 0, .int .i64 0, .int .i64 0, .int .i64 0, .int .i64 0, .int .i64 0, .int .i64 0, .int .i64 0, .int .i64 0, .int .i64 0, .slice none 0 0, .int .i64 0, .int .i64 0, .int .i64 0, .int .i64 0, .int .i64 0, .int .i64 0, .int .i64 0, .int .i64 0, .bool false, .int .i64 0, .int .i64 0, .int .i64 0, .slice none 0 0] 35)).alloc (.cells #[.int .i64 0, .int .i64 0, .int .i64 0, .int .i64 0, .int .i64 0, .int .i64 0, .int .i64 0, .int .i64 0, .int .i64 0, .int .i64 0, .int .i64 0, .int .i64 0, .int .i64 0, .int .i64 0, .int .i64 0, .int .i64 0, .int .i64 0, .int .i64 0, .int .i64 0, .int .i64 0, .int .i64 0, .int .i64 0, .int .i64 0, .int .i64 0, .int .i64 0, .int .i64 0, .int .i64 0, .int .i64 0, .int .i64 0, .int .i64 0, .int .i64 0, .int .i64 0, .int .i64 0, .int .i64 0, .slice none 0 0, .int .i64 0, .int .i64 0, .int .i64 0, .int .i64 0, .int .i64 0, .int .i64 0, .int .i64 0, .int .i64 0, .bool false, .int .i64 0, .int .i64 0, .int .i64 0, .slice none 0 0] 35)) = w1 at *
  have e0 := blk_cell (i := 0) (v := .int .i64 5) x0 rfl
  have e1 := blk_cell (i := 1) (v := .int .i64 1) x0 rfl
  have f0 := hm.kc
  have f1 : w1.frozen? ⟨w.heap.size + 2, 0, none⟩ = false := blk_free hm
  have e2 : (w1.setCell ⟨w.heap.size + 2, 0, none⟩ (.int .i64 4)).cell? ⟨w.heap.size, 2, none⟩ = some (.slice A n cap) := by
    rw [World.cell?_setCell_other _ _ _ _ (by intro e; injection e with e; omega)]
    exact blk_cell (i := 2) x0 rfl
  have e1' : (w1.setCell ⟨w.heap.size + 2, 0, none⟩ (.int .i64 4)).cell? ⟨w.heap.size, 1, none⟩ = some (.int .i64 1) := by
    rw [World.cell?_setCell_other _ _ _ _ (by intro e; injection e with e; omega)]
    exact e1
  have hm2 : UbB (w1.setCell ⟨w.heap.size + 2, 0, none⟩ (.int .i64 4)) (w.heap.size + 2) { ub0 with k := 4 } ua0 := blk_set (i := 0) hm (.int .i64 4)
  have haw : Aw (fun k => k = w.heap.size + 2) w1 (w1.setCell ⟨w.heap.size + 2, 0, none⟩ (.int .i64 4)) := Aw.set (U := fun k => k = w.heap.size + 2) (Aw.refl _ w1) (p := ⟨w.heap.size + 2, 0, none⟩) _ rfl
  have hres2 : UbB _ (w.heap.size + 1) ub0 ua0 := haw.keep hres (by omega)
  have hr' := hr.up (below_aw20 (Below.refl B w1) haw (fun k hk => by rw [hk]; omega) (Nat.le_trans hB hb.size))
  have hb' := below_aw20 hb haw (fun k hk => by rw [hk]; omega) hb.size
  clear haw hm hres hr hb x0
  refine go_ ?_
  go_wp2_with fail
  generalize (w1.setCell ⟨w.heap.size + 2, 0, none⟩ (.int .i64 4)) = w2 at *
  have hr := hr'
  have hb := hb'
  clear hr' hb' e0 e1 f0 f1 e2
  go_fit (Htk.out w2 hr (Nat.le_trans hB hb.size))
  rintro e w3 ⟨rfl, hb3⟩
  have hgm := blk_lt hm2
  have hm3 := hm2.old hb3 hgm
  have hres3 := hres2.old hb3 (blk_lt hres2)
  replace hb := bnx hb hb3
  go_wp2_with (first | (with_reducible refine stop_loadT 30 ?_) | (with_reducible refine stop_storeT 30 ?_) | (with_reducible refine stop_loadG 30 ?_))
  refine go_ (wpList_store_mid rfl _ _ _ rfl (w.heap.size + 2) 43 (acS yv x0v x1v).toArray rfl rfl (hm3.there rfl rfl (by rw [List.size_toArray]; show 43 + 3 ≤ 48; omega)) (by kernel_rfl) (all_oneCell_toArray (acS_one _ _ _)) ?_)
  obtain ⟨hm5, haw⟩ := hm3.set (ubL_seta rfl rfl)
  have hres := haw.keep hres3 (by omega)
  have hr5 : UbR (w3.setCells (w.heap.size + 2) 43 (acS yv x0v x1v)) (w3.setCells (w.heap.size + 2) 43 (acS yv x0v x1v)).heap.size V5 ua0 := by rw [HV5.out]; exact UbR.nil _ _ _ rfl rfl
  replace hm5 : UbB (w3.setCells (w.heap.size + 2) 43 (acS yv x0v x1v)) (w.heap.size + 2) { ub0 with k := 4, y := yv, a1 := x0v, a2 := x1v } ua0 := hm5
  rw [← HV5.out] at hm5
  rw [← HoE.out]
  have hf5 : ∀ p, UbA.A ua0 = some p ∨ UbA.A' ua0 = some p → w.heap.size + 2 < p.block := (fun p hp => by rcases hp with hp | hp <;> cases hp)
  replace hb := below_aw20 hb haw (fun k hk => by rw [hk]; omega) hb.size
  have hws := hb.size
  simp only [List.toList_toArray]
  generalize w3.setCells (w.heap.size + 2) 43 (acS yv x0v x1v) = w5 at *
  generalize (ua0 : UbA) = a5 at *
  clear hm2 hm3 hres2 hres3 haw hb3 hr
  by_cases he : oE = 0
  · have he' : (oE : Int) = 0 := by omega
    obtain rfl := H0.out he
    go_wp2_with (first | (with_reducible refine stop_loadT 35 ?_) | (with_reducible refine stop_storeT 35 ?_) | (with_reducible refine stop_loadG 35 ?_))
    refine go_ (wpList_load_row rfl _ _ rfl (w.heap.size + 2) rfl _ _ _ _ hm5 Tryz.underlying35 rfl (ub_size V5 a5 HL.out.1 HL.out.2) ?_)
    go_wp2_with (first | (with_reducible refine stop_loadT 35 ?_) | (with_reducible refine stop_storeT 35 ?_) | (with_reducible refine stop_loadG 35 ?_))
    refine go_ (wpList_store_row rfl _ _ _ rfl (w.heap.size + 1) (ubL V5 a5).toArray rfl rfl _ _ hres (ub_size V5 a5 HL.out.1 HL.out.2) (ub_sizes rfl rfl HL.out.1 HL.out.2) (ub_one V5 a5) ?_)
    have hres2 := setRow_heap _ _ _ (ubL V5 a5).toArray _ _ hres
    have haw : Aw (fun k => k = w.heap.size + 1) w5 (w5.setRow (w.heap.size + 1) (ubL V5 a5).toArray) := aw_setRow20 _ _
    have hb6 := below_aw20 hb haw (fun k hk => by rw [hk]; omega) (by omega)
    have hr6 := ubr_aw hr5 haw (fun p hp => by have := hf5 p hp; omega)
    generalize w5.setRow (w.heap.size + 1) (ubL V5 a5).toArray = w6 at *
    go_wp2
    exact bodyPost_ret (results_cell2 rfl _ _ (w.heap.size + 1) _ _ _ _ rfl hres2 Tryz.underlying35 rfl (ub_size V5 a5 HL.out.1 HL.out.2)) rfl ⟨a5, by rw [he]; rfl, hr6, (fun p hp => by have := hf5 p hp; omega), hb6⟩
  · have he' : ¬ (oE : Int) = 0 := by omega
    obtain rfl := H1.out he
    go_wp2_with (first | (with_reducible refine stop_loadT 35 ?_) | (with_reducible refine stop_storeT 35 ?_) | (with_reducible refine stop_loadG 35 ?_))
    refine go_ (wpList_store_row rfl _ _ _ rfl (w.heap.size + 1) (ubL ub0 ua0).toArray rfl rfl _ _ hres (ub_size ub0 ua0 rfl rfl) (ub_sizes rfl rfl rfl rfl) (ub_one ub0 ua0) ?_)
    have hres2 := setRow_heap _ _ _ (ubL ub0 ua0).toArray _ _ hres
    have haw : Aw (fun k => k = w.heap.size + 1) w5 (w5.setRow (w.heap.size + 1) (ubL ub0 ua0).toArray) := aw_setRow20 _ _
    have hb6 := below_aw20 hb haw (fun k hk => by rw [hk]; omega) (by omega)
    generalize w5.setRow (w.heap.size + 1) (ubL ub0 ua0).toArray = w6 at *
    go_wp2
    exact bodyPost_ret (results_cell2 rfl _ _ (w.heap.size + 1) _ _ _ _ rfl hres2 Tryz.underlying35 rfl (ub_size ub0 ua0 rfl rfl)) rfl ⟨ua0, rfl, UbR.nil _ _ _ rfl rfl, (fun p hp => by rcases hp with hp | hp <;> cases hp), hb6⟩

set_option maxRecDepth 10000 in
set_option maxHeartbeats 8000000 in
theorem qubTake_5 (A : Option Addr) (n cap B : Nat) (b : List UInt8) (w : World) (h : Rd w B 1 A n cap (bv b)) (hB : B ≤ w.heap.size) (hn : n ≤ 1000000000) :
    Calls Tryz.prog 18 #[.agg #[.int .i64 6, .int .i64 138, .slice A n cap]] w (RetUT w (ubT 6 138 b) (ubTE 6 138 b)) := by
  have hk : ubKd 6 138 = 5 := by decide
  obtain ⟨oE, hoE⟩ : ∃ oE, oE = valTE b := ⟨_, rfl⟩
  obtain ⟨V5, hV5⟩ : ∃ V5 : UbV, V5 = { ub0 with k := 5, la := valTt b, q := valTl b } := ⟨_, rfl⟩
  have HE : Hid (oE = ubTE 6 138 b) := Lib.hid (by rw [hoE]; simp [ubTE, hk])
  have HV : Hid (oE = 0 → V5 = ubTV 6 138 b) := Lib.hid (fun h0 => by rw [hoE] at h0; rw [hV5]; simp [ubTV, hk, h0])
  obtain ⟨UT, hUT⟩ : ∃ UT, UT = ubT 6 138 b := ⟨_, rfl⟩
  have H0 : Hid (oE = 0 → V5 = UT) := Lib.hid (fun he => by rw [HV.out he, hUT]; unfold ubT; rw [if_pos (HE.out.symm.trans he)])
  have H1 : Hid (oE ≠ 0 → UT = ub0) := Lib.hid (fun he => by rw [hUT]; unfold ubT; rw [if_neg (by rw [← HE.out]; exact he)])
  have HL : Hid (V5.p.length = 32 ∧ V5.d.length = 8) := Lib.hid (by rw [hV5]; exact ⟨rfl, rfl⟩)
  rw [← hUT, ← HE.out]
  have HoE := Lib.hid hoE
  have HV5 := Lib.hid hV5
  clear hoE hV5 hk hUT HE HV
  obtain ⟨x0, x1, x2, hs, hb⟩ := al3 w (.cells #[.int .i64 6, .int .i64 138, .slice A n cap] 40) (.cells #[.int .i64 0, .int .i64 0, .int .i64 0, .int .i64 0, .int .i64 0, .int .i64 0, .int .i64 0, .int .i64 0, .int .i64 0, .int .i64 0, .int .i64 0, .int .i64 0, .int .i64 0, .int .i64 0, .int .i64 0, .int .i64 0, .int .i64 0, .int .i64 0, .int .i64 0, .int .i64 0, .int .i64 0, .int .i64 0, .int .i64 0, .int .i64 0, .int .i64 0, .int .i64 0, .int .i64 0, .int .i64 0, .int .i64 0, .int .i64 0, .int .i64 0, .int .i64 0, .int .i64 0, .int .i64 0, .slice none 0 0, .int .i64 0, .int .i64 0, .int .i64 0, .int .i64 0, .int .i64 0, .int .i64 0, .int .i64 0, .int .i64 0, .bool false, .int .i64 0, .int .i64 0, .int .i64 0, .slice none 0 0] 35) (.cells #[.int .i64 0, .int .i64 0, .int .i64 0, .int .i64 0, .int .i64 0, .int .i64 0, .int .i64 0, .int .i64 0, .int .i64 0, .int .i64 0, .int .i64 0, .int .i64 0, .int .i64 0, .int .i64 0, .int .i64 0, .int .i64 0, .int .i64 0, .int .i64 0, .int .i64 0, .int .i64 0, .int .i64 0, .int .i64 0, .int .i64 0, .int .i64 0, .int .i64 0, .int .i64 0, .int .i64 0, .int .i64 0, .int .i64 0, .int .i64 0, .int .i64 0, .int .i64 0, .int .i64 0, .int .i64 0, .slice none 0 0, .int .i64 0, .int .i64 0, .int .i64 0, .int .i64 0, .int .i64 0, .int .i64 0, .int .i64 0, .int .i64 0, .bool false, .int .i64 0, .int .i64 0, .int .i64 0, .slice none 0 0] 35)
  have hres : UbB (((w.alloc (.cells #[.int .i64 6, .int .i64 138, .slice A n cap] 40)).alloc (.cells #[.int .i64 0, .int .i64 0, .int .i64 0, .int .i64 0, .int .i64 0, .int .i64 0, .int .i64 0, .int .i64 0, .int .i64 0, .int .i64 0, .int .i64 0, .int .i64 0, .int .i64 0, .int .i64 0, .int .i64 0, .int .i64 0, .int .i64 0, .int .i64 0, .int .i64 0, .int .i64 0, .int .i64 0, .int .i64 0, .int .i64 0, .int .i64 0, .int .i64 0, .int .i64 0, .int .i64 0, .int .i64 0, .int .i64 0, .int .i64 0, .int .i64 0, .int .i64 0, .int .i64 0, .int .i64 0, .slice none 0 0, .int .i64 0, .int .i64 0, .int .i64 0, .int .i64 0, .int .i64 0, .int .i64 0, .int .i64 0, .int .i64 0, .bool false, .int .i64 0, .int .i64 0, .int .i64 0, .slice none 0 0] 35)).alloc (.cells #[.int .i64 0, .int .i64 0, .int .i64 0, .int .i64 0, .int .i64 0, .int .i64 0, .int .i64 0, .int .i64 0, .int .i64 0, .int .i64 0, .int .i64 0, .int .i64 0, .int .i64 0, .int .i64 0, .int .i64 0, .int .i64 0, .int .i64 0, .int .i64 0, .int .i64 0, .int .i64 0, .int .i64 0, .int .i64 0, .int .i64 0, .int .i64 0, .int .i64 0, .int .i64 0, .int .i64 0, .int .i64 0, .int .i64 0, .int .i64 0, .int .i64 0, .int .i64 0, .int .i64 0, .int .i64 0, .slice none 0 0, .int .i64 0, .int .i64 0, .int .i64 0, .int .i64 0, .int .i64 0, .int .i64 0, .int .i64 0, .int .i64 0, .bool false, .int .i64 0, .int .i64 0, .int .i64 0, .slice none 0 0] 35)) (w.heap.size + 1) ub0 ua0 := x1
  have hm : UbB (((w.alloc (.cells #[.int .i64 6, .int .i64 138, .slice A n cap] 40)).alloc (.cells #[.int .i64 0, .int .i64 0, .int .i64 0, .int .i64 0, .int .i64 0, .int .i64 0, .int .i64 0, .int .i64 0, .int .i64 0, .int .i64 0, .int .i64 0, .int .i64 0, .int .i64 0, .int .i64 0, .int .i64 0, .int .i64 0, .int .i64 0, .int .i64 0, .int .i64 0, .int .i64 0, .int .i64 0, .int .i64 0, .int .i64 0, .int .i64 0, .int .i64 0, .int .i64 0, .int .i64 0, .int .i64 0, .int .i64 0, .int .i64 0, .int .i64 0, .int .i64 0, .int .i64 0, .int .i64 0, .slice none 0 0, .int .i64 0, .int .i64 0, .int .i64 0, .int .i64 0, .int .i64 0, .int .i64 0, .int .i64 0, .int .i64 0, .bool false, .int .i64 0, .int .i64 0, .int .i64 0, .slice none 0 0] 35)).alloc (.cells #[.int .i64 0, .int .i64 0, .int .i64 0, .int .i64 0, .int .i64 0, .int .i64 0, .int .i64 0, .int .i64 0, .int .i64 0, .int .i64 0, .int .i64 0, .int .i64 0, .int .i64 0, .int .i64 0, .int .i64 0, .int .i64 0, .int .i64 0, .int .i64 0, .int .i64 0, .int .i64 0, .int .i64 0, .int .i64 0, .int .i64 0, .int .i64 0, .int .i64 0, .int .i64 0, .int .i64 0, .int .i64 0, .int .i64 0, .int .i64 0, .int .i64 0, .int .i64 0, .int .i64 0, .int .i64 0, .slice none 0 0, .int .i64 0, .int .i64 0, .int .i64 0, .int .i64 0, .int .i64 0, .int .i64 0, .int .i64 0, .int .i64 0, .bool false, .int .i64 0, .int .i64 0, .int .i64 0, .slice none 0 0] 35)) (w.heap.size + 2) ub0 ua0 := x2
  have hr := h.up (hb.mono hB)
  clear x1 x2 h hs
  go_enter Tryz.func18, Tryz.ntmps18
  go_wp2_with (with_reducible refine stop_loadT 3 ?_)
  generalize (((w.alloc (.cells #[.int .i64 6, .int .i64 138, .slice A n cap] 40)).alloc (.cells #[.int .i64 0, .int .i64 0, .int .i64 0, .int .i64 0, .int .i64 0, .int .i64 0, .int .i64 0, .int .i64 0, .int .i64 0, .int .i64 0, .int .i64 0, .int .i64 0, .int .i64 0, .int .i64 0, .int .i64 0, .int .i64 0, .int .i64 0, .int .i64 0, .int .i64 0, .int .i64 0, .int .i64 0, .int .i64 0, .int .i64 0, .int .i64 0, .int .i64 0, .int .i64 0, .int .i64 0, .int .i64 0, .int .i64 0, .int .i64 0, .int .i64 0, .int .i64 0, .int .i64 0, .int .i64 0, .slice none 0 0, .int .i64 0, .int .i64 0, .int .i64 0, .int .i64 0, .int .i64 0, .int .i64 0, .int .i64 0, .int .i64 0, .bool false, .int .i64 0, .int .i64 0, .int .i64 0, .slice none 0 0] 35)).alloc (.cells #[.int .i64 0, .int .i64 0, .int .i64 0, .int .i64 0, .int .i64 0, .int .i64 0, .int .i64 0, .int .i64 0, .int .i64 0, .int .i64 0, .int .i64 0, .int .i64 0, .int .i64 0, .int .i64 0, .int .i64 0, .int .i64 0, .int .i64 0, .int .i64 0, .int .i64 0, .int .i64 0, .int .i64 0, .int .i64 0, .int .i64 0, .int .i64 0, .int .i64 0, .int .i64 0, .int .i64 0, .int .i64 0, .int .i64 0, .int .i64 0, .int .i64 0, .int .i64 0, .int .i64 0, .int .i64 0, .slice none 0 0, .int .i64 0, .int .i64 0, .int .i64 0, .int .i64 0, .int .i64 0, .int .i64 0, .int .i64 0, .int .i64 0, .bool false, .int .i64 0, .int .i64 0, .int .i64 0, .slice none 0 0] 35)) = w1 at *
  have e0 := blk_cell (i := 0) (v := .int .i64 6) x0 rfl
  have e1 := blk_cell (i := 1) (v := .int .i64 138) x0 rfl
  have f0 := hm.kc
  have f1 : w1.frozen? ⟨w.heap.size + 2, 0, none⟩ = false := blk_free hm
  have e2 : (w1.setCell ⟨w.heap.size + 2, 0, none⟩ (.int .i64 5)).cell? ⟨w.heap.size, 2, none⟩ = some (.slice A n cap) := by
    rw [World.cell?_setCell_other _ _ _ _ (by intro e; injection e with e; omega)]
    exact blk_cell (i := 2) x0 rfl
  have hm2 : UbB (w1.setCell ⟨w.heap.size + 2, 0, none⟩ (.int .i64 5)) (w.heap.size + 2) { ub0 with k := 5 } ua0 := blk_set (i := 0) hm (.int .i64 5)
  have haw : Aw (fun k => k = w.heap.size + 2) w1 (w1.setCell ⟨w.heap.size + 2, 0, none⟩ (.int .i64 5)) := Aw.set (U := fun k => k = w.heap.size + 2) (Aw.refl _ w1) (p := ⟨w.heap.size + 2, 0, none⟩) _ rfl
  have hres2 : UbB _ (w.heap.size + 1) ub0 ua0 := haw.keep hres (by omega)
  have hr' := hr.up (below_aw20 (Below.refl B w1) haw (fun k hk => by rw [hk]; omega) (Nat.le_trans hB hb.size))
  have hb' := below_aw20 hb haw (fun k hk => by rw [hk]; omega) hb.size
  clear haw hm hres hr hb x0
  refine go_ ?_
  go_wp2_with fail
  generalize (w1.setCell ⟨w.heap.size + 2, 0, none⟩ (.int .i64 5)) = w2 at *
  have hr := hr'
  have hb := hb'
  clear hr' hb' e0 e1 f0 f1 e2
  go_fit (qvalTake_anyF A n cap B b w2 hr (Nat.le_trans hB hb.size) hn)
  rintro e w3 ⟨A2, n2, c2, rfl, hr2, hf2, hb3⟩
  have hgm := blk_lt hm2
  have hm3 := hm2.old hb3 hgm
  have hres3 := hres2.old hb3 (blk_lt hres2)
  replace hb := bnx hb hb3
  go_wp2_with (first | (with_reducible refine stop_loadT 33 ?_) | (with_reducible refine stop_storeT 33 ?_) | (with_reducible refine stop_loadG 33 ?_))
  refine go_ (wpList_store_mid rfl _ _ _ rfl (w.heap.size + 2) 46 (saS (valTt b) A2 n2 c2).toArray rfl rfl (hm3.there rfl rfl (by rw [List.size_toArray]; show 46 + 2 ≤ 48; omega)) (by kernel_rfl) (all_oneCell_toArray (saS_one _ _ _ _)) ?_)
  obtain ⟨hm5, haw⟩ := hm3.set (ubL_setq (V := { ub0 with k := 5 }) rfl rfl)
  have hres := haw.keep hres3 (by omega)
  have hfg : ∀ p, A2 = some p → w.heap.size + 2 < p.block := fun p hp => Nat.lt_of_lt_of_le hgm (hf2 p hp)
  have hr5 : UbR (w3.setCells (w.heap.size + 2) 46 (saS (valTt b) A2 n2 c2)) (w3.setCells (w.heap.size + 2) 46 (saS (valTt b) A2 n2 c2)).heap.size V5 { ua0 with A' := A2, n' := n2, c' := c2 } := by rw [HV5.out]; exact ⟨RdR.none_ _ _ 7, rdr_aw hr2 (Nat.le_refl _) haw (fun p hp => by have := hfg p hp; omega)⟩
  replace hm5 : UbB (w3.setCells (w.heap.size + 2) 46 (saS (valTt b) A2 n2 c2)) (w.heap.size + 2) { ub0 with k := 5, la := valTt b, q := valTl b } { ua0 with A' := A2, n' := n2, c' := c2 } := hm5
  rw [← HV5.out] at hm5
  rw [← HoE.out]
  have hf5 : ∀ p, UbA.A { ua0 with A' := A2, n' := n2, c' := c2 } = some p ∨ UbA.A' { ua0 with A' := A2, n' := n2, c' := c2 } = some p → w.heap.size + 2 < p.block := (fun p hp => by rcases hp with hp | hp; cases hp; exact hfg p hp)
  replace hb := below_aw20 hb haw (fun k hk => by rw [hk]; omega) hb.size
  have hws := hb.size
  simp only [List.toList_toArray]
  generalize w3.setCells (w.heap.size + 2) 46 (saS (valTt b) A2 n2 c2) = w5 at *
  generalize ({ ua0 with A' := A2, n' := n2, c' := c2 } : UbA) = a5 at *
  clear hm2 hm3 hres2 hres3 haw hb3 hr
  by_cases he : oE = 0
  · have he' : (oE : Int) = 0 := by omega
    obtain rfl := H0.out he
    go_wp2_with (first | (with_reducible refine stop_loadT 35 ?_) | (with_reducible refine stop_storeT 35 ?_) | (with_reducible refine stop_loadG 35 ?_))
    refine go_ (wpList_load_row rfl _ _ rfl (w.heap.size + 2) rfl _ _ _ _ hm5 Tryz.underlying35 rfl (ub_size V5 a5 HL.out.1 HL.out.2) ?_)
    go_wp2_with (first | (with_reducible refine stop_loadT 35 ?_) | (with_reducible refine stop_storeT 35 ?_) | (with_reducible refine stop_loadG 35 ?_))
    refine go_ (wpList_store_row rfl _ _ _ rfl (w.heap.size + 1) (ubL V5 a5).toArray rfl rfl _ _ hres (ub_size V5 a5 HL.out.1 HL.out.2) (ub_sizes rfl rfl HL.out.1 HL.out.2) (ub_one V5 a5) ?_)
    have hres2 := setRow_heap _ _ _ (ubL V5 a5).toArray _ _ hres
    have haw : Aw (fun k => k = w.heap.size + 1) w5 (w5.setRow (w.heap.size + 1) (ubL V5 a5).toArray) := aw_setRow20 _ _
    have hb6 := below_aw20 hb haw (fun k hk => by rw [hk]; omega) (by omega)
    have hr6 := ubr_aw hr5 haw (fun p hp => by have := hf5 p hp; omega)
    generalize w5.setRow (w.heap.size + 1) (ubL V5 a5).toArray = w6 at *
    go_wp2
    exact bodyPost_ret (results_cell2 rfl _ _ (w.heap.size + 1) _ _ _ _ rfl hres2 Tryz.underlying35 rfl (ub_size V5 a5 HL.out.1 HL.out.2)) rfl ⟨a5, by rw [he]; rfl, hr6, (fun p hp => by have := hf5 p hp; omega), hb6⟩
  · have he' : ¬ (oE : Int) = 0 := by omega
    obtain rfl := H1.out he
    go_wp2_with (first | (with_reducible refine stop_loadT 35 ?_) | (with_reducible refine stop_storeT 35 ?_) | (with_reducible refine stop_loadG 35 ?_))
    refine go_ (wpList_store_row rfl _ _ _ rfl (w.heap.size + 1) (ubL ub0 ua0).toArray rfl rfl _ _ hres (ub_size ub0 ua0 rfl rfl) (ub_sizes rfl rfl rfl rfl) (ub_one ub0 ua0) ?_)
    have hres2 := setRow_heap _ _ _ (ubL ub0 ua0).toArray _ _ hres
    have haw : Aw (fun k => k = w.heap.size + 1) w5 (w5.setRow (w.heap.size + 1) (ubL ub0 ua0).toArray) := aw_setRow20 _ _
    have hb6 := below_aw20 hb haw (fun k hk => by rw [hk]; omega) (by omega)
    generalize w5.setRow (w.heap.size + 1) (ubL ub0 ua0).toArray = w6 at *
    go_wp2
    exact bodyPost_ret (results_cell2 rfl _ _ (w.heap.size + 1) _ _ _ _ rfl hres2 Tryz.underlying35 rfl (ub_size ub0 ua0 rfl rfl)) rfl ⟨ua0, rfl, UbR.nil _ _ _ rfl rfl, (fun p hp => by rcases hp with hp | hp <;> cases hp), hb6⟩

set_option maxRecDepth 10000 in
set_option maxHeartbeats 8000000 in
theorem qubTake_01 (i : Int) (A : Option Addr) (n cap : Nat) (w : World) (h1 : ¬ i = 7) (h2 : ¬ i = 53) (h3 : ¬ i = 4) :
    Calls Tryz.prog 18 #[.agg #[.int .i64 1, .int .i64 i, .slice A n cap]] w (RetUT w ub0 6) := by
  obtain ⟨x0, x1, x2, hs, hb⟩ := al3 w (.cells #[.int .i64 1, .int .i64 i, .slice A n cap] 40) (.cells #[.int .i64 0, .int .i64 0, .int .i64 0, .int .i64 0, .int .i64 0, .int .i64 0, .int .i64 0, .int .i64 0, .int .i64 0, .int .i64 0, .int .i64 0, .int .i64 0, .int .i64 0, .int .i64 0, .int .i64 0, .int .i64 0, .int .i64 0, .int .i64 0, .int .i64 0, .int .i64 0, .int .i64 0, .int .i64 0, .int .i64 0, .int .i64 0, .int .i64 0, .int .i64 0, .int .i64 0, .int .i64 0, .int .i64 0, .int .i64 0, .int .i64 0, .int .i64 0, .int .i64 0, .int .i64 0, .slice none 0 0, .int .i64 0, .int .i64 0, .int .i64 0, .int .i64 0, .int .i64 0, .int .i64 0, .int .i64 0, .int .i64 0, .bool false, .int .i64 0, .int .i64 0, .int .i64 0, .slice none 0 0] 35) (.cells #[.int .i64 0, .int .i64 0, .int .i64 0, .int .i64 0, .int .i64 0, .int .i64 0, .int .i64 0, .int .i64 0, .int .i64 0, .int .i64 0, .int .i64 0, .int .i64 0, .int .i64 0, .int .i64 0, .int .i64 0, .int .i64 0, .int .i64 0, .int .i64 0, .int .i64 0, .int .i64 0, .int .i64 0, .int .i64 0, .int .i64 0, .int .i64 0, .int .i64 0, .int .i64 0, .int .i64 0, .int .i64 0, .int .i64 0, .int .i64 0, .int .i64 0, .int .i64 0, .int .i64 0, .int .i64 0, .slice none 0 0, .int .i64 0, .int .i64 0, .int .i64 0, .int .i64 0, .int .i64 0, .int .i64 0, .int .i64 0, .int .i64 0, .bool false, .int .i64 0, .int .i64 0, .int .i64 0, .slice none 0 0] 35)
  have hres : UbB (((w.alloc (.cells #[.int .i64 1, .int .i64 i, .slice A n cap] 40)).alloc (.cells #[.int .i64 0, .int .i64 0, .int .i64 0, .int .i64 0, .int .i64 0, .int .i64 0, .int .i64 0, .int .i64 0, .int .i64 0, .int .i64 0, .int .i64 0, .int .i64 0, .int .i64 0, .int .i64 0, .int .i64 0, .int .i64 0, .int .i64 0, .int .i64 0, .int .i64 0, .int .i64 0, .int .i64 0, .int .i64 0, .int .i64 0, .int .i64 0, .int .i64 0, .int .i64 0, .int .i64 0, .int .i64 0, .int .i64 0, .int .i64 0, .int .i64 0, .int .i64 0, .int .i64 0, .int .i64 0, .slice none 0 0, .int .i64 0, .int .i64 0, .int .i64 0, .int .i64 0, .int .i64 0, .int .i64 0, .int .i64 0, .int .i64 0, .bool false, .int .i64 0, .int .i64 0, .int .i64 0, .slice none 0 0] 35)).alloc (.cells #[.int .i64 0, .int .i64 0, .int .i64 0, .int .i64 0, .int .i64 0, .int .i64 0, .int .i64 0, .int .i64 0, .int .i64 0, .int .i64 0, .int .i64 0, .int .i64 0, .int .i64 0, .int .i64 0, .int .i64 0, .int .i64 0, .int .i64 0, .int .i64 0, .int .i64 0, .int .i64 0, .int .i64 0, .int .i64 0, .int .i64 0, .int .i64 0, .int .i64 0, .int .i64 0, .int .i64 0, .int .i64 0, .int .i64 0, .int .i64 0, .int .i64 0, .int .i64 0, .int .i64 0, .int .i64 0, .slice none 0 0, .int .i64 0, .int .i64 0, .int .i64 0, .int .i64 0, .int .i64 0, .int .i64 0, .int .i64 0, .int .i64 0, .bool false, .int .i64 0, .int .i64 0, .int .i64 0, .slice none 0 0] 35)) (w.heap.size + 1) ub0 ua0 := x1
  clear x1 x2 hs
  go_enter Tryz.func18, Tryz.ntmps18
  go_wp2_with (with_reducible refine stop_loadT 3 ?_)
  generalize (((w.alloc (.cells #[.int .i64 1, .int .i64 i, .slice A n cap] 40)).alloc (.cells #[.int .i64 0, .int .i64 0, .int .i64 0, .int .i64 0, .int .i64 0, .int .i64 0, .int .i64 0, .int .i64 0, .int .i64 0, .int .i64 0, .int .i64 0, .int .i64 0, .int .i64 0, .int .i64 0, .int .i64 0, .int .i64 0, .int .i64 0, .int .i64 0, .int .i64 0, .int .i64 0, .int .i64 0, .int .i64 0, .int .i64 0, .int .i64 0, .int .i64 0, .int .i64 0, .int .i64 0, .int .i64 0, .int .i64 0, .int .i64 0, .int .i64 0, .int .i64 0, .int .i64 0, .int .i64 0, .slice none 0 0, .int .i64 0, .int .i64 0, .int .i64 0, .int .i64 0, .int .i64 0, .int .i64 0, .int .i64 0, .int .i64 0, .bool false, .int .i64 0, .int .i64 0, .int .i64 0, .slice none 0 0] 35)).alloc (.cells #[.int .i64 0, .int .i64 0, .int .i64 0, .int .i64 0, .int .i64 0, .int .i64 0, .int .i64 0, .int .i64 0, .int .i64 0, .int .i64 0, .int .i64 0, .int .i64 0, .int .i64 0, .int .i64 0, .int .i64 0, .int .i64 0, .int .i64 0, .int .i64 0, .int .i64 0, .int .i64 0, .int .i64 0, .int .i64 0, .int .i64 0, .int .i64 0, .int .i64 0, .int .i64 0, .int .i64 0, .int .i64 0, .int .i64 0, .int .i64 0, .int .i64 0, .int .i64 0, .int .i64 0, .int .i64 0, .slice none 0 0, .int .i64 0, .int .i64 0, .int .i64 0, .int .i64 0, .int .i64 0, .int .i64 0, .int .i64 0, .int .i64 0, .bool false, .int .i64 0, .int .i64 0, .int .i64 0, .slice none 0 0] 35)) = w1 at *
  have e0 := blk_cell (i := 0) (v := .int .i64 1) x0 rfl
  have e1 := blk_cell (i := 1) (v := .int .i64 i) x0 rfl
  refine go_ ?_
  go_wp2_with (first | (with_reducible refine stop_loadT 35 ?_) | (with_reducible refine stop_storeT 35 ?_) | (with_reducible refine stop_loadG 35 ?_))
  refine go_ (wpList_store_row rfl _ _ _ rfl (w.heap.size + 1) (ubL ub0 ua0).toArray rfl rfl _ _ hres (ub_size ub0 ua0 rfl rfl) (ub_sizes rfl rfl rfl rfl) (ub_one ub0 ua0) ?_)
  have hres2 := setRow_heap _ _ _ (ubL ub0 ua0).toArray _ _ hres
  have haw : Aw (fun k => k = w.heap.size + 1) w1 (w1.setRow (w.heap.size + 1) (ubL ub0 ua0).toArray) := aw_setRow20 _ _
  have hb6 := below_aw20 hb haw (fun k hk => by rw [hk]; omega) hb.size
  generalize w1.setRow (w.heap.size + 1) (ubL ub0 ua0).toArray = w6 at *
  go_wp2
  exact bodyPost_ret (results_cell2 rfl _ _ (w.heap.size + 1) _ _ _ _ rfl hres2 Tryz.underlying35 rfl (ub_size ub0 ua0 rfl rfl)) rfl ⟨ua0, rfl, UbR.nil _ _ _ rfl rfl, (fun p hp => by rcases hp with hp | hp <;> cases hp), hb6⟩

set_option maxRecDepth 10000 in
set_option maxHeartbeats 8000000 in
theorem qubTake_05 (i : Int) (A : Option Addr) (n cap : Nat) (w : World) (h1 : ¬ i = 0) (h2 : ¬ i = 1) :
    Calls Tryz.prog 18 #[.agg #[.int .i64 5, .int .i64 i, .slice A n cap]] w (RetUT w ub0 6) := by
  obtain ⟨x0, x1, x2, hs, hb⟩ := al3 w (.cells #[.int .i64 5, .int .i64 i, .slice A n cap] 40) (.cells #[.int .i64 0, .int .i64 0, .int .i64 0, .int .i64 0, .int .i64 0, .int .i64 0, .int .i64 0, .int .i64 0, .int .i64 0, .int .i64 0, .int .i64 0, .int .i64 0, .int .i64 0, .int .i64 0, .int .i64 0, .int .i64 0, .int .i64 0, .int .i64 0, .int .i64 0, .int .i64 0, .int .i64 0, .int .i64 0, .int .i64 0, .int .i64 0, .int .i64 0, .int .i64 0, .int .i64 0, .int .i64 0, .int .i64 0, .int .i64 0, .int .i64 0, .int .i64 0, .int .i64 0, .int .i64 0, .slice none 0 0, .int .i64 0, .int .i64 0, .int .i64 0, .int .i64 0, .int .i64 0, .int .i64 0, .int .i64 0, .int .i64 0, .bool false, .int .i64 0, .int .i64 0, .int .i64 0, .slice none 0 0] 35) (.cells #[.int .i64 0, .int .i64 0, .int .i64 0, .int .i64 0, .int .i64 0, .int .i64 0, .int .i64 0, .int .i64 0, .int .i64 0, .int .i64 0, .int .i64 0, .int .i64 0, .int .i64 0, .int .i64 0, .int .i64 0, .int .i64 0, .int .i64 0, .int .i64 0, .int .i64 0, .int .i64 0, .int .i64 0, .int .i64 0, .int .i64 0, .int .i64 0, .int .i64 0, .int .i64 0, .int .i64 0, .int .i64 0, .int .i64 0, .int .i64 0, .int .i64 0, .int .i64 0, .int .i64 0, .int .i64 0, .slice none 0 0, .int .i64 0, .int .i64 0, .int .i64 0, .int .i64 0, .int .i64 0, .int .i64 0, .int .i64 0, .int .i64 0, .bool false, .int .i64 0, .int .i64 0, .int .i64 0, .slice none 0 0] 35)
  have hres : UbB (((w.alloc (.cells #[.int .i64 5, .int .i64 i, .slice A n cap] 40)).alloc (.cells #[.int .i64 0, .int .i64 0, .int .i64 0, .int .i64 0, .int .i64 0, .int .i64 0, .int .i64 0, .int .i64 0, .int .i64 0, .int .i64 0, .int .i64 0, .int .i64 0, .int .i64 0, .int .i64 0, .int .i64 0, .int .i64 0, .int .i64 0, .int .i64 0, .int .i64 0, .int .i64 0, .int .i64 0, .int .i64 0, .int .i64 0, .int .i64 0, .int .i64 0, .int .i64 0, .int .i64 0, .int .i64 0, .int .i64 0, .int .i64 0, .int .i64 0, .int .i64 0, .int .i64 0, .int .i64 0, .slice none 0 0, .int .i64 0, .int .i64 0, .int .i64 0, .int .i64 0, .int .i64 0, .int .i64 0, .int .i64 0, .int .i64 0, .bool false, .int .i64 0, .int .i64 0, .int .i64 0, .slice none 0 0] 35)).alloc (.cells #[.int .i64 0, .int .i64 0, .int .i64 0, .int .i64 0, .int .i64 0, .int .i64 0, .int .i64 0, .int .i64 0, .int .i64 0, .int .i64 0, .int .i64 0, .int .i64 0, .int .i64 0, .int .i64 0, .int .i64 0, .int .i64 0, .int .i64 0, .int .i64 0, .int .i64 0, .int .i64 0, .int .i64 0, .int .i64 0, .int .i64 0, .int .i64 0, .int .i64 0, .int .i64 0, .int .i64 0, .int .i64 0, .int .i64 0, .int .i64 0, .int .i64 0, .int .i64 0, .int .i64 0, .int .i64 0, .slice none 0 0, .int .i64 0, .int .i64 0, .int .i64 0, .int .i64 0, .int .i64 0, .int .i64 0, .int .i64 0, .int .i64 0, .bool false, .int .i64 0, .int .i64 0, .int .i64 0, .slice none 0 0] 35)) (w.heap.size + 1) ub0 ua0 := x1
  clear x1 x2 hs
  go_enter Tryz.func18, Tryz.ntmps18
  go_wp2_with (with_reducible refine stop_loadT 3 ?_)
  generalize (((w.alloc (.cells #[.int .i64 5, .int .i64 i, .slice A n cap] 40)).alloc (.cells #[.int .i64 0, .int .i64 0, .int .i64 0, .int .i64 0, .int .i64 0, .int .i64 0, .int .i64 0, .int .i64 0, .int .i64 0, .int .i64 0, .int .i64 0, .int .i64 0, .int .i64 0, .int .i64 0, .int .i64 0, .int .i64 0, .int .i64 0, .int .i64 0, .int .i64 0, .int .i64 0, .int .i64 0, .int .i64 0, .int .i64 0, .int .i64 0, .int .i64 0, .int .i64 0, .int .i64 0, .int .i64 0, .int .i64 0, .int .i64 0, .int .i64 0, .int .i64 0, .int .i64 0, .int .i64 0, .slice none 0 0, .int .i64 0, .int .i64 0, .int .i64 0, .int .i64 0, .int .i64 0, .int .i64 0, .int .i64 0, .int .i64 0, .bool false, .int .i64 0, .int .i64 0, .int .i64 0, .slice none 0 0] 35)).alloc (.cells #[.int .i64 0, .int .i64 0, .int .i64 0, .int .i64 0, .int .i64 0, .int .i64 0, .int .i64 0, .int .i64 0, .int .i64 0, .int .i64 0, .int .i64 0, .int .i64 0, .int .i64 0, .int .i64 0, .int .i64 0, .int .i64 0, .int .i64 0, .int .i64 0, .int .i64 0, .int .i64 0, .int .i64 0, .int .i64 0, .int .i64 0, .int .i64 0, .int .i64 0, .int .i64 0, .int .i64 0, .int .i64 0, .int .i64 0, .int .i64 0, .int .i64 0, .int .i64 0, .int .i64 0, .int .i64 0, .slice none 0 0, .int .i64 0, .int .i64 0, .int .i64 0, .int .i64 0, .int .i64 0, .int .i64 0, .int .i64 0, .int .i64 0, .bool false, .int .i64 0, .int .i64 0, .int .i64 0, .slice none 0 0] 35)) = w1 at *
  have e0 := blk_cell (i := 0) (v := .int .i64 5) x0 rfl
  have e1 := blk_cell (i := 1) (v := .int .i64 i) x0 rfl
  have b1 : (i == 0) = false := by simpa using h1
  have b2 : (i == 1) = false := by simpa using h2
  refine go_ ?_
  go_wp2_with (first | (with_reducible refine stop_loadT 35 ?_) | (with_reducible refine stop_storeT 35 ?_) | (with_reducible refine stop_loadG 35 ?_))
  refine go_ (wpList_store_row rfl _ _ _ rfl (w.heap.size + 1) (ubL ub0 ua0).toArray rfl rfl _ _ hres (ub_size ub0 ua0 rfl rfl) (ub_sizes rfl rfl rfl rfl) (ub_one ub0 ua0) ?_)
  have hres2 := setRow_heap _ _ _ (ubL ub0 ua0).toArray _ _ hres
  have haw : Aw (fun k => k = w.heap.size + 1) w1 (w1.setRow (w.heap.size + 1) (ubL ub0 ua0).toArray) := aw_setRow20 _ _
  have hb6 := below_aw20 hb haw (fun k hk => by rw [hk]; omega) hb.size
  generalize w1.setRow (w.heap.size + 1) (ubL ub0 ua0).toArray = w6 at *
  go_wp2
  exact bodyPost_ret (results_cell2 rfl _ _ (w.heap.size + 1) _ _ _ _ rfl hres2 Tryz.underlying35 rfl (ub_size ub0 ua0 rfl rfl)) rfl ⟨ua0, rfl, UbR.nil _ _ _ rfl rfl, (fun p hp => by rcases hp with hp | hp <;> cases hp), hb6⟩

set_option maxRecDepth 10000 in
set_option maxHeartbeats 8000000 in
theorem qubTake_06 (i : Int) (A : Option Addr) (n cap : Nat) (w : World) (h1 : ¬ i = 138) :
    Calls Tryz.prog 18 #[.agg #[.int .i64 6, .int .i64 i, .slice A n cap]] w (RetUT w ub0 6) := by
  obtain ⟨x0, x1, x2, hs, hb⟩ := al3 w (.cells #[.int .i64 6, .int .i64 i, .slice A n cap] 40) (.cells #[.int .i64 0, .int .i64 0, .int .i64 0, .int .i64 0, .int .i64 0, .int .i64 0, .int .i64 0, .int .i64 0, .int .i64 0, .int .i64 0, .int .i64 0, .int .i64 0, .int .i64 0, .int .i64 0, .int .i64 0, .int .i64 0, .int .i64 0, .int .i64 0, .int .i64 0, .int .i64 0, .int .i64 0, .int .i64 0, .int .i64 0, .int .i64 0, .int .i64 0, .int .i64 0, .int .i64 0, .int .i64 0, .int .i64 0, .int .i64 0, .int .i64 0, .int .i64 0, .int .i64 0, .int .i64 0, .slice none 0 0, .int .i64 0, .int .i64 0, .int .i64 0, .int .i64 0, .int .i64 0, .int .i64 0, .int .i64 0, .int .i64 0, .bool false, .int .i64 0, .int .i64 0, .int .i64 0, .slice none 0 0] 35) (.cells #[.int .i64 0, .int .i64 0, .int .i64 0, .int .i64 0, .int .i64 0, .int .i64 0, .int .i64 0, .int .i64 0, .int .i64 0, .int .i64 0, .int .i64 0, .int .i64 0, .int .i64 0, .int .i64 0, .int .i64 0, .int .i64 0, .int .i64 0, .int .i64 0, .int .i64 0, .int .i64 0, .int .i64 0, .int .i64 0, .int .i64 0, .int .i64 0, .int .i64 0, .int .i64 0, .int .i64 0, .int .i64 0, .int .i64 0, .int .i64 0, .int .i64 0, .int .i64 0, .int .i64 0, .int .i64 0, .slice none 0 0, .int .i64 0, .int .i64 0, .int .i64 0, .int .i64 0, .int .i64 0, .int .i64 0, .int .i64 0, .int .i64 0, .bool false, .int .i64 0, .int .i64 0, .int .i64 0, .slice none 0 0] 35)
  have hres : UbB (((w.alloc (.cells #[.int .i64 6, .int .i64 i, .slice A n cap] 40)).alloc (.cells #[.int .i64 0, .int .i64 0, .int .i64 0, .int .i64 0, .int .i64 0, .int .i64 0, .int .i64 0, .int .i64 0, .int .i64 0, .int .i64 0, .int .i64 0, .int .i64 0, .int .i64 0, .int .i64 0, .int .i64 0, .int .i64 0, .int .i64 0, .int .i64 0, .int .i64 0, .int .i64 0, .int .i64 0, .int .i64 0, .int .i64 0, .int .i64 0, .int .i64 0, .int .i64 0, .int .i64 0, .int .i64 0, .int .i64 0, .int .i64 0, .int .i64 0, .int .i64 0, .int .i64 0, .int .i64 0, .slice none 0 0, .int .i64 0, .int .i64 0, .int .i64 0, .int .i64 0, .int .i64 0, .int .i64 0, .int .i64 0, .int .i64 0, .bool false, .int .i64 0, .int .i64 0, .int .i64 0, .slice none 0 0] 35)).alloc (.cells #[.int .i64 0, .int .i64 0, .int .i64 0, .int .i64 0, .int .i64 0, .int .i64 0, .int .i64 0, .int .i64 0, .int .i64 0, .int .i64 0, .int .i64 0, .int .i64 0, .int .i64 0, .int .i64 0, .int .i64 0, .int .i64 0, .int .i64 0, .int .i64 0, .int .i64 0, .int .i64 0, .int .i64 0, .int .i64 0, .int .i64 0, .int .i64 0, .int .i64 0, .int .i64 0, .int .i64 0, .int .i64 0, .int .i64 0, .int .i64 0, .int .i64 0, .int .i64 0, .int .i64 0, .int .i64 0, .slice none 0 0, .int .i64 0, .int .i64 0, .int .i64 0, .int .i64 0, .int .i64 0, .int .i64 0, .int .i64 0, .int .i64 0, .bool false, .int .i64 0, .int .i64 0, .int .i64 0, .slice none 0 0] 35)) (w.heap.size + 1) ub0 ua0 := x1
  clear x1 x2 hs
  go_enter Tryz.func18, Tryz.ntmps18
  go_wp2_with (with_reducible refine stop_loadT 3 ?_)
  generalize (((w.alloc (.cells #[.int .i64 6, .int .i64 i, .slice A n cap] 40)).alloc (.cells #[.int .i64 0, .int .i64 0, .int .i64 0, .int .i64 0, .int .i64 0, .int .i64 0, .int .i64 0, .int .i64 0, .int .i64 0, .int .i64 0, .int .i64 0, .int .i64 0, .int .i64 0, .int .i64 0, .int .i64 0, .int .i64 0, .int .i64 0, .int .i64 0, .int .i64 0, .int .i64 0, .int .i64 0, .int .i64 0, .int .i64 0, .int .i64 0, .int .i64 0, .int .i64 0, .int .i64 0, .int .i64 0, .int .i64 0, .int .i64 0, .int .i64 0, .int .i64 0, .int .i64 0, .int .i64 0, .slice none 0 0, .int .i64 0, .int .i64 0, .int .i64 0, .int .i64 0, .int .i64 0, .int .i64 0, .int .i64 0, .int .i64 0, .bool false, .int .i64 0, .int .i64 0, .int .i64 0, .slice none 0 0] 35)).alloc (.cells #[.int .i64 0, .int .i64 0, .int .i64 0, .int .i64 0, .int .i64 0, .int .i64 0, .int .i64 0, .int .i64 0, .int .i64 0, .int .i64 0, .int .i64 0, .int .i64 0, .int .i64 0, .int .i64 0, .int .i64 0, .int .i64 0, .int .i64 0, .int .i64 0, .int .i64 0, .int .i64 0, .int .i64 0, .int .i64 0, .int .i64 0, .int .i64 0, .int .i64 0, .int .i64 0, .int .i64 0, .int .i64 0, .int .i64 0, .int .i64 0, .int .i64 0, .int .i64 0, .int .i64 0, .int .i64 0, .slice none 0 0, .int .i64 0, .int .i64 0, .int .i64 0, .int .i64 0, .int .i64 0, .int .i64 0, .int .i64 0, .int .i64 0, .bool false, .int .i64 0, .int .i64 0, .int .i64 0, .slice none 0 0] 35)) = w1 at *
  have e0 := blk_cell (i := 0) (v := .int .i64 6) x0 rfl
  have e1 := blk_cell (i := 1) (v := .int .i64 i) x0 rfl
  refine go_ ?_
  go_wp2_with (first | (with_reducible refine stop_loadT 35 ?_) | (with_reducible refine stop_storeT 35 ?_) | (with_reducible refine stop_loadG 35 ?_))
  refine go_ (wpList_store_row rfl _ _ _ rfl (w.heap.size + 1) (ubL ub0 ua0).toArray rfl rfl _ _ hres (ub_size ub0 ua0 rfl rfl) (ub_sizes rfl rfl rfl rfl) (ub_one ub0 ua0) ?_)
  have hres2 := setRow_heap _ _ _ (ubL ub0 ua0).toArray _ _ hres
  have haw : Aw (fun k => k = w.heap.size + 1) w1 (w1.setRow (w.heap.size + 1) (ubL ub0 ua0).toArray) := aw_setRow20 _ _
  have hb6 := below_aw20 hb haw (fun k hk => by rw [hk]; omega) hb.size
  generalize w1.setRow (w.heap.size + 1) (ubL ub0 ua0).toArray = w6 at *
  go_wp2
  exact bodyPost_ret (results_cell2 rfl _ _ (w.heap.size + 1) _ _ _ _ rfl hres2 Tryz.underlying35 rfl (ub_size ub0 ua0 rfl rfl)) rfl ⟨ua0, rfl, UbR.nil _ _ _ rfl rfl, (fun p hp => by rcases hp with hp | hp <;> cases hp), hb6⟩

set_option maxRecDepth 10000 in
set_option maxHeartbeats 8000000 in
theorem qubTake_00 (c i : Int) (A : Option Addr) (n cap : Nat) (w : World) (h1 : ¬ c = 1) (h2 : ¬ c = 5) (h3 : ¬ c = 6) :
    Calls Tryz.prog 18 #[.agg #[.int .i64 c, .int .i64 i, .slice A n cap]] w (RetUT w ub0 6) := by
  obtain ⟨x0, x1, x2, hs, hb⟩ := al3 w (.cells #[.int .i64 c, .int .i64 i, .slice A n cap] 40) (.cells #[.int .i64 0, .int .i64 0, .int .i64 0, .int .i64 0, .int .i64 0, .int .i64 0, .int .i64 0, .int .i64 0, .int .i64 0, .int .i64 0, .int .i64 0, .int .i64 0, .int .i64 0, .int .i64 0, .int .i64 0, .int .i64 0, .int .i64 0, .int .i64 0, .int .i64 0, .int .i64 0, .int .i64 0, .int .i64 0, .int .i64 0, .int .i64 0, .int .i64 0, .int .i64 0, .int .i64 0, .int .i64 0, .int .i64 0, .int .i64 0, .int .i64 0, .int .i64 0, .int .i64 0, .int .i64 0, .slice none 0 0, .int .i64 0, .int .i64 0, .int .i64 0, .int .i64 0, .int .i64 0, .int .i64 0, .int .i64 0, .int .i64 0, .bool false, .int .i64 0, .int .i64 0, .int .i64 0, .slice none 0 0] 35) (.cells #[.int .i64 0, .int .i64 0, .int .i64 0, .int .i64 0, .int .i64 0, .int .i64 0, .int .i64 0, .int .i64 0, .int .i64 0, .int .i64 0, .int .i64 0, .int .i64 0, .int .i64 0, .int .i64 0, .int .i64 0, .int .i64 0, .int .i64 0, .int .i64 0, .int .i64 0, .int .i64 0, .int .i64 0, .int .i64 0, .int .i64 0, .int .i64 0, .int .i64 0, .int .i64 0, .int .i64 0, .int .i64 0, .int .i64 0, .int .i64 0, .int .i64 0, .int .i64 0, .int .i64 0, .int .i64 0, .slice none 0 0, .int .i64 0, .int .i64 0, .int .i64 0, .int .i64 0, .int .i64 0, .int .i64 0, .int .i64 0, .int .i64 0, .bool false, .int .i64 0, .int .i64 0, .int .i64 0, .slice none 0 0] 35)
  have hres : UbB (((w.alloc (.cells #[.int .i64 c, .int .i64 i, .slice A n cap] 40)).alloc (.cells #[.int .i64 0, .int .i64 0, .int .i64 0, .int .i64 0, .int .i64 0, .int .i64 0, .int .i64 0, .int .i64 0, .int .i64 0, .int .i64 0, .int .i64 0, .int .i64 0, .int .i64 0, .int .i64 0, .int .i64 0, .int .i64 0, .int .i64 0, .int .i64 0, .int .i64 0, .int .i64 0, .int .i64 0, .int .i64 0, .int .i64 0, .int .i64 0, .int .i64 0, .int .i64 0, .int .i64 0, .int .i64 0, .int .i64 0, .int .i64 0, .int .i64 0, .int .i64 0, .int .i64 0, .int .i64 0, .slice none 0 0, .int .i64 0, .int .i64 0, .int .i64 0, .int .i64 0, .int .i64 0, .int .i64 0, .int .i64 0, .int .i64 0, .bool false, .int .i64 0, .int .i64 0, .int .i64 0, .slice none 0 0] 35)).alloc (.cells #[.int .i64 0, .int .i64 0, .int .i64 0, .int .i64 0, .int .i64 0, .int .i64 0, .int .i64 0, .int .i64 0, .int .i64 0, .int .i64 0, .int .i64 0, .int .i64 0, .int .i64 0, .int .i64 0, .int .i64 0, .int .i64 0, .int .i64 0, .int .i64 0, .int .i64 0, .int .i64 0, .int .i64 0, .int .i64 0, .int .i64 0, .int .i64 0, .int .i64 0, .int .i64 0, .int .i64 0, .int .i64 0, .int .i64 0, .int .i64 0, .int .i64 0, .int .i64 0, .int .i64 0, .int .i64 0, .slice none 0 0, .int .i64 0, .int .i64 0, .int .i64 0, .int .i64 0, .int .i64 0, .int .i64 0, .int .i64 0, .int .i64 0, .bool false, .int .i64 0, .int .i64 0, .int .i64 0, .slice none 0 0] 35)) (w.heap.size + 1) ub0 ua0 := x1
  clear x1 x2 hs
  go_enter Tryz.func18, Tryz.ntmps18
  go_wp2_with (with_reducible refine stop_loadT 3 ?_)
  generalize (((w.alloc (.cells #[.int .i64 c, .int .i64 i, .slice A n cap] 40)).alloc (.cells #[.int .i64 0, .int .i64 0, .int .i64 0, .int .i64 0, .int .i64 0, .int .i64 0, .int .i64 0, .int .i64 0, .int .i64 0, .int .i64 0, .int .i64 0, .int .i64 0, .int .i64 0, .int .i64 0, .int .i64 0, .int .i64 0, .int .i64 0, .int .i64 0, .int .i64 0, .int .i64 0, .int .i64 0, .int .i64 0, .int .i64 0, .int .i64 0, .int .i64 0, .int .i64 0, .int .i64 0, .int .i64 0, .int .i64 0, .int .i64 0, .int .i64 0, .int .i64 0, .int .i64 0, .int .i64 0, .slice none 0 0, .int .i64 0, .int .i64 0, .int .i64 0, .int .i64 0, .int .i64 0, .int .i64 0, .int .i64 0, .int .i64 0, .bool false, .int .i64 0, .int .i64 0, .int .i64 0, .slice none 0 0] 35)).alloc (.cells #[.int .i64 0, .int .i64 0, .int .i64 0, .int .i64 0, .int .i64 0, .int .i64 0, .int .i64 0, .int .i64 0, .int .i64 0, .int .i64 0, .int .i64 0, .int .i64 0, .int .i64 0, .int .i64 0, .int .i64 0, .int .i64 0, .int .i64 0, .int .i64 0, .int .i64 0, .int .i64 0, .int .i64 0, .int .i64 0, .int .i64 0, .int .i64 0, .int .i64 0, .int .i64 0, .int .i64 0, .int .i64 0, .int .i64 0, .int .i64 0, .int .i64 0, .int .i64 0, .int .i64 0, .int .i64 0, .slice none 0 0, .int .i64 0, .int .i64 0, .int .i64 0, .int .i64 0, .int .i64 0, .int .i64 0, .int .i64 0, .int .i64 0, .bool false, .int .i64 0, .int .i64 0, .int .i64 0, .slice none 0 0] 35)) = w1 at *
  have e0 := blk_cell (i := 0) (v := .int .i64 c) x0 rfl
  have e1 := blk_cell (i := 1) (v := .int .i64 i) x0 rfl
  refine go_ ?_
  go_wp2_with (first | (with_reducible refine stop_loadT 35 ?_) | (with_reducible refine stop_storeT 35 ?_) | (with_reducible refine stop_loadG 35 ?_))
  refine go_ (wpList_store_row rfl _ _ _ rfl (w.heap.size + 1) (ubL ub0 ua0).toArray rfl rfl _ _ hres (ub_size ub0 ua0 rfl rfl) (ub_sizes rfl rfl rfl rfl) (ub_one ub0 ua0) ?_)
  have hres2 := setRow_heap _ _ _ (ubL ub0 ua0).toArray _ _ hres
  have haw : Aw (fun k => k = w.heap.size + 1) w1 (w1.setRow (w.heap.size + 1) (ubL ub0 ua0).toArray) := aw_setRow20 _ _
  have hb6 := below_aw20 hb haw (fun k hk => by rw [hk]; omega) hb.size
  generalize w1.setRow (w.heap.size + 1) (ubL ub0 ua0).toArray = w6 at *
  go_wp2
  exact bodyPost_ret (results_cell2 rfl _ _ (w.heap.size + 1) _ _ _ _ rfl hres2 Tryz.underlying35 rfl (ub_size ub0 ua0 rfl rfl)) rfl ⟨ua0, rfl, UbR.nil _ _ _ rfl rfl, (fun p hp => by rcases hp with hp | hp <;> cases hp), hb6⟩

theorem qubTake_any (c i : Int) (A : Option Addr) (n cap B : Nat) (b : List UInt8) (w : World) (h : Rd w B 1 A n cap (bv b)) (hB : B ≤ w.heap.size) (hn : n ≤ 1000000000) :
    Calls Tryz.prog 18 #[.agg #[.int .i64 c, .int .i64 i, .slice A n cap]] w (RetUT w (ubT c i b) (ubTE c i b)) := by
  rcases ubKd_le c i with hk | hk | hk | hk | hk | hk
  · obtain ⟨rfl, rfl⟩ := ubKd_1 hk; exact qubTake_1 A n cap B b w h hB hn
  · obtain ⟨rfl, rfl⟩ := ubKd_2 hk; exact qubTake_2 A n cap B b w h hB hn
  · obtain ⟨rfl, rfl⟩ := ubKd_3 hk; exact qubTake_3 A n cap B b w h hB hn
  · obtain ⟨rfl, hi⟩ := ubKd_4 hk
    rcases hi with rfl | rfl
    · exact qubTake_4n A n cap B b w h hB hn
    · exact qubTake_4y A n cap B b w h hB hn
  · obtain ⟨rfl, rfl⟩ := ubKd_5 hk; exact qubTake_5 A n cap B b w h hB hn
  · have hE : ubTE c i b = 6 := by unfold ubTE; rw [hk]; rfl
    have hT : ubT c i b = ub0 := by unfold ubT; rw [if_neg (by rw [hE]; omega)]
    rw [hE, hT]
    unfold ubKd at hk
    by_cases c1 : c = 1
    · subst c1
      refine qubTake_01 i A n cap w ?_ ?_ ?_ <;> (rintro rfl; simp at hk)
    by_cases c5 : c = 5
    · subst c5
      refine qubTake_05 i A n cap w ?_ ?_ <;> (rintro rfl; simp at hk)
    by_cases c6 : c = 6
    · subst c6
      refine qubTake_06 i A n cap w ?_ <;> (rintro rfl; simp at hk)
    exact qubTake_00 c i A n cap w c1 c5 c6

end Go.Proofs.YtmkidihcdljkiaaGreat
