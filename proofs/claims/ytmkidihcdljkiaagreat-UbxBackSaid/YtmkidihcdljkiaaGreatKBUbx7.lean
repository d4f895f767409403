/-
  ubx.Take walked, a case a kind (printed by gen_ubx7.py).
-/
import Derived.Test.YtmkidihcdljkiaaGreatKBUbx5
set_option linter.unusedSimpArgs false
set_option linter.unusedVariables false
namespace Go.Proofs.YtmkidihcdljkiaaGreat
open Go.RowKit NumLaw
attribute [local go_sem] Addr.add_mid

/-- A message and an error; its rows are read. -/
def RetUT (w : World) (V : UbV) (err : Nat) (e : Ending) (w' : World) : Prop :=
  ∃ a, e = .returned (.tuple #[.agg (ubL V a).toArray, .int .i64 (err : Int)]) ∧ UbR w' w'.heap.size V a ∧ (∀ p, a.A = some p ∨ a.A' = some p → w.heap.size ≤ p.block) ∧ Below w.heap.size w w'
theorem ubTV_lens (c i : Int) (b : List UInt8) : (ubTV c i b).p.length = 32 ∧ (ubTV c i b).d.length = 8 := by
  unfold ubTV
  split
  · exact ⟨ptake_len b, rfl⟩
  · exact ⟨rfl, rfl⟩
  · exact ⟨rfl, dopD_len b⟩
  · exact ⟨rfl, rfl⟩
  · exact ⟨rfl, rfl⟩
  · exact ⟨rfl, rfl⟩

set_option maxRecDepth 10000 in
set_option maxHeartbeats 1000000 in
theorem ubkind1 (w : World) : Calls Tryz.prog 110 #[.agg #[]] w fun e w' => e = .returned (.int .i64 1) ∧ Below w.heap.size w w' := by
  go_enter Tryz.func110, Tryz.ntmps110
  go_wp2
  go_ret
  exact ⟨rfl, (Below.refl _ _).alloc (Nat.le_refl _) _⟩
set_option maxRecDepth 10000 in
set_option maxHeartbeats 4000000 in
theorem ubTake_1 (c i : Int) (A : Option Addr) (n cap B : Nat) (b : List UInt8) (w : World) (h : Rd w B 1 A n cap (bv b)) (hB : B ≤ w.heap.size) (hn : n ≤ 1000000000) (hk : ubKd c i = 1) :
    Calls Tryz.prog 17 #[.agg #[.int .i64 c, .int .i64 i, .slice A n cap]] w (RetUT w (ubT c i b) (ubTE c i b)) := by
  obtain ⟨oE, hoE⟩ : ∃ oE, oE = shTE pvtF b := ⟨_, rfl⟩
  obtain ⟨V5, hV5⟩ : ∃ V5 : UbV, V5 = { ub0 with k := 1, p := ptake b } := ⟨_, rfl⟩
  have HE : Hid (oE = ubTE c i b) := Lib.hid (by rw [hoE]; simp [ubTE, hk])
  have HV : Hid (oE = 0 → V5 = ubTV c i b) := Lib.hid (fun h0 => by rw [hoE] at h0; rw [hV5]; simp [ubTV, hk, h0])
  obtain ⟨UT, hUT⟩ : ∃ UT, UT = ubT c i b := ⟨_, rfl⟩
  have H0 : Hid (oE = 0 → V5 = UT) := Lib.hid (fun he => by rw [HV.out he, hUT]; unfold ubT; rw [if_pos (HE.out.symm.trans he)])
  have H1 : Hid (oE ≠ 0 → UT = ub0) := Lib.hid (fun he => by rw [hUT]; unfold ubT; rw [if_neg (by rw [← HE.out]; exact he)])
  rw [← hUT, ← HE.out]
  have HL : Hid (V5.p.length = 32 ∧ V5.d.length = 8) := Lib.hid (by rw [hV5]; exact ⟨ptake_len b, rfl⟩)
  have Htk := Lib.hid (fun g w hx hr hB => ubtake1 A n cap B b i g w hr hB hn hx)
  rw [← hV5, ← hoE] at Htk
  have hP : ubPart c i = .iface 88 (.agg #[]) := by unfold ubPart; rw [hk]; rfl
  have hm1 : ∀ w : World, (method 59 88 (.agg #[]) "landfall/ubx.kind").run Tryz.prog w = .ok (110, .agg #[]) w := fun _ => by kernel_rfl
  have hm2 : ∀ w : World, (method 59 88 (.agg #[]) "landfall/ubx.take").run Tryz.prog w = .ok (112, .agg #[]) w := fun _ => by kernel_rfl
  clear hoE hV5 hk hn hUT HE HV
  obtain ⟨x0, x1, hs, hb⟩ := al2 w (.cells #[.int .i64 c, .int .i64 i, .slice A n cap] 40) (.cells #[.int .i64 0, .int .i64 0, .int .i64 0, .int .i64 0, .int .i64 0, .int .i64 0, .int .i64 0, .int .i64 0, .int .i64 0, .int .i64 0, .int .i64 0, .int .i64 0, .int .i64 0, .int .i64 0, .int .i64 0, .int .i64 0, .int .i64 0, .int .i64 0, .int .i64 0, .int .i64 0, .int .i64 0, .int .i64 0, .int .i64 0, .int .i64 0, .int .i64 0, .int .i64 0, .int .i64 0, .int .i64 0, .int .i64 0, .int .i64 0, .int .i64 0, .int .i64 0, .int .i64 0, .int .i64 0, .slice none 0 0, .int .i64 0, .int .i64 0, .int .i64 0, .int .i64 0, .int .i64 0, .int .i64 0, .int .i64 0, .int .i64 0, .bool false, .int .i64 0, .int .i64 0, .int .i64 0, .slice none 0 0] 35)
  have hres : UbB ((w.alloc (.cells #[.int .i64 c, .int .i64 i, .slice A n cap] 40)).alloc (.cells #[.int .i64 0, .int .i64 0, .int .i64 0, .int .i64 0, .int .i64 0, .int .i64 0, .int .i64 0, .int .i64 0, .int .i64 0, .int .i64 0, .int .i64 0, .int .i64 0, .int .i64 0, .int .i64 0, .int .i64 0, .int .i64 0, .int .i64 0, .int .i64 0, .int .i64 0, .int .i64 0, .int .i64 0, .int .i64 0, .int .i64 0, .int .i64 0, .int .i64 0, .int .i64 0, .int .i64 0, .int .i64 0, .int .i64 0, .int .i64 0, .int .i64 0, .int .i64 0, .int .i64 0, .int .i64 0, .slice none 0 0, .int .i64 0, .int .i64 0, .int .i64 0, .int .i64 0, .int .i64 0, .int .i64 0, .int .i64 0, .int .i64 0, .bool false, .int .i64 0, .int .i64 0, .int .i64 0, .slice none 0 0] 35)) (w.heap.size + 1) ub0 ua0 := x1
  have hr := h.up (hb.mono hB)
  clear x1 h
  go_enter Tryz.func17, Tryz.ntmps17
  go_wp2_with fail
  generalize ((w.alloc (.cells #[.int .i64 c, .int .i64 i, .slice A n cap] 40)).alloc (.cells #[.int .i64 0, .int .i64 0, .int .i64 0, .int .i64 0, .int .i64 0, .int .i64 0, .int .i64 0, .int .i64 0, .int .i64 0, .int .i64 0, .int .i64 0, .int .i64 0, .int .i64 0, .int .i64 0, .int .i64 0, .int .i64 0, .int .i64 0, .int .i64 0, .int .i64 0, .int .i64 0, .int .i64 0, .int .i64 0, .int .i64 0, .int .i64 0, .int .i64 0, .int .i64 0, .int .i64 0, .int .i64 0, .int .i64 0, .int .i64 0, .int .i64 0, .int .i64 0, .int .i64 0, .int .i64 0, .slice none 0 0, .int .i64 0, .int .i64 0, .int .i64 0, .int .i64 0, .int .i64 0, .int .i64 0, .int .i64 0, .int .i64 0, .bool false, .int .i64 0, .int .i64 0, .int .i64 0, .slice none 0 0] 35)) = w1 at *
  go_fit (ubnamed_any c i w1)
  rintro e w2 ⟨rfl, rfl⟩
  rw [hP]
  go_wp2_with fail
  go_fit (ubkind1 w1)
  rintro e w2 ⟨rfl, hb2⟩
  replace x0 := blk_old x0 hb2 (blk_lt x0)
  replace hres := hres.old hb2 (blk_lt hres)
  replace hr := hr.up (hb2.mono (Nat.le_trans hB hb.size))
  replace hb := bnx hb hb2
  have hg2 := blk_lt hres
  have y1 := heap_alloc_new w2 (.cells #[.int .i64 0, .int .i64 0, .int .i64 0, .int .i64 0, .int .i64 0, .int .i64 0, .int .i64 0, .int .i64 0, .int .i64 0, .int .i64 0, .int .i64 0, .int .i64 0, .int .i64 0, .int .i64 0, .int .i64 0, .int .i64 0, .int .i64 0, .int .i64 0, .int .i64 0, .int .i64 0, .int .i64 0, .int .i64 0, .int .i64 0, .int .i64 0, .int .i64 0, .int .i64 0, .int .i64 0, .int .i64 0, .int .i64 0, .int .i64 0, .int .i64 0, .int .i64 0, .int .i64 0, .int .i64 0, .slice none 0 0, .int .i64 0, .int .i64 0, .int .i64 0, .int .i64 0, .int .i64 0, .int .i64 0, .int .i64 0, .int .i64 0, .bool false, .int .i64 0, .int .i64 0, .int .i64 0, .slice none 0 0] 35)
  have hb3 := (Below.refl w2.heap.size w2).alloc (Nat.le_refl _) (.cells #[.int .i64 0, .int .i64 0, .int .i64 0, .int .i64 0, .int .i64 0, .int .i64 0, .int .i64 0, .int .i64 0, .int .i64 0, .int .i64 0, .int .i64 0, .int .i64 0, .int .i64 0, .int .i64 0, .int .i64 0, .int .i64 0, .int .i64 0, .int .i64 0, .int .i64 0, .int .i64 0, .int .i64 0, .int .i64 0, .int .i64 0, .int .i64 0, .int .i64 0, .int .i64 0, .int .i64 0, .int .i64 0, .int .i64 0, .int .i64 0, .int .i64 0, .int .i64 0, .int .i64 0, .int .i64 0, .slice none 0 0, .int .i64 0, .int .i64 0, .int .i64 0, .int .i64 0, .int .i64 0, .int .i64 0, .int .i64 0, .int .i64 0, .bool false, .int .i64 0, .int .i64 0, .int .i64 0, .slice none 0 0] 35)
  replace x0 := blk_old x0 hb3 (blk_lt x0)
  replace hres := hres.old hb3 hg2
  replace hr := hr.up (hb3.mono (Nat.le_trans hB hb.size))
  have hBg := Nat.le_trans hB hb.size
  replace hb := bnx hb hb3
  clear hb2 hb3 hP hs
  go_wp2_with (first | (with_reducible refine stop_loadT 35 ?_) | (with_reducible refine stop_storeT 35 ?_) | (with_reducible refine stop_loadG 35 ?_))
  generalize (w2.alloc (.cells #[.int .i64 0, .int .i64 0, .int .i64 0, .int .i64 0, .int .i64 0, .int .i64 0, .int .i64 0, .int .i64 0, .int .i64 0, .int .i64 0, .int .i64 0, .int .i64 0, .int .i64 0, .int .i64 0, .int .i64 0, .int .i64 0, .int .i64 0, .int .i64 0, .int .i64 0, .int .i64 0, .int .i64 0, .int .i64 0, .int .i64 0, .int .i64 0, .int .i64 0, .int .i64 0, .int .i64 0, .int .i64 0, .int .i64 0, .int .i64 0, .int .i64 0, .int .i64 0, .int .i64 0, .int .i64 0, .slice none 0 0, .int .i64 0, .int .i64 0, .int .i64 0, .int .i64 0, .int .i64 0, .int .i64 0, .int .i64 0, .int .i64 0, .bool false, .int .i64 0, .int .i64 0, .int .i64 0, .slice none 0 0] 35)) = w3 at *
  generalize w2.heap.size = g5 at *
  refine go_ (wpList_store_row rfl _ _ _ rfl g5 (ubL { ub0 with k := 1 } ua0).toArray rfl rfl _ _ y1 (ub_size _ _ rfl rfl) (ub_sizes (V := ub0) (a := ua0) rfl rfl rfl rfl) (ub_one _ _) ?_)
  have hm : UbB _ g5 { ub0 with k := 1 } ua0 := setRow_heap _ _ _ (ubL { ub0 with k := 1 } ua0).toArray _ _ y1
  have haw : Aw (fun k => k = g5) w3 (w3.setRow g5 (ubL { ub0 with k := 1 } ua0).toArray) := aw_setRow20 _ _
  replace x0 := haw.keep x0 (by omega)
  replace hres : UbB _ (w.heap.size + 1) ub0 ua0 := haw.keep hres (by omega)
  replace hr := hr.up (below_aw20 (Below.refl B w3) haw (fun k hk => by rw [hk]; exact hBg) (Nat.le_trans hB hb.size))
  replace hb := below_aw20 hb haw (fun k hk => by rw [hk]; omega) hb.size
  generalize w3.setRow g5 (ubL { ub0 with k := 1 } ua0).toArray = w4 at *
  clear haw y1
  have e1 := blk_cell (i := 1) (v := .int .i64 i) x0 rfl
  have e2 := blk_cell (i := 2) (v := .slice A n cap) x0 rfl
  go_wp2_with fail
  go_fit (Htk.out g5 w4 hm hr (Nat.le_trans hB hb.size))
  rintro e w5 ⟨a5, rfl, hm5, hr5, hf5, hb5⟩
  replace hres := hres.old hb5 hg2
  replace hb := hb.trans (hb5.mono (by omega))
  have hws := hb.size
  clear x0 e1 e2 hm hr hb5
  by_cases he : oE = 0
  · have he' : (oE : Int) = 0 := by omega
    obtain rfl := H0.out he
    go_wp2_with (first | (with_reducible refine stop_loadT 35 ?_) | (with_reducible refine stop_storeT 35 ?_) | (with_reducible refine stop_loadG 35 ?_))
    refine go_ (wpList_load_row rfl _ _ rfl g5 rfl _ _ _ _ hm5 Tryz.underlying35 rfl (ub_size V5 a5 HL.out.1 HL.out.2) ?_)
    go_wp2_with (first | (with_reducible refine stop_loadT 35 ?_) | (with_reducible refine stop_storeT 35 ?_) | (with_reducible refine stop_loadG 35 ?_))
    refine go_ (wpList_store_row rfl _ _ _ rfl (w.heap.size + 1) (ubL V5 a5).toArray rfl rfl _ _ hres (ub_size V5 a5 HL.out.1 HL.out.2) (ub_sizes rfl rfl HL.out.1 HL.out.2) (ub_one V5 a5) ?_)
    have hres2 := setRow_heap _ _ _ (ubL V5 a5).toArray _ _ hres
    have haw : Aw (fun k => k = w.heap.size + 1) w5 (w5.setRow (w.heap.size + 1) (ubL V5 a5).toArray) := aw_setRow20 _ _
    have hb6 := below_aw20 hb haw (fun k hk => by rw [hk]; omega) (by omega)
    have hr6 := ubr_aw hr5 haw (fun p hp => by have := hf5 p hp; omega)
    generalize w5.setRow (w.heap.size + 1) (ubL V5 a5).toArray = w6 at *
    go_wp2
    exact bodyPost_ret (results_cell2 rfl _ _ (w.heap.size + 1) _ _ _ _ rfl hres2 Tryz.underlying35 rfl (ub_size V5 a5 HL.out.1 HL.out.2)) rfl ⟨a5, by rw [he]; rfl, hr6, (fun p hp => by have := hf5 p hp; omega), hb6⟩
  · have he' : ¬ (oE : Int) = 0 := by omega
    obtain rfl := H1.out he
    go_wp2_with (first | (with_reducible refine stop_loadT 35 ?_) | (with_reducible refine stop_storeT 35 ?_) | (with_reducible refine stop_loadG 35 ?_))
    refine go_ (wpList_store_row rfl _ _ _ rfl (w.heap.size + 1) (ubL ub0 ua0).toArray rfl rfl _ _ hres (ub_size ub0 ua0 rfl rfl) (ub_sizes rfl rfl rfl rfl) (ub_one ub0 ua0) ?_)
    have hres2 := setRow_heap _ _ _ (ubL ub0 ua0).toArray _ _ hres
    have haw : Aw (fun k => k = w.heap.size + 1) w5 (w5.setRow (w.heap.size + 1) (ubL ub0 ua0).toArray) := aw_setRow20 _ _
    have hb6 := below_aw20 hb haw (fun k hk => by rw [hk]; omega) (by omega)
    generalize w5.setRow (w.heap.size + 1) (ubL ub0 ua0).toArray = w6 at *
    go_wp2
    exact bodyPost_ret (results_cell2 rfl _ _ (w.heap.size + 1) _ _ _ _ rfl hres2 Tryz.underlying35 rfl (ub_size ub0 ua0 rfl rfl)) rfl ⟨ua0, rfl, UbR.nil _ _ _ rfl rfl, (fun p hp => by rcases hp with hp | hp <;> cases hp), hb6⟩

set_option maxRecDepth 10000 in
set_option maxHeartbeats 1000000 in
theorem ubkind2 (w : World) : Calls Tryz.prog 139 #[.agg #[]] w fun e w' => e = .returned (.int .i64 2) ∧ Below w.heap.size w w' := by
  go_enter Tryz.func139, Tryz.ntmps139
  go_wp2
  go_ret
  exact ⟨rfl, (Below.refl _ _).alloc (Nat.le_refl _) _⟩
set_option maxRecDepth 10000 in
set_option maxHeartbeats 4000000 in
theorem ubTake_2 (c i : Int) (A : Option Addr) (n cap B : Nat) (b : List UInt8) (w : World) (h : Rd w B 1 A n cap (bv b)) (hB : B ≤ w.heap.size) (hn : n ≤ 1000000000) (hk : ubKd c i = 2) :
    Calls Tryz.prog 17 #[.agg #[.int .i64 c, .int .i64 i, .slice A n cap]] w (RetUT w (ubT c i b) (ubTE c i b)) := by
  obtain ⟨oE, hoE⟩ : ∃ oE, oE = satsTE b := ⟨_, rfl⟩
  obtain ⟨V5, hV5⟩ : ∃ V5 : UbV, V5 = { ub0 with k := 2, t := satsTt b, l := satsTl b } := ⟨_, rfl⟩
  have HE : Hid (oE = ubTE c i b) := Lib.hid (by rw [hoE]; simp [ubTE, hk])
  have HV : Hid (oE = 0 → V5 = ubTV c i b) := Lib.hid (fun h0 => by rw [hoE] at h0; rw [hV5]; simp [ubTV, hk, h0])
  obtain ⟨UT, hUT⟩ : ∃ UT, UT = ubT c i b := ⟨_, rfl⟩
  have H0 : Hid (oE = 0 → V5 = UT) := Lib.hid (fun he => by rw [HV.out he, hUT]; unfold ubT; rw [if_pos (HE.out.symm.trans he)])
  have H1 : Hid (oE ≠ 0 → UT = ub0) := Lib.hid (fun he => by rw [hUT]; unfold ubT; rw [if_neg (by rw [← HE.out]; exact he)])
  rw [← hUT, ← HE.out]
  have HL : Hid (V5.p.length = 32 ∧ V5.d.length = 8) := Lib.hid (by rw [hV5]; exact ⟨rfl, rfl⟩)
  have Htk := Lib.hid (fun g w hx hr hB => ubtake2 A n cap B b i g w hr hB hn hx)
  rw [← hV5, ← hoE] at Htk
  have hP : ubPart c i = .iface 89 (.agg #[]) := by unfold ubPart; rw [hk]; rfl
  have hm1 : ∀ w : World, (method 59 89 (.agg #[]) "landfall/ubx.kind").run Tryz.prog w = .ok (139, .agg #[]) w := fun _ => by kernel_rfl
  have hm2 : ∀ w : World, (method 59 89 (.agg #[]) "landfall/ubx.take").run Tryz.prog w = .ok (141, .agg #[]) w := fun _ => by kernel_rfl
  clear hoE hV5 hk hn hUT HE HV
  obtain ⟨x0, x1, hs, hb⟩ := al2 w (.cells #[.int .i64 c, .int .i64 i, .slice A n cap] 40) (.cells #[.int .i64 0, .int .i64 0, .int .i64 0, .int .i64 0, .int .i64 0, .int .i64 0, .int .i64 0, .int .i64 0, .int .i64 0, .int .i64 0, .int .i64 0, .int .i64 0, .int .i64 0, .int .i64 0, .int .i64 0, .int .i64 0, .int .i64 0, .int .i64 0, .int .i64 0, .int .i64 0, .int .i64 0, .int .i64 0, .int .i64 0, .int .i64 0, .int .i64 0, .int .i64 0, .int .i64 0, .int .i64 0, .int .i64 0, .int .i64 0, .int .i64 0, .int .i64 0, .int .i64 0, .int .i64 0, .slice none 0 0, .int .i64 0, .int .i64 0, .int .i64 0, .int .i64 0, .int .i64 0, .int .i64 0, .int .i64 0, .int .i64 0, .bool false, .int .i64 0, .int .i64 0, .int .i64 0, .slice none 0 0] 35)
  have hres : UbB ((w.alloc (.cells #[.int .i64 c, .int .i64 i, .slice A n cap] 40)).alloc (.cells #[.int .i64 0, .int .i64 0, .int .i64 0, .int .i64 0, .int .i64 0, .int .i64 0, .int .i64 0, .int .i64 0, .int .i64 0, .int .i64 0, .int .i64 0, .int .i64 0, .int .i64 0, .int .i64 0, .int .i64 0, .int .i64 0, .int .i64 0, .int .i64 0, .int .i64 0, .int .i64 0, .int .i64 0, .int .i64 0, .int .i64 0, .int .i64 0, .int .i64 0, .int .i64 0, .int .i64 0, .int .i64 0, .int .i64 0, .int .i64 0, .int .i64 0, .int .i64 0, .int .i64 0, .int .i64 0, .slice none 0 0, .int .i64 0, .int .i64 0, .int .i64 0, .int .i64 0, .int .i64 0, .int .i64 0, .int .i64 0, .int .i64 0, .bool false, .int .i64 0, .int .i64 0, .int .i64 0, .slice none 0 0] 35)) (w.heap.size + 1) ub0 ua0 := x1
  have hr := h.up (hb.mono hB)
  clear x1 h
  go_enter Tryz.func17, Tryz.ntmps17
  go_wp2_with fail
  generalize ((w.alloc (.cells #[.int .i64 c, .int .i64 i, .slice A n cap] 40)).alloc (.cells #[.int .i64 0, .int .i64 0, .int .i64 0, .int .i64 0, .int .i64 0, .int .i64 0, .int .i64 0, .int .i64 0, .int .i64 0, .int .i64 0, .int .i64 0, .int .i64 0, .int .i64 0, .int .i64 0, .int .i64 0, .int .i64 0, .int .i64 0, .int .i64 0, .int .i64 0, .int .i64 0, .int .i64 0, .int .i64 0, .int .i64 0, .int .i64 0, .int .i64 0, .int .i64 0, .int .i64 0, .int .i64 0, .int .i64 0, .int .i64 0, .int .i64 0, .int .i64 0, .int .i64 0, .int .i64 0, .slice none 0 0, .int .i64 0, .int .i64 0, .int .i64 0, .int .i64 0, .int .i64 0, .int .i64 0, .int .i64 0, .int .i64 0, .bool false, .int .i64 0, .int .i64 0, .int .i64 0, .slice none 0 0] 35)) = w1 at *
  go_fit (ubnamed_any c i w1)
  rintro e w2 ⟨rfl, rfl⟩
  rw [hP]
  go_wp2_with fail
  go_fit (ubkind2 w1)
  rintro e w2 ⟨rfl, hb2⟩
  replace x0 := blk_old x0 hb2 (blk_lt x0)
  replace hres := hres.old hb2 (blk_lt hres)
  replace hr := hr.up (hb2.mono (Nat.le_trans hB hb.size))
  replace hb := bnx hb hb2
  have hg2 := blk_lt hres
  have y1 := heap_alloc_new w2 (.cells #[.int .i64 0, .int .i64 0, .int .i64 0, .int .i64 0, .int .i64 0, .int .i64 0, .int .i64 0, .int .i64 0, .int .i64 0, .int .i64 0, .int .i64 0, .int .i64 0, .int .i64 0, .int .i64 0, .int .i64 0, .int .i64 0, .int .i64 0, .int .i64 0, .int .i64 0, .int .i64 0, .int .i64 0, .int .i64 0, .int .i64 0, .int .i64 0, .int .i64 0, .int .i64 0, .int .i64 0, .int .i64 0, .int .i64 0, .int .i64 0, .int .i64 0, .int .i64 0, .int .i64 0, .int .i64 0, .slice none 0 0, .int .i64 0, .int .i64 0, .int .i64 0, .int .i64 0, .int .i64 0, .int .i64 0, .int .i64 0, .int .i64 0, .bool false, .int .i64 0, .int .i64 0, .int .i64 0, .slice none 0 0] 35)
  have hb3 := (Below.refl w2.heap.size w2).alloc (Nat.le_refl _) (.cells #[.int .i64 0, .int .i64 0, .int .i64 0, .int .i64 0, .int .i64 0, .int .i64 0, .int .i64 0, .int .i64 0, .int .i64 0, .int .i64 0, .int .i64 0, .int .i64 0, .int .i64 0, .int .i64 0, .int .i64 0, .int .i64 0, .int .i64 0, .int .i64 0, .int .i64 0, .int .i64 0, .int .i64 0, .int .i64 0, .int .i64 0, .int .i64 0, .int .i64 0, .int .i64 0, .int .i64 0, .int .i64 0, .int .i64 0, .int .i64 0, .int .i64 0, .int .i64 0, .int .i64 0, .int .i64 0, .slice none 0 0, .int .i64 0, .int .i64 0, .int .i64 0, .int .i64 0, .int .i64 0, .int .i64 0, .int .i64 0, .int .i64 0, .bool false, .int .i64 0, .int .i64 0, .int .i64 0, .slice none 0 0] 35)
  replace x0 := blk_old x0 hb3 (blk_lt x0)
  replace hres := hres.old hb3 hg2
  replace hr := hr.up (hb3.mono (Nat.le_trans hB hb.size))
  have hBg := Nat.le_trans hB hb.size
  replace hb := bnx hb hb3
  clear hb2 hb3 hP hs
  go_wp2_with (first | (with_reducible refine stop_loadT 35 ?_) | (with_reducible refine stop_storeT 35 ?_) | (with_reducible refine stop_loadG 35 ?_))
  generalize (w2.alloc (.cells #[.int .i64 0, .int .i64 0, .int .i64 0, .int .i64 0, .int .i64 0, .int .i64 0, .int .i64 0, .int .i64 0, .int .i64 0, .int .i64 0, .int .i64 0, .int .i64 0, .int .i64 0, .int .i64 0, .int .i64 0, .int .i64 0, .int .i64 0, .int .i64 0, .int .i64 0, .int .i64 0, .int .i64 0, .int .i64 0, .int .i64 0, .int .i64 0, .int .i64 0, .int .i64 0, .int .i64 0, .int .i64 0, .int .i64 0, .int .i64 0, .int .i64 0, .int .i64 0, .int .i64 0, .int .i64 0, .slice none 0 0, .int .i64 0, .int .i64 0, .int .i64 0, .int .i64 0, .int .i64 0, .int .i64 0, .int .i64 0, .int .i64 0, .bool false, .int .i64 0, .int .i64 0, .int .i64 0, .slice none 0 0] 35)) = w3 at *
  generalize w2.heap.size = g5 at *
  refine go_ (wpList_store_row rfl _ _ _ rfl g5 (ubL { ub0 with k := 2 } ua0).toArray rfl rfl _ _ y1 (ub_size _ _ rfl rfl) (ub_sizes (V := ub0) (a := ua0) rfl rfl rfl rfl) (ub_one _ _) ?_)
  have hm : UbB _ g5 { ub0 with k := 2 } ua0 := setRow_heap _ _ _ (ubL { ub0 with k := 2 } ua0).toArray _ _ y1
  have haw : Aw (fun k => k = g5) w3 (w3.setRow g5 (ubL { ub0 with k := 2 } ua0).toArray) := aw_setRow20 _ _
  replace x0 := haw.keep x0 (by omega)
  replace hres : UbB _ (w.heap.size + 1) ub0 ua0 := haw.keep hres (by omega)
  replace hr := hr.up (below_aw20 (Below.refl B w3) haw (fun k hk => by rw [hk]; exact hBg) (Nat.le_trans hB hb.size))
  replace hb := below_aw20 hb haw (fun k hk => by rw [hk]; omega) hb.size
  generalize w3.setRow g5 (ubL { ub0 with k := 2 } ua0).toArray = w4 at *
  clear haw y1
  have e1 := blk_cell (i := 1) (v := .int .i64 i) x0 rfl
  have e2 := blk_cell (i := 2) (v := .slice A n cap) x0 rfl
  go_wp2_with fail
  go_fit (Htk.out g5 w4 hm hr (Nat.le_trans hB hb.size))
  rintro e w5 ⟨a5, rfl, hm5, hr5, hf5, hb5⟩
  replace hres := hres.old hb5 hg2
  replace hb := hb.trans (hb5.mono (by omega))
  have hws := hb.size
  clear x0 e1 e2 hm hr hb5
  by_cases he : oE = 0
  · have he' : (oE : Int) = 0 := by omega
    obtain rfl := H0.out he
    go_wp2_with (first | (with_reducible refine stop_loadT 35 ?_) | (with_reducible refine stop_storeT 35 ?_) | (with_reducible refine stop_loadG 35 ?_))
    refine go_ (wpList_load_row rfl _ _ rfl g5 rfl _ _ _ _ hm5 Tryz.underlying35 rfl (ub_size V5 a5 HL.out.1 HL.out.2) ?_)
    go_wp2_with (first | (with_reducible refine stop_loadT 35 ?_) | (with_reducible refine stop_storeT 35 ?_) | (with_reducible refine stop_loadG 35 ?_))
    refine go_ (wpList_store_row rfl _ _ _ rfl (w.heap.size + 1) (ubL V5 a5).toArray rfl rfl _ _ hres (ub_size V5 a5 HL.out.1 HL.out.2) (ub_sizes rfl rfl HL.out.1 HL.out.2) (ub_one V5 a5) ?_)
    have hres2 := setRow_heap _ _ _ (ubL V5 a5).toArray _ _ hres
    have haw : Aw (fun k => k = w.heap.size + 1) w5 (w5.setRow (w.heap.size + 1) (ubL V5 a5).toArray) := aw_setRow20 _ _
    have hb6 := below_aw20 hb haw (fun k hk => by rw [hk]; omega) (by omega)
    have hr6 := ubr_aw hr5 haw (fun p hp => by have := hf5 p hp; omega)
    generalize w5.setRow (w.heap.size + 1) (ubL V5 a5).toArray = w6 at *
    go_wp2
    exact bodyPost_ret (results_cell2 rfl _ _ (w.heap.size + 1) _ _ _ _ rfl hres2 Tryz.underlying35 rfl (ub_size V5 a5 HL.out.1 HL.out.2)) rfl ⟨a5, by rw [he]; rfl, hr6, (fun p hp => by have := hf5 p hp; omega), hb6⟩
  · have he' : ¬ (oE : Int) = 0 := by omega
    obtain rfl := H1.out he
    go_wp2_with (first | (with_reducible refine stop_loadT 35 ?_) | (with_reducible refine stop_storeT 35 ?_) | (with_reducible refine stop_loadG 35 ?_))
    refine go_ (wpList_store_row rfl _ _ _ rfl (w.heap.size + 1) (ubL ub0 ua0).toArray rfl rfl _ _ hres (ub_size ub0 ua0 rfl rfl) (ub_sizes rfl rfl rfl rfl) (ub_one ub0 ua0) ?_)
    have hres2 := setRow_heap _ _ _ (ubL ub0 ua0).toArray _ _ hres
    have haw : Aw (fun k => k = w.heap.size + 1) w5 (w5.setRow (w.heap.size + 1) (ubL ub0 ua0).toArray) := aw_setRow20 _ _
    have hb6 := below_aw20 hb haw (fun k hk => by rw [hk]; omega) (by omega)
    generalize w5.setRow (w.heap.size + 1) (ubL ub0 ua0).toArray = w6 at *
    go_wp2
    exact bodyPost_ret (results_cell2 rfl _ _ (w.heap.size + 1) _ _ _ _ rfl hres2 Tryz.underlying35 rfl (ub_size ub0 ua0 rfl rfl)) rfl ⟨ua0, rfl, UbR.nil _ _ _ rfl rfl, (fun p hp => by rcases hp with hp | hp <;> cases hp), hb6⟩

set_option maxRecDepth 10000 in
set_option maxHeartbeats 1000000 in
theorem ubkind3 (w : World) : Calls Tryz.prog 152 #[.agg #[]] w fun e w' => e = .returned (.int .i64 3) ∧ Below w.heap.size w w' := by
  go_enter Tryz.func152, Tryz.ntmps152
  go_wp2
  go_ret
  exact ⟨rfl, (Below.refl _ _).alloc (Nat.le_refl _) _⟩
set_option maxRecDepth 10000 in
set_option maxHeartbeats 4000000 in
theorem ubTake_3 (c i : Int) (A : Option Addr) (n cap B : Nat) (b : List UInt8) (w : World) (h : Rd w B 1 A n cap (bv b)) (hB : B ≤ w.heap.size) (hn : n ≤ 1000000000) (hk : ubKd c i = 3) :
    Calls Tryz.prog 17 #[.agg #[.int .i64 c, .int .i64 i, .slice A n cap]] w (RetUT w (ubT c i b) (ubTE c i b)) := by
  obtain ⟨oE, hoE⟩ : ∃ oE, oE = shTE dopF b := ⟨_, rfl⟩
  obtain ⟨V5, hV5⟩ : ∃ V5 : UbV, V5 = { ub0 with k := 3, d := takeD dopF b } := ⟨_, rfl⟩
  have HE : Hid (oE = ubTE c i b) := Lib.hid (by rw [hoE]; simp [ubTE, hk])
  have HV : Hid (oE = 0 → V5 = ubTV c i b) := Lib.hid (fun h0 => by rw [hoE] at h0; rw [hV5]; simp [ubTV, hk, h0])
  obtain ⟨UT, hUT⟩ : ∃ UT, UT = ubT c i b := ⟨_, rfl⟩
  have H0 : Hid (oE = 0 → V5 = UT) := Lib.hid (fun he => by rw [HV.out he, hUT]; unfold ubT; rw [if_pos (HE.out.symm.trans he)])
  have H1 : Hid (oE ≠ 0 → UT = ub0) := Lib.hid (fun he => by rw [hUT]; unfold ubT; rw [if_neg (by rw [← HE.out]; exact he)])
  rw [← hUT, ← HE.out]
  have HL : Hid (V5.p.length = 32 ∧ V5.d.length = 8) := Lib.hid (by rw [hV5]; exact ⟨rfl, dopD_len b⟩)
  have Htk := Lib.hid (fun g w hx hr hB => ubtake3 A n cap B b i g w hr hB hn hx)
  rw [← hV5, ← hoE] at Htk
  have hP : ubPart c i = .iface 90 (.agg #[]) := by unfold ubPart; rw [hk]; rfl
  have hm1 : ∀ w : World, (method 59 90 (.agg #[]) "landfall/ubx.kind").run Tryz.prog w = .ok (152, .agg #[]) w := fun _ => by kernel_rfl
  have hm2 : ∀ w : World, (method 59 90 (.agg #[]) "landfall/ubx.take").run Tryz.prog w = .ok (154, .agg #[]) w := fun _ => by kernel_rfl
  clear hoE hV5 hk hn hUT HE HV
  obtain ⟨x0, x1, hs, hb⟩ := al2 w (.cells #[.int .i64 c, .int .i64 i, .slice A n cap] 40) (.cells #[.int .i64 0, .int .i64 0, .int .i64 0, .int .i64 0, .int .i64 0, .int .i64 0, .int .i64 0, .int .i64 0, .int .i64 0, .int .i64 0, .int .i64 0, .int .i64 0, .int .i64 0, .int .i64 0, .int .i64 0, .int .i64 0, .int .i64 0, .int .i64 0, .int .i64 0, .int .i64 0, .int .i64 0, .int .i64 0, .int .i64 0, .int .i64 0, .int .i64 0, .int .i64 0, .int .i64 0, .int .i64 0, .int .i64 0, .int .i64 0, .int .i64 0, .int .i64 0, .int .i64 0, .int .i64 0, .slice none 0 0, .int .i64 0, .int .i64 0, .int .i64 0, .int .i64 0, .int .i64 0, .int .i64 0, .int .i64 0, .int .i64 0, .bool false, .int .i64 0, .int .i64 0, .int .i64 0, .slice none 0 0] 35)
  have hres : UbB ((w.alloc (.cells #[.int .i64 c, .int .i64 i, .slice A n cap] 40)).alloc (.cells #[.int .i64 0, .int .i64 0, .int .i64 0, .int .i64 0, .int .i64 0, .int .i64 0, .int .i64 0, .int .i64 0, .int .i64 0, .int .i64 0, .int .i64 0, .int .i64 0, .int .i64 0, .int .i64 0, .int .i64 0, .int .i64 0, .int .i64 0, .int .i64 0, .int .i64 0, .int .i64 0, .int .i64 0, .int .i64 0, .int .i64 0, .int .i64 0, .int .i64 0, .int .i64 0, .int .i64 0, .int .i64 0, .int .i64 0, .int .i64 0, .int .i64 0, .int .i64 0, .int .i64 0, .int .i64 0, .slice none 0 0, .int .i64 0, .int .i64 0, .int .i64 0, .int .i64 0, .int .i64 0, .int .i64 0, .int .i64 0, .int .i64 0, .bool false, .int .i64 0, .int .i64 0, .int .i64 0, .slice none 0 0] 35)) (w.heap.size + 1) ub0 ua0 := x1
  have hr := h.up (hb.mono hB)
  clear x1 h
  go_enter Tryz.func17, Tryz.ntmps17
  go_wp2_with fail
  generalize ((w.alloc (.cells #[.int .i64 c, .int .i64 i, .slice A n cap] 40)).alloc (.cells #[.int .i64 0, .int .i64 0, .int .i64 0, .int .i64 0, .int .i64 0, .int .i64 0, .int .i64 0, .int .i64 0, .int .i64 0, .int .i64 0, .int .i64 0, .int .i64 0, .int .i64 0, .int .i64 0, .int .i64 0, .int .i64 0, .int .i64 0, .int .i64 0, .int .i64 0, .int .i64 0, .int .i64 0, .int .i64 0, .int .i64 0, .int .i64 0, .int .i64 0, .int .i64 0, .int .i64 0, .int .i64 0, .int .i64 0, .int .i64 0, .int .i64 0, .int .i64 0, .int .i64 0, .int .i64 0, .slice none 0 0, .int .i64 0, .int .i64 0, .int .i64 0, .int .i64 0, .int .i64 0, .int .i64 0, .int .i64 0, .int .i64 0, .bool false, .int .i64 0, .int .i64 0, .int .i64 0, .slice none 0 0] 35)) = w1 at *
  go_fit (ubnamed_any c i w1)
  rintro e w2 ⟨rfl, rfl⟩
  rw [hP]
  go_wp2_with fail
  go_fit (ubkind3 w1)
  rintro e w2 ⟨rfl, hb2⟩
  replace x0 := blk_old x0 hb2 (blk_lt x0)
  replace hres := hres.old hb2 (blk_lt hres)
  replace hr := hr.up (hb2.mono (Nat.le_trans hB hb.size))
  replace hb := bnx hb hb2
  have hg2 := blk_lt hres
  have y1 := heap_alloc_new w2 (.cells #[.int .i64 0, .int .i64 0, .int .i64 0, .int .i64 0, .int .i64 0, .int .i64 0, .int .i64 0, .int .i64 0, .int .i64 0, .int .i64 0, .int .i64 0, .int .i64 0, .int .i64 0, .int .i64 0, .int .i64 0, .int .i64 0, .int .i64 0, .int .i64 0, .int .i64 0, .int .i64 0, .int .i64 0, .int .i64 0, .int .i64 0, .int .i64 0, .int .i64 0, .int .i64 0, .int .i64 0, .int .i64 0, .int .i64 0, .int .i64 0, .int .i64 0, .int .i64 0, .int .i64 0, .int .i64 0, .slice none 0 0, .int .i64 0, .int .i64 0, .int .i64 0, .int .i64 0, .int .i64 0, .int .i64 0, .int .i64 0, .int .i64 0, .bool false, .int .i64 0, .int .i64 0, .int .i64 0, .slice none 0 0] 35)
  have hb3 := (Below.refl w2.heap.size w2).alloc (Nat.le_refl _) (.cells #[.int .i64 0, .int .i64 0, .int .i64 0, .int .i64 0, .int .i64 0, .int .i64 0, .int .i64 0, .int .i64 0, .int .i64 0, .int .i64 0, .int .i64 0, .int .i64 0, .int .i64 0, .int .i64 0, .int .i64 0, .int .i64 0, .int .i64 0, .int .i64 0, .int .i64 0, .int .i64 0, .int .i64 0, .int .i64 0, .int .i64 0, .int .i64 0, .int .i64 0, .int .i64 0, .int .i64 0, .int .i64 0, .int .i64 0, .int .i64 0, .int .i64 0, .int .i64 0, .int .i64 0, .int .i64 0, .slice none 0 0, .int .i64 0, .int .i64 0, .int .i64 0, .int .i64 0, .int .i64 0, .int .i64 0, .int .i64 0, .int .i64 0, .bool false, .int .i64 0, .int .i64 0, .int .i64 0, .slice none 0 0] 35)
  replace x0 := blk_old x0 hb3 (blk_lt x0)
  replace hres := hres.old hb3 hg2
  replace hr := hr.up (hb3.mono (Nat.le_trans hB hb.size))
  have hBg := Nat.le_trans hB hb.size
  replace hb := bnx hb hb3
  clear hb2 hb3 hP hs
  go_wp2_with (first | (with_reducible refine stop_loadT 35 ?_) | (with_reducible refine stop_storeT 35 ?_) | (with_reducible refine stop_loadG 35 ?_))
  generalize (w2.alloc (.cells #[.int .i64 0, .int .i64 0, .int .i64 0, .int .i64 0, .int .i64 0, .int .i64 0, .int .i64 0, .int .i64 0, .int .i64 0, .int .i64 0, .int .i64 0, .int .i64 0, .int .i64 0, .int .i64 0, .int .i64 0, .int .i64 0, .int .i64 0, .int .i64 0, .int .i64 0, .int .i64 0, .int .i64 0, .int .i64 0, .int .i64 0, .int .i64 0, .int .i64 0, .int .i64 0, .int .i64 0, .int .i64 0, .int .i64 0, .int .i64 0, .int .i64 0, .int .i64 0, .int .i64 0, .int .i64 0, .slice none 0 0, .int .i64 0, .int .i64 0, .int .i64 0, .int .i64 0, .int .i64 0, .int .i64 0, .int .i64 0, .int .i64 0, .bool false, .int .i64 0, .int .i64 0, .int .i64 0, .slice none 0 0] 35)) = w3 at *
  generalize w2.heap.size = g5 at *
  refine go_ (wpList_store_row rfl _ _ _ rfl g5 (ubL { ub0 with k := 3 } ua0).toArray rfl rfl _ _ y1 (ub_size _ _ rfl rfl) (ub_sizes (V := ub0) (a := ua0) rfl rfl rfl rfl) (ub_one _ _) ?_)
  have hm : UbB _ g5 { ub0 with k := 3 } ua0 := setRow_heap _ _ _ (ubL { ub0 with k := 3 } ua0).toArray _ _ y1
  have haw : Aw (fun k => k = g5) w3 (w3.setRow g5 (ubL { ub0 with k := 3 } ua0).toArray) := aw_setRow20 _ _
  replace x0 := haw.keep x0 (by omega)
  replace hres : UbB _ (w.heap.size + 1) ub0 ua0 := haw.keep hres (by omega)
  replace hr := hr.up (below_aw20 (Below.refl B w3) haw (fun k hk => by rw [hk]; exact hBg) (Nat.le_trans hB hb.size))
  replace hb := below_aw20 hb haw (fun k hk => by rw [hk]; omega) hb.size
  generalize w3.setRow g5 (ubL { ub0 with k := 3 } ua0).toArray = w4 at *
  clear haw y1
  have e1 := blk_cell (i := 1) (v := .int .i64 i) x0 rfl
  have e2 := blk_cell (i := 2) (v := .slice A n cap) x0 rfl
  go_wp2_with fail
  go_fit (Htk.out g5 w4 hm hr (Nat.le_trans hB hb.size))
  rintro e w5 ⟨a5, rfl, hm5, hr5, hf5, hb5⟩
  replace hres := hres.old hb5 hg2
  replace hb := hb.trans (hb5.mono (by omega))
  have hws := hb.size
  clear x0 e1 e2 hm hr hb5
  by_cases he : oE = 0
  · have he' : (oE : Int) = 0 := by omega
    obtain rfl := H0.out he
    go_wp2_with (first | (with_reducible refine stop_loadT 35 ?_) | (with_reducible refine stop_storeT 35 ?_) | (with_reducible refine stop_loadG 35 ?_))
    refine go_ (wpList_load_row rfl _ _ rfl g5 rfl _ _ _ _ hm5 Tryz.underlying35 rfl (ub_size V5 a5 HL.out.1 HL.out.2) ?_)
    go_wp2_with (first | (with_reducible refine stop_loadT 35 ?_) | (with_reducible refine stop_storeT 35 ?_) | (with_reducible refine stop_loadG 35 ?_))
    refine go_ (wpList_store_row rfl _ _ _ rfl (w.heap.size + 1) (ubL V5 a5).toArray rfl rfl _ _ hres (ub_size V5 a5 HL.out.1 HL.out.2) (ub_sizes rfl rfl HL.out.1 HL.out.2) (ub_one V5 a5) ?_)
    have hres2 := setRow_heap _ _ _ (ubL V5 a5).toArray _ _ hres
    have haw : Aw (fun k => k = w.heap.size + 1) w5 (w5.setRow (w.heap.size + 1) (ubL V5 a5).toArray) := aw_setRow20 _ _
    have hb6 := below_aw20 hb haw (fun k hk => by rw [hk]; omega) (by omega)
    have hr6 := ubr_aw hr5 haw (fun p hp => by have := hf5 p hp; omega)
    generalize w5.setRow (w.heap.size + 1) (ubL V5 a5).toArray = w6 at *
    go_wp2
    exact bodyPost_ret (results_cell2 rfl _ _ (w.heap.size + 1) _ _ _ _ rfl hres2 Tryz.underlying35 rfl (ub_size V5 a5 HL.out.1 HL.out.2)) rfl ⟨a5, by rw [he]; rfl, hr6, (fun p hp => by have := hf5 p hp; omega), hb6⟩
  · have he' : ¬ (oE : Int) = 0 := by omega
    obtain rfl := H1.out he
    go_wp2_with (first | (with_reducible refine stop_loadT 35 ?_) | (with_reducible refine stop_storeT 35 ?_) | (with_reducible refine stop_loadG 35 ?_))
    refine go_ (wpList_store_row rfl _ _ _ rfl (w.heap.size + 1) (ubL ub0 ua0).toArray rfl rfl _ _ hres (ub_size ub0 ua0 rfl rfl) (ub_sizes rfl rfl rfl rfl) (ub_one ub0 ua0) ?_)
    have hres2 := setRow_heap _ _ _ (ubL ub0 ua0).toArray _ _ hres
    have haw : Aw (fun k => k = w.heap.size + 1) w5 (w5.setRow (w.heap.size + 1) (ubL ub0 ua0).toArray) := aw_setRow20 _ _
    have hb6 := below_aw20 hb haw (fun k hk => by rw [hk]; omega) (by omega)
    generalize w5.setRow (w.heap.size + 1) (ubL ub0 ua0).toArray = w6 at *
    go_wp2
    exact bodyPost_ret (results_cell2 rfl _ _ (w.heap.size + 1) _ _ _ _ rfl hres2 Tryz.underlying35 rfl (ub_size ub0 ua0 rfl rfl)) rfl ⟨ua0, rfl, UbR.nil _ _ _ rfl rfl, (fun p hp => by rcases hp with hp | hp <;> cases hp), hb6⟩

set_option maxRecDepth 10000 in
set_option maxHeartbeats 1000000 in
theorem ubkind4 (w : World) : Calls Tryz.prog 159 #[.agg #[]] w fun e w' => e = .returned (.int .i64 4) ∧ Below w.heap.size w w' := by
  go_enter Tryz.func159, Tryz.ntmps159
  go_wp2
  go_ret
  exact ⟨rfl, (Below.refl _ _).alloc (Nat.le_refl _) _⟩
set_option maxRecDepth 10000 in
set_option maxHeartbeats 4000000 in
theorem ubTake_4 (c i : Int) (A : Option Addr) (n cap B : Nat) (b : List UInt8) (w : World) (h : Rd w B 1 A n cap (bv b)) (hB : B ≤ w.heap.size) (hn : n ≤ 1000000000) (hk : ubKd c i = 4) :
    Calls Tryz.prog 17 #[.agg #[.int .i64 c, .int .i64 i, .slice A n cap]] w (RetUT w (ubT c i b) (ubTE c i b)) := by
  obtain ⟨oE, hoE⟩ : ∃ oE, oE = shTE ackF b := ⟨_, rfl⟩
  obtain ⟨V5, hV5⟩ : ∃ V5 : UbV, V5 = { ub0 with k := 4, y := (if shTE ackF b = 0 then decide (i = 1) else false), a1 := (takeD ackF b).getD 0 0, a2 := (takeD ackF b).getD 1 0 } := ⟨_, rfl⟩
  have HE : Hid (oE = ubTE c i b) := Lib.hid (by rw [hoE]; simp [ubTE, hk])
  have HV : Hid (oE = 0 → V5 = ubTV c i b) := Lib.hid (fun h0 => by rw [hoE] at h0; rw [hV5]; simp [ubTV, hk, h0])
  obtain ⟨UT, hUT⟩ : ∃ UT, UT = ubT c i b := ⟨_, rfl⟩
  have H0 : Hid (oE = 0 → V5 = UT) := Lib.hid (fun he => by rw [HV.out he, hUT]; unfold ubT; rw [if_pos (HE.out.symm.trans he)])
  have H1 : Hid (oE ≠ 0 → UT = ub0) := Lib.hid (fun he => by rw [hUT]; unfold ubT; rw [if_neg (by rw [← HE.out]; exact he)])
  rw [← hUT, ← HE.out]
  have HL : Hid (V5.p.length = 32 ∧ V5.d.length = 8) := Lib.hid (by rw [hV5]; exact ⟨rfl, rfl⟩)
  have Htk := Lib.hid (fun g w hx hr hB => ubtake4 A n cap B b i g w hr hB hn hx)
  rw [← hV5, ← hoE] at Htk
  have hP : ubPart c i = .iface 91 (.agg #[]) := by unfold ubPart; rw [hk]; rfl
  have hm1 : ∀ w : World, (method 59 91 (.agg #[]) "landfall/ubx.kind").run Tryz.prog w = .ok (159, .agg #[]) w := fun _ => by kernel_rfl
  have hm2 : ∀ w : World, (method 59 91 (.agg #[]) "landfall/ubx.take").run Tryz.prog w = .ok (161, .agg #[]) w := fun _ => by kernel_rfl
  clear hoE hV5 hk hn hUT HE HV
  obtain ⟨x0, x1, hs, hb⟩ := al2 w (.cells #[.int .i64 c, .int .i64 i, .slice A n cap] 40) (.cells #[.int .i64 0, .int .i64 0, .int .i64 0, .int .i64 0, .int .i64 0, .int .i64 0, .int .i64 0, .int .i64 0, .int .i64 0, .int .i64 0, .int .i64 0, .int .i64 0, .int .i64 0, .int .i64 0, .int .i64 0, .int .i64 0, .int .i64 0, .int .i64 0, .int .i64 0, .int .i64 0, .int .i64 0, .int .i64 0, .int .i64 0, .int .i64 0, .int .i64 0, .int .i64 0, .int .i64 0, .int .i64 0, .int .i64 0, .int .i64 0, .int .i64 0, .int .i64 0, .int .i64 0, .int .i64 0, .slice none 0 0, .int .i64 0, .int .i64 0, .int .i64 0, .int .i64 0, .int .i64 0, .int .i64 0, .int .i64 0, .int .i64 0, .bool false, .int .i64 0, .int .i64 0, .int .i64 0, .slice none 0 0] 35)
  have hres : UbB ((w.alloc (.cells #[.int .i64 c, .int .i64 i, .slice A n cap] 40)).alloc (.cells #[.int .i64 0, .int .i64 0, .int .i64 0, .int .i64 0, .int .i64 0, .int .i64 0, .int .i64 0, .int .i64 0, .int .i64 0, .int .i64 0, .int .i64 0, .int .i64 0, .int .i64 0, .int .i64 0, .int .i64 0, .int .i64 0, .int .i64 0, .int .i64 0, .int .i64 0, .int .i64 0, .int .i64 0, .int .i64 0, .int .i64 0, .int .i64 0, .int .i64 0, .int .i64 0, .int .i64 0, .int .i64 0, .int .i64 0, .int .i64 0, .int .i64 0, .int .i64 0, .int .i64 0, .int .i64 0, .slice none 0 0, .int .i64 0, .int .i64 0, .int .i64 0, .int .i64 0, .int .i64 0, .int .i64 0, .int .i64 0, .int .i64 0, .bool false, .int .i64 0, .int .i64 0, .int .i64 0, .slice none 0 0] 35)) (w.heap.size + 1) ub0 ua0 := x1
  have hr := h.up (hb.mono hB)
  clear x1 h
  go_enter Tryz.func17, Tryz.ntmps17
  go_wp2_with fail
  generalize ((w.alloc (.cells #[.int .i64 c, .int .i64 i, .slice A n cap] 40)).alloc (.cells #[.int .i64 0, .int .i64 0, .int .i64 0, .int .i64 0, .int .i64 0, .int .i64 0, .int .i64 0, .int .i64 0, .int .i64 0, .int .i64 0, .int .i64 0, .int .i64 0, .int .i64 0, .int .i64 0, .int .i64 0, .int .i64 0, .int .i64 0, .int .i64 0, .int .i64 0, .int .i64 0, .int .i64 0, .int .i64 0, .int .i64 0, .int .i64 0, .int .i64 0, .int .i64 0, .int .i64 0, .int .i64 0, .int .i64 0, .int .i64 0, .int .i64 0, .int .i64 0, .int .i64 0, .int .i64 0, .slice none 0 0, .int .i64 0, .int .i64 0, .int .i64 0, .int .i64 0, .int .i64 0, .int .i64 0, .int .i64 0, .int .i64 0, .bool false, .int .i64 0, .int .i64 0, .int .i64 0, .slice none 0 0] 35)) = w1 at *
  go_fit (ubnamed_any c i w1)
  rintro e w2 ⟨rfl, rfl⟩
  rw [hP]
  go_wp2_with fail
  go_fit (ubkind4 w1)
  rintro e w2 ⟨rfl, hb2⟩
  replace x0 := blk_old x0 hb2 (blk_lt x0)
  replace hres := hres.old hb2 (blk_lt hres)
  replace hr := hr.up (hb2.mono (Nat.le_trans hB hb.size))
  replace hb := bnx hb hb2
  have hg2 := blk_lt hres
  have y1 := heap_alloc_new w2 (.cells #[.int .i64 0, .int .i64 0, .int .i64 0, .int .i64 0, .int .i64 0, .int .i64 0, .int .i64 0, .int .i64 0, .int .i64 0, .int .i64 0, .int .i64 0, .int .i64 0, .int .i64 0, .int .i64 0, .int .i64 0, .int .i64 0, .int .i64 0, .int .i64 0, .int .i64 0, .int .i64 0, .int .i64 0, .int .i64 0, .int .i64 0, .int .i64 0, .int .i64 0, .int .i64 0, .int .i64 0, .int .i64 0, .int .i64 0, .int .i64 0, .int .i64 0, .int .i64 0, .int .i64 0, .int .i64 0, .slice none 0 0, .int .i64 0, .int .i64 0, .int .i64 0, .int .i64 0, .int .i64 0, .int .i64 0, .int .i64 0, .int .i64 0, .bool false, .int .i64 0, .int .i64 0, .int .i64 0, .slice none 0 0] 35)
  have hb3 := (Below.refl w2.heap.size w2).alloc (Nat.le_refl _) (.cells #[.int .i64 0, .int .i64 0, .int .i64 0, .int .i64 0, .int .i64 0, .int .i64 0, .int .i64 0, .int .i64 0, .int .i64 0, .int .i64 0, .int .i64 0, .int .i64 0, .int .i64 0, .int .i64 0, .int .i64 0, .int .i64 0, .int .i64 0, .int .i64 0, .int .i64 0, .int .i64 0, .int .i64 0, .int .i64 0, .int .i64 0, .int .i64 0, .int .i64 0, .int .i64 0, .int .i64 0, .int .i64 0, .int .i64 0, .int .i64 0, .int .i64 0, .int .i64 0, .int .i64 0, .int .i64 0, .slice none 0 0, .int .i64 0, .int .i64 0, .int .i64 0, .int .i64 0, .int .i64 0, .int .i64 0, .int .i64 0, .int .i64 0, .bool false, .int .i64 0, .int .i64 0, .int .i64 0, .slice none 0 0] 35)
  replace x0 := blk_old x0 hb3 (blk_lt x0)
  replace hres := hres.old hb3 hg2
  replace hr := hr.up (hb3.mono (Nat.le_trans hB hb.size))
  have hBg := Nat.le_trans hB hb.size
  replace hb := bnx hb hb3
  clear hb2 hb3 hP hs
  go_wp2_with (first | (with_reducible refine stop_loadT 35 ?_) | (with_reducible refine stop_storeT 35 ?_) | (with_reducible refine stop_loadG 35 ?_))
  generalize (w2.alloc (.cells #[.int .i64 0, .int .i64 0, .int .i64 0, .int .i64 0, .int .i64 0, .int .i64 0, .int .i64 0, .int .i64 0, .int .i64 0, .int .i64 0, .int .i64 0, .int .i64 0, .int .i64 0, .int .i64 0, .int .i64 0, .int .i64 0, .int .i64 0, .int .i64 0, .int .i64 0, .int .i64 0, .int .i64 0, .int .i64 0, .int .i64 0, .int .i64 0, .int .i64 0, .int .i64 0, .int .i64 0, .int .i64 0, .int .i64 0, .int .i64 0, .int .i64 0, .int .i64 0, .int .i64 0, .int .i64 0, .slice none 0 0, .int .i64 0, .int .i64 0, .int .i64 0, .int .i64 0, .int .i64 0, .int .i64 0, .int .i64 0, .int .i64 0, .bool false, .int .i64 0, .int .i64 0, .int .i64 0, .slice none 0 0] 35)) = w3 at *
  generalize w2.heap.size = g5 at *
  refine go_ (wpList_store_row rfl _ _ _ rfl g5 (ubL { ub0 with k := 4 } ua0).toArray rfl rfl _ _ y1 (ub_size _ _ rfl rfl) (ub_sizes (V := ub0) (a := ua0) rfl rfl rfl rfl) (ub_one _ _) ?_)
  have hm : UbB _ g5 { ub0 with k := 4 } ua0 := setRow_heap _ _ _ (ubL { ub0 with k := 4 } ua0).toArray _ _ y1
  have haw : Aw (fun k => k = g5) w3 (w3.setRow g5 (ubL { ub0 with k := 4 } ua0).toArray) := aw_setRow20 _ _
  replace x0 := haw.keep x0 (by omega)
  replace hres : UbB _ (w.heap.size + 1) ub0 ua0 := haw.keep hres (by omega)
  replace hr := hr.up (below_aw20 (Below.refl B w3) haw (fun k hk => by rw [hk]; exact hBg) (Nat.le_trans hB hb.size))
  replace hb := below_aw20 hb haw (fun k hk => by rw [hk]; omega) hb.size
  generalize w3.setRow g5 (ubL { ub0 with k := 4 } ua0).toArray = w4 at *
  clear haw y1
  have e1 := blk_cell (i := 1) (v := .int .i64 i) x0 rfl
  have e2 := blk_cell (i := 2) (v := .slice A n cap) x0 rfl
  go_wp2_with fail
  go_fit (Htk.out g5 w4 hm hr (Nat.le_trans hB hb.size))
  rintro e w5 ⟨a5, rfl, hm5, hr5, hf5, hb5⟩
  replace hres := hres.old hb5 hg2
  replace hb := hb.trans (hb5.mono (by omega))
  have hws := hb.size
  clear x0 e1 e2 hm hr hb5
  by_cases he : oE = 0
  · have he' : (oE : Int) = 0 := by omega
    obtain rfl := H0.out he
    go_wp2_with (first | (with_reducible refine stop_loadT 35 ?_) | (with_reducible refine stop_storeT 35 ?_) | (with_reducible refine stop_loadG 35 ?_))
    refine go_ (wpList_load_row rfl _ _ rfl g5 rfl _ _ _ _ hm5 Tryz.underlying35 rfl (ub_size V5 a5 HL.out.1 HL.out.2) ?_)
    go_wp2_with (first | (with_reducible refine stop_loadT 35 ?_) | (with_reducible refine stop_storeT 35 ?_) | (with_reducible refine stop_loadG 35 ?_))
    refine go_ (wpList_store_row rfl _ _ _ rfl (w.heap.size + 1) (ubL V5 a5).toArray rfl rfl _ _ hres (ub_size V5 a5 HL.out.1 HL.out.2) (ub_sizes rfl rfl HL.out.1 HL.out.2) (ub_one V5 a5) ?_)
    have hres2 := setRow_heap _ _ _ (ubL V5 a5).toArray _ _ hres
    have haw : Aw (fun k => k = w.heap.size + 1) w5 (w5.setRow (w.heap.size + 1) (ubL V5 a5).toArray) := aw_setRow20 _ _
    have hb6 := below_aw20 hb haw (fun k hk => by rw [hk]; omega) (by omega)
    have hr6 := ubr_aw hr5 haw (fun p hp => by have := hf5 p hp; omega)
    generalize w5.setRow (w.heap.size + 1) (ubL V5 a5).toArray = w6 at *
    go_wp2
    exact bodyPost_ret (results_cell2 rfl _ _ (w.heap.size + 1) _ _ _ _ rfl hres2 Tryz.underlying35 rfl (ub_size V5 a5 HL.out.1 HL.out.2)) rfl ⟨a5, by rw [he]; rfl, hr6, (fun p hp => by have := hf5 p hp; omega), hb6⟩
  · have he' : ¬ (oE : Int) = 0 := by omega
    obtain rfl := H1.out he
    go_wp2_with (first | (with_reducible refine stop_loadT 35 ?_) | (with_reducible refine stop_storeT 35 ?_) | (with_reducible refine stop_loadG 35 ?_))
    refine go_ (wpList_store_row rfl _ _ _ rfl (w.heap.size + 1) (ubL ub0 ua0).toArray rfl rfl _ _ hres (ub_size ub0 ua0 rfl rfl) (ub_sizes rfl rfl rfl rfl) (ub_one ub0 ua0) ?_)
    have hres2 := setRow_heap _ _ _ (ubL ub0 ua0).toArray _ _ hres
    have haw : Aw (fun k => k = w.heap.size + 1) w5 (w5.setRow (w.heap.size + 1) (ubL ub0 ua0).toArray) := aw_setRow20 _ _
    have hb6 := below_aw20 hb haw (fun k hk => by rw [hk]; omega) (by omega)
    generalize w5.setRow (w.heap.size + 1) (ubL ub0 ua0).toArray = w6 at *
    go_wp2
    exact bodyPost_ret (results_cell2 rfl _ _ (w.heap.size + 1) _ _ _ _ rfl hres2 Tryz.underlying35 rfl (ub_size ub0 ua0 rfl rfl)) rfl ⟨ua0, rfl, UbR.nil _ _ _ rfl rfl, (fun p hp => by rcases hp with hp | hp <;> cases hp), hb6⟩

set_option maxRecDepth 10000 in
set_option maxHeartbeats 1000000 in
theorem ubkind5 (w : World) : Calls Tryz.prog 166 #[.agg #[]] w fun e w' => e = .returned (.int .i64 5) ∧ Below w.heap.size w w' := by
  go_enter Tryz.func166, Tryz.ntmps166
  go_wp2
  go_ret
  exact ⟨rfl, (Below.refl _ _).alloc (Nat.le_refl _) _⟩
set_option maxRecDepth 10000 in
set_option maxHeartbeats 4000000 in
theorem ubTake_5 (c i : Int) (A : Option Addr) (n cap B : Nat) (b : List UInt8) (w : World) (h : Rd w B 1 A n cap (bv b)) (hB : B ≤ w.heap.size) (hn : n ≤ 1000000000) (hk : ubKd c i = 5) :
    Calls Tryz.prog 17 #[.agg #[.int .i64 c, .int .i64 i, .slice A n cap]] w (RetUT w (ubT c i b) (ubTE c i b)) := by
  obtain ⟨oE, hoE⟩ : ∃ oE, oE = valTE b := ⟨_, rfl⟩
  obtain ⟨V5, hV5⟩ : ∃ V5 : UbV, V5 = { ub0 with k := 5, la := valTt b, q := valTl b } := ⟨_, rfl⟩
  have HE : Hid (oE = ubTE c i b) := Lib.hid (by rw [hoE]; simp [ubTE, hk])
  have HV : Hid (oE = 0 → V5 = ubTV c i b) := Lib.hid (fun h0 => by rw [hoE] at h0; rw [hV5]; simp [ubTV, hk, h0])
  obtain ⟨UT, hUT⟩ : ∃ UT, UT = ubT c i b := ⟨_, rfl⟩
  have H0 : Hid (oE = 0 → V5 = UT) := Lib.hid (fun he => by rw [HV.out he, hUT]; unfold ubT; rw [if_pos (HE.out.symm.trans he)])
  have H1 : Hid (oE ≠ 0 → UT = ub0) := Lib.hid (fun he => by rw [hUT]; unfold ubT; rw [if_neg (by rw [← HE.out]; exact he)])
  rw [← hUT, ← HE.out]
  have HL : Hid (V5.p.length = 32 ∧ V5.d.length = 8) := Lib.hid (by rw [hV5]; exact ⟨rfl, rfl⟩)
  have Htk := Lib.hid (fun g w hx hr hB => ubtake5 A n cap B b i g w hr hB hn hx)
  rw [← hV5, ← hoE] at Htk
  have hP : ubPart c i = .iface 92 (.agg #[]) := by unfold ubPart; rw [hk]; rfl
  have hm1 : ∀ w : World, (method 59 92 (.agg #[]) "landfall/ubx.kind").run Tryz.prog w = .ok (166, .agg #[]) w := fun _ => by kernel_rfl
  have hm2 : ∀ w : World, (method 59 92 (.agg #[]) "landfall/ubx.take").run Tryz.prog w = .ok (168, .agg #[]) w := fun _ => by kernel_rfl
  clear hoE hV5 hk hn hUT HE HV
  obtain ⟨x0, x1, hs, hb⟩ := al2 w (.cells #[.int .i64 c, .int .i64 i, .slice A n cap] 40) (.cells #[.int .i64 0, .int .i64 0, .int .i64 0, .int .i64 0, .int .i64 0, .int .i64 0, .int .i64 0, .int .i64 0, .int .i64 0, .int .i64 0, .int .i64 0, .int .i64 0, .int .i64 0, .int .i64 0, .int .i64 0, .int .i64 0, .int .i64 0, .int .i64 0, .int .i64 0, .int .i64 0, .int .i64 0, .int .i64 0, .int .i64 0, .int .i64 0, .int .i64 0, .int .i64 0, .int .i64 0, .int .i64 0, .int .i64 0, .int .i64 0, .int .i64 0, .int .i64 0, .int .i64 0, .int .i64 0, .slice none 0 0, .int .i64 0, .int .i64 0, .int .i64 0, .int .i64 0, .int .i64 0, .int .i64 0, .int .i64 0, .int .i64 0, .bool false, .int .i64 0, .int .i64 0, .int .i64 0, .slice none 0 0] 35)
  have hres : UbB ((w.alloc (.cells #[.int .i64 c, .int .i64 i, .slice A n cap] 40)).alloc (.cells #[.int .i64 0, .int .i64 0, .int .i64 0, .int .i64 0, .int .i64 0, .int .i64 0, .int .i64 0, .int .i64 0, .int .i64 0, .int .i64 0, .int .i64 0, .int .i64 0, .int .i64 0, .int .i64 0, .int .i64 0, .int .i64 0, .int .i64 0, .int .i64 0, .int .i64 0, .int .i64 0, .int .i64 0, .int .i64 0, .int .i64 0, .int .i64 0, .int .i64 0, .int .i64 0, .int .i64 0, .int .i64 0, .int .i64 0, .int .i64 0, .int .i64 0, .int .i64 0, .int .i64 0, .int .i64 0, .slice none 0 0, .int .i64 0, .int .i64 0, .int .i64 0, .int .i64 0, .int .i64 0, .int .i64 0, .int .i64 0, .int .i64 0, .bool false, .int .i64 0, .int .i64 0, .int .i64 0, .slice none 0 0] 35)) (w.heap.size + 1) ub0 ua0 := x1
  have hr := h.up (hb.mono hB)
  clear x1 h
  go_enter Tryz.func17, Tryz.ntmps17
  go_wp2_with fail
  generalize ((w.alloc (.cells #[.int .i64 c, .int .i64 i, .slice A n cap] 40)).alloc (.cells #[.int .i64 0, .int .i64 0, .int .i64 0, .int .i64 0, .int .i64 0, .int .i64 0, .int .i64 0, .int .i64 0, .int .i64 0, .int .i64 0, .int .i64 0, .int .i64 0, .int .i64 0, .int .i64 0, .int .i64 0, .int .i64 0, .int .i64 0, .int .i64 0, .int .i64 0, .int .i64 0, .int .i64 0, .int .i64 0, .int .i64 0, .int .i64 0, .int .i64 0, .int .i64 0, .int .i64 0, .int .i64 0, .int .i64 0, .int .i64 0, .int .i64 0, .int .i64 0, .int .i64 0, .int .i64 0, .slice none 0 0, .int .i64 0, .int .i64 0, .int .i64 0, .int .i64 0, .int .i64 0, .int .i64 0, .int .i64 0, .int .i64 0, .bool false, .int .i64 0, .int .i64 0, .int .i64 0, .slice none 0 0] 35)) = w1 at *
  go_fit (ubnamed_any c i w1)
  rintro e w2 ⟨rfl, rfl⟩
  rw [hP]
  go_wp2_with fail
  go_fit (ubkind5 w1)
  rintro e w2 ⟨rfl, hb2⟩
  replace x0 := blk_old x0 hb2 (blk_lt x0)
  replace hres := hres.old hb2 (blk_lt hres)
  replace hr := hr.up (hb2.mono (Nat.le_trans hB hb.size))
  replace hb := bnx hb hb2
  have hg2 := blk_lt hres
  have y1 := heap_alloc_new w2 (.cells #[.int .i64 0, .int .i64 0, .int .i64 0, .int .i64 0, .int .i64 0, .int .i64 0, .int .i64 0, .int .i64 0, .int .i64 0, .int .i64 0, .int .i64 0, .int .i64 0, .int .i64 0, .int .i64 0, .int .i64 0, .int .i64 0, .int .i64 0, .int .i64 0, .int .i64 0, .int .i64 0, .int .i64 0, .int .i64 0, .int .i64 0, .int .i64 0, .int .i64 0, .int .i64 0, .int .i64 0, .int .i64 0, .int .i64 0, .int .i64 0, .int .i64 0, .int .i64 0, .int .i64 0, .int .i64 0, .slice none 0 0, .int .i64 0, .int .i64 0, .int .i64 0, .int .i64 0, .int .i64 0, .int .i64 0, .int .i64 0, .int .i64 0, .bool false, .int .i64 0, .int .i64 0, .int .i64 0, .slice none 0 0] 35)
  have hb3 := (Below.refl w2.heap.size w2).alloc (Nat.le_refl _) (.cells #[.int .i64 0, .int .i64 0, .int .i64 0, .int .i64 0, .int .i64 0, .int .i64 0, .int .i64 0, .int .i64 0, .int .i64 0, .int .i64 0, .int .i64 0, .int .i64 0, .int .i64 0, .int .i64 0, .int .i64 0, .int .i64 0, .int .i64 0, .int .i64 0, .int .i64 0, .int .i64 0, .int .i64 0, .int .i64 0, .int .i64 0, .int .i64 0, .int .i64 0, .int .i64 0, .int .i64 0, .int .i64 0, .int .i64 0, .int .i64 0, .int .i64 0, .int .i64 0, .int .i64 0, .int .i64 0, .slice none 0 0, .int .i64 0, .int .i64 0, .int .i64 0, .int .i64 0, .int .i64 0, .int .i64 0, .int .i64 0, .int .i64 0, .bool false, .int .i64 0, .int .i64 0, .int .i64 0, .slice none 0 0] 35)
  replace x0 := blk_old x0 hb3 (blk_lt x0)
  replace hres := hres.old hb3 hg2
  replace hr := hr.up (hb3.mono (Nat.le_trans hB hb.size))
  have hBg := Nat.le_trans hB hb.size
  replace hb := bnx hb hb3
  clear hb2 hb3 hP hs
  go_wp2_with (first | (with_reducible refine stop_loadT 35 ?_) | (with_reducible refine stop_storeT 35 ?_) | (with_reducible refine stop_loadG 35 ?_))
  generalize (w2.alloc (.cells #[.int .i64 0, .int .i64 0, .int .i64 0, .int .i64 0, .int .i64 0, .int .i64 0, .int .i64 0, .int .i64 0, .int .i64 0, .int .i64 0, .int .i64 0, .int .i64 0, .int .i64 0, .int .i64 0, .int .i64 0, .int .i64 0, .int .i64 0, .int .i64 0, .int .i64 0, .int .i64 0, .int .i64 0, .int .i64 0, .int .i64 0, .int .i64 0, .int .i64 0, .int .i64 0, .int .i64 0, .int .i64 0, .int .i64 0, .int .i64 0, .int .i64 0, .int .i64 0, .int .i64 0, .int .i64 0, .slice none 0 0, .int .i64 0, .int .i64 0, .int .i64 0, .int .i64 0, .int .i64 0, .int .i64 0, .int .i64 0, .int .i64 0, .bool false, .int .i64 0, .int .i64 0, .int .i64 0, .slice none 0 0] 35)) = w3 at *
  generalize w2.heap.size = g5 at *
  refine go_ (wpList_store_row rfl _ _ _ rfl g5 (ubL { ub0 with k := 5 } ua0).toArray rfl rfl _ _ y1 (ub_size _ _ rfl rfl) (ub_sizes (V := ub0) (a := ua0) rfl rfl rfl rfl) (ub_one _ _) ?_)
  have hm : UbB _ g5 { ub0 with k := 5 } ua0 := setRow_heap _ _ _ (ubL { ub0 with k := 5 } ua0).toArray _ _ y1
  have haw : Aw (fun k => k = g5) w3 (w3.setRow g5 (ubL { ub0 with k := 5 } ua0).toArray) := aw_setRow20 _ _
  replace x0 := haw.keep x0 (by omega)
  replace hres : UbB _ (w.heap.size + 1) ub0 ua0 := haw.keep hres (by omega)
  replace hr := hr.up (below_aw20 (Below.refl B w3) haw (fun k hk => by rw [hk]; exact hBg) (Nat.le_trans hB hb.size))
  replace hb := below_aw20 hb haw (fun k hk => by rw [hk]; omega) hb.size
  generalize w3.setRow g5 (ubL { ub0 with k := 5 } ua0).toArray = w4 at *
  clear haw y1
  have e1 := blk_cell (i := 1) (v := .int .i64 i) x0 rfl
  have e2 := blk_cell (i := 2) (v := .slice A n cap) x0 rfl
  go_wp2_with fail
  go_fit (Htk.out g5 w4 hm hr (Nat.le_trans hB hb.size))
  rintro e w5 ⟨a5, rfl, hm5, hr5, hf5, hb5⟩
  replace hres := hres.old hb5 hg2
  replace hb := hb.trans (hb5.mono (by omega))
  have hws := hb.size
  clear x0 e1 e2 hm hr hb5
  by_cases he : oE = 0
  · have he' : (oE : Int) = 0 := by omega
    obtain rfl := H0.out he
    go_wp2_with (first | (with_reducible refine stop_loadT 35 ?_) | (with_reducible refine stop_storeT 35 ?_) | (with_reducible refine stop_loadG 35 ?_))
    refine go_ (wpList_load_row rfl _ _ rfl g5 rfl _ _ _ _ hm5 Tryz.underlying35 rfl (ub_size V5 a5 HL.out.1 HL.out.2) ?_)
    go_wp2_with (first | (with_reducible refine stop_loadT 35 ?_) | (with_reducible refine stop_storeT 35 ?_) | (with_reducible refine stop_loadG 35 ?_))
    refine go_ (wpList_store_row rfl _ _ _ rfl (w.heap.size + 1) (ubL V5 a5).toArray rfl rfl _ _ hres (ub_size V5 a5 HL.out.1 HL.out.2) (ub_sizes rfl rfl HL.out.1 HL.out.2) (ub_one V5 a5) ?_)
    have hres2 := setRow_heap _ _ _ (ubL V5 a5).toArray _ _ hres
    have haw : Aw (fun k => k = w.heap.size + 1) w5 (w5.setRow (w.heap.size + 1) (ubL V5 a5).toArray) := aw_setRow20 _ _
    have hb6 := below_aw20 hb haw (fun k hk => by rw [hk]; omega) (by omega)
    have hr6 := ubr_aw hr5 haw (fun p hp => by have := hf5 p hp; omega)
    generalize w5.setRow (w.heap.size + 1) (ubL V5 a5).toArray = w6 at *
    go_wp2
    exact bodyPost_ret (results_cell2 rfl _ _ (w.heap.size + 1) _ _ _ _ rfl hres2 Tryz.underlying35 rfl (ub_size V5 a5 HL.out.1 HL.out.2)) rfl ⟨a5, by rw [he]; rfl, hr6, (fun p hp => by have := hf5 p hp; omega), hb6⟩
  · have he' : ¬ (oE : Int) = 0 := by omega
    obtain rfl := H1.out he
    go_wp2_with (first | (with_reducible refine stop_loadT 35 ?_) | (with_reducible refine stop_storeT 35 ?_) | (with_reducible refine stop_loadG 35 ?_))
    refine go_ (wpList_store_row rfl _ _ _ rfl (w.heap.size + 1) (ubL ub0 ua0).toArray rfl rfl _ _ hres (ub_size ub0 ua0 rfl rfl) (ub_sizes rfl rfl rfl rfl) (ub_one ub0 ua0) ?_)
    have hres2 := setRow_heap _ _ _ (ubL ub0 ua0).toArray _ _ hres
    have haw : Aw (fun k => k = w.heap.size + 1) w5 (w5.setRow (w.heap.size + 1) (ubL ub0 ua0).toArray) := aw_setRow20 _ _
    have hb6 := below_aw20 hb haw (fun k hk => by rw [hk]; omega) (by omega)
    generalize w5.setRow (w.heap.size + 1) (ubL ub0 ua0).toArray = w6 at *
    go_wp2
    exact bodyPost_ret (results_cell2 rfl _ _ (w.heap.size + 1) _ _ _ _ rfl hres2 Tryz.underlying35 rfl (ub_size ub0 ua0 rfl rfl)) rfl ⟨ua0, rfl, UbR.nil _ _ _ rfl rfl, (fun p hp => by rcases hp with hp | hp <;> cases hp), hb6⟩

set_option maxRecDepth 10000 in
set_option maxHeartbeats 4000000 in
theorem ubTake_0 (c i : Int) (A : Option Addr) (n cap : Nat) (b : List UInt8) (w : World) (hk : ubKd c i = 0) :
    Calls Tryz.prog 17 #[.agg #[.int .i64 c, .int .i64 i, .slice A n cap]] w (RetUT w (ubT c i b) (ubTE c i b)) := by
  have hE : ubTE c i b = 6 := by unfold ubTE; rw [hk]; rfl
  have hT : ubT c i b = ub0 := by unfold ubT; rw [if_neg (by rw [hE]; omega)]
  rw [hE, hT]
  have hP : ubPart c i = .nilIface := by unfold ubPart; rw [hk]; rfl
  obtain ⟨x0, x1, hs, hb⟩ := al2 w (.cells #[.int .i64 c, .int .i64 i, .slice A n cap] 40) (.cells #[.int .i64 0, .int .i64 0, .int .i64 0, .int .i64 0, .int .i64 0, .int .i64 0, .int .i64 0, .int .i64 0, .int .i64 0, .int .i64 0, .int .i64 0, .int .i64 0, .int .i64 0, .int .i64 0, .int .i64 0, .int .i64 0, .int .i64 0, .int .i64 0, .int .i64 0, .int .i64 0, .int .i64 0, .int .i64 0, .int .i64 0, .int .i64 0, .int .i64 0, .int .i64 0, .int .i64 0, .int .i64 0, .int .i64 0, .int .i64 0, .int .i64 0, .int .i64 0, .int .i64 0, .int .i64 0, .slice none 0 0, .int .i64 0, .int .i64 0, .int .i64 0, .int .i64 0, .int .i64 0, .int .i64 0, .int .i64 0, .int .i64 0, .bool false, .int .i64 0, .int .i64 0, .int .i64 0, .slice none 0 0] 35)
  have hres : UbB ((w.alloc (.cells #[.int .i64 c, .int .i64 i, .slice A n cap] 40)).alloc (.cells #[.int .i64 0, .int .i64 0, .int .i64 0, .int .i64 0, .int .i64 0, .int .i64 0, .int .i64 0, .int .i64 0, .int .i64 0, .int .i64 0, .int .i64 0, .int .i64 0, .int .i64 0, .int .i64 0, .int .i64 0, .int .i64 0, .int .i64 0, .int .i64 0, .int .i64 0, .int .i64 0, .int .i64 0, .int .i64 0, .int .i64 0, .int .i64 0, .int .i64 0, .int .i64 0, .int .i64 0, .int .i64 0, .int .i64 0, .int .i64 0, .int .i64 0, .int .i64 0, .int .i64 0, .int .i64 0, .slice none 0 0, .int .i64 0, .int .i64 0, .int .i64 0, .int .i64 0, .int .i64 0, .int .i64 0, .int .i64 0, .int .i64 0, .bool false, .int .i64 0, .int .i64 0, .int .i64 0, .slice none 0 0] 35)) (w.heap.size + 1) ub0 ua0 := x1
  clear x1 hE hT hk
  go_enter Tryz.func17, Tryz.ntmps17
  go_wp2_with fail
  generalize ((w.alloc (.cells #[.int .i64 c, .int .i64 i, .slice A n cap] 40)).alloc (.cells #[.int .i64 0, .int .i64 0, .int .i64 0, .int .i64 0, .int .i64 0, .int .i64 0, .int .i64 0, .int .i64 0, .int .i64 0, .int .i64 0, .int .i64 0, .int .i64 0, .int .i64 0, .int .i64 0, .int .i64 0, .int .i64 0, .int .i64 0, .int .i64 0, .int .i64 0, .int .i64 0, .int .i64 0, .int .i64 0, .int .i64 0, .int .i64 0, .int .i64 0, .int .i64 0, .int .i64 0, .int .i64 0, .int .i64 0, .int .i64 0, .int .i64 0, .int .i64 0, .int .i64 0, .int .i64 0, .slice none 0 0, .int .i64 0, .int .i64 0, .int .i64 0, .int .i64 0, .int .i64 0, .int .i64 0, .int .i64 0, .int .i64 0, .bool false, .int .i64 0, .int .i64 0, .int .i64 0, .slice none 0 0] 35)) = w1 at *
  go_fit (ubnamed_any c i w1)
  rintro e w2 ⟨rfl, rfl⟩
  rw [hP]
  go_wp2_with (first | (with_reducible refine stop_loadT 35 ?_) | (with_reducible refine stop_storeT 35 ?_) | (with_reducible refine stop_loadG 35 ?_))
  refine go_ (wpList_store_row rfl _ _ _ rfl (w.heap.size + 1) (ubL ub0 ua0).toArray rfl rfl _ _ hres (ub_size ub0 ua0 rfl rfl) (ub_sizes rfl rfl rfl rfl) (ub_one ub0 ua0) ?_)
  have hres2 := setRow_heap _ _ _ (ubL ub0 ua0).toArray _ _ hres
  have haw : Aw (fun k => k = w.heap.size + 1) w1 (w1.setRow (w.heap.size + 1) (ubL ub0 ua0).toArray) := aw_setRow20 _ _
  have hb6 := below_aw20 hb haw (fun k hk => by rw [hk]; omega) hb.size
  generalize w1.setRow (w.heap.size + 1) (ubL ub0 ua0).toArray = w6 at *
  go_wp2
  exact bodyPost_ret (results_cell2 rfl _ _ (w.heap.size + 1) _ _ _ _ rfl hres2 Tryz.underlying35 rfl (ub_size ub0 ua0 rfl rfl)) rfl ⟨ua0, rfl, UbR.nil _ _ _ rfl rfl, (fun p hp => by rcases hp with hp | hp <;> cases hp), hb6⟩

theorem ubTake_any (c i : Int) (A : Option Addr) (n cap B : Nat) (b : List UInt8) (w : World) (h : Rd w B 1 A n cap (bv b)) (hB : B ≤ w.heap.size) (hn : n ≤ 1000000000) :
    Calls Tryz.prog 17 #[.agg #[.int .i64 c, .int .i64 i, .slice A n cap]] w (RetUT w (ubT c i b) (ubTE c i b)) := by
  rcases ubKd_le c i with hk | hk | hk | hk | hk | hk
  · exact ubTake_1 c i A n cap B b w h hB hn hk
  · exact ubTake_2 c i A n cap B b w h hB hn hk
  · exact ubTake_3 c i A n cap B b w h hB hn hk
  · exact ubTake_4 c i A n cap B b w h hB hn hk
  · exact ubTake_5 c i A n cap B b w h hB hn hk
  · exact ubTake_0 c i A n cap b w hk

end Go.Proofs.YtmkidihcdljkiaaGreat
