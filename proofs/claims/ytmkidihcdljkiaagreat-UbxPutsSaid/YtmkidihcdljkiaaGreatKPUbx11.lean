/-
  The document's Plain walked, a case a kind (printed by gen_ubx11.py).
-/
import Derived.Test.YtmkidihcdljkiaaGreatKPUbx5
set_option linter.unusedSimpArgs false
set_option linter.unusedVariables false
namespace Go.Proofs.YtmkidihcdljkiaaGreat
open Go.RowKit NumLaw
attribute [local go_sem] Addr.add_mid

set_option maxRecDepth 10000 in
set_option maxHeartbeats 4000000 in
theorem qubPlain_1 (V : UbV) (a : UbA) (h : UbOk V) (w : World) (hr : UbR w w.heap.size V a) (hn : a.n ≤ 1000 ∧ a.n' ≤ 1000) (hk : V.k = 1) :
    Calls Tryz.prog 16 #[.agg (ubL V a).toArray] w (RetUP w (ubPlain V)) := by
  obtain ⟨UP, hUP⟩ : ∃ UP, UP = ubPlain V := ⟨_, rfl⟩
  have HL : Hid (UP.p.length = 32 ∧ UP.d.length = 8) := Lib.hid (by rw [hUP]; exact ⟨(ubPlain_ok h).pl, (ubPlain_ok h).dl⟩)
  have HP : Hid (UP = { ub0 with k := 1, p := V.p }) := Lib.hid (by rw [hUP]; simp [ubPlain, hk])
  have Hok := Lib.hid h
  have HKK := Lib.hid hk
  have HU := Lib.hid hUP
  rw [← hUP]
  obtain ⟨x0, x1, hs, hb⟩ := al2 w (.cells (ubL V a).toArray 35) (.cells #[.int .i64 0, .int .i64 0, .int .i64 0, .int .i64 0, .int .i64 0, .int .i64 0, .int .i64 0, .int .i64 0, .int .i64 0, .int .i64 0, .int .i64 0, .int .i64 0, .int .i64 0, .int .i64 0, .int .i64 0, .int .i64 0, .int .i64 0, .int .i64 0, .int .i64 0, .int .i64 0, .int .i64 0, .int .i64 0, .int .i64 0, .int .i64 0, .int .i64 0, .int .i64 0, .int .i64 0, .int .i64 0, .int .i64 0, .int .i64 0, .int .i64 0, .int .i64 0, .int .i64 0, .int .i64 0, .slice none 0 0, .int .i64 0, .int .i64 0, .int .i64 0, .int .i64 0, .int .i64 0, .int .i64 0, .int .i64 0, .int .i64 0, .bool false, .int .i64 0, .int .i64 0, .int .i64 0, .slice none 0 0] 35)
  have hx : UbB ((w.alloc (.cells (ubL V a).toArray 35)).alloc (.cells #[.int .i64 0, .int .i64 0, .int .i64 0, .int .i64 0, .int .i64 0, .int .i64 0, .int .i64 0, .int .i64 0, .int .i64 0, .int .i64 0, .int .i64 0, .int .i64 0, .int .i64 0, .int .i64 0, .int .i64 0, .int .i64 0, .int .i64 0, .int .i64 0, .int .i64 0, .int .i64 0, .int .i64 0, .int .i64 0, .int .i64 0, .int .i64 0, .int .i64 0, .int .i64 0, .int .i64 0, .int .i64 0, .int .i64 0, .int .i64 0, .int .i64 0, .int .i64 0, .int .i64 0, .int .i64 0, .slice none 0 0, .int .i64 0, .int .i64 0, .int .i64 0, .int .i64 0, .int .i64 0, .int .i64 0, .int .i64 0, .int .i64 0, .bool false, .int .i64 0, .int .i64 0, .int .i64 0, .slice none 0 0] 35)) w.heap.size V a := x0
  have hres : UbB ((w.alloc (.cells (ubL V a).toArray 35)).alloc (.cells #[.int .i64 0, .int .i64 0, .int .i64 0, .int .i64 0, .int .i64 0, .int .i64 0, .int .i64 0, .int .i64 0, .int .i64 0, .int .i64 0, .int .i64 0, .int .i64 0, .int .i64 0, .int .i64 0, .int .i64 0, .int .i64 0, .int .i64 0, .int .i64 0, .int .i64 0, .int .i64 0, .int .i64 0, .int .i64 0, .int .i64 0, .int .i64 0, .int .i64 0, .int .i64 0, .int .i64 0, .int .i64 0, .int .i64 0, .int .i64 0, .int .i64 0, .int .i64 0, .int .i64 0, .int .i64 0, .slice none 0 0, .int .i64 0, .int .i64 0, .int .i64 0, .int .i64 0, .int .i64 0, .int .i64 0, .int .i64 0, .int .i64 0, .bool false, .int .i64 0, .int .i64 0, .int .i64 0, .slice none 0 0] 35)) (w.heap.size + 1) ub0 ua0 := x1
  have HS := Lib.hid hs
  clear hUP x0 x1 hs
  have c0 := hx.kc
  rw [hk] at c0
  have Hc0 := Lib.hid c0
  clear hk h
  go_enter Tryz.func16, Tryz.ntmps16
  go_wp2_with (first | (with_reducible refine stop_loadT 35 ?_) | (with_reducible refine stop_storeT 35 ?_) | (with_reducible refine stop_loadG 35 ?_))
  have y1 := heap_alloc_new ((w.alloc (.cells (ubL V a).toArray 35)).alloc (.cells #[.int .i64 0, .int .i64 0, .int .i64 0, .int .i64 0, .int .i64 0, .int .i64 0, .int .i64 0, .int .i64 0, .int .i64 0, .int .i64 0, .int .i64 0, .int .i64 0, .int .i64 0, .int .i64 0, .int .i64 0, .int .i64 0, .int .i64 0, .int .i64 0, .int .i64 0, .int .i64 0, .int .i64 0, .int .i64 0, .int .i64 0, .int .i64 0, .int .i64 0, .int .i64 0, .int .i64 0, .int .i64 0, .int .i64 0, .int .i64 0, .int .i64 0, .int .i64 0, .int .i64 0, .int .i64 0, .slice none 0 0, .int .i64 0, .int .i64 0, .int .i64 0, .int .i64 0, .int .i64 0, .int .i64 0, .int .i64 0, .int .i64 0, .bool false, .int .i64 0, .int .i64 0, .int .i64 0, .slice none 0 0] 35)) (.cells #[.int .i64 0, .int .i64 0, .int .i64 0, .int .i64 0, .int .i64 0, .int .i64 0, .int .i64 0, .int .i64 0, .int .i64 0, .int .i64 0, .int .i64 0, .int .i64 0, .int .i64 0, .int .i64 0, .int .i64 0, .int .i64 0, .int .i64 0, .int .i64 0, .int .i64 0, .int .i64 0, .int .i64 0, .int .i64 0, .int .i64 0, .int .i64 0, .int .i64 0, .int .i64 0, .int .i64 0, .int .i64 0, .int .i64 0, .int .i64 0, .int .i64 0, .int .i64 0, .int .i64 0, .int .i64 0, .slice none 0 0, .int .i64 0, .int .i64 0, .int .i64 0, .int .i64 0, .int .i64 0, .int .i64 0, .int .i64 0, .int .i64 0, .bool false, .int .i64 0, .int .i64 0, .int .i64 0, .slice none 0 0] 35)
  have hb3 := (Below.refl ((w.alloc (.cells (ubL V a).toArray 35)).alloc (.cells #[.int .i64 0, .int .i64 0, .int .i64 0, .int .i64 0, .int .i64 0, .int .i64 0, .int .i64 0, .int .i64 0, .int .i64 0, .int .i64 0, .int .i64 0, .int .i64 0, .int .i64 0, .int .i64 0, .int .i64 0, .int .i64 0, .int .i64 0, .int .i64 0, .int .i64 0, .int .i64 0, .int .i64 0, .int .i64 0, .int .i64 0, .int .i64 0, .int .i64 0, .int .i64 0, .int .i64 0, .int .i64 0, .int .i64 0, .int .i64 0, .int .i64 0, .int .i64 0, .int .i64 0, .int .i64 0, .slice none 0 0, .int .i64 0, .int .i64 0, .int .i64 0, .int .i64 0, .int .i64 0, .int .i64 0, .int .i64 0, .int .i64 0, .bool false, .int .i64 0, .int .i64 0, .int .i64 0, .slice none 0 0] 35)).heap.size ((w.alloc (.cells (ubL V a).toArray 35)).alloc (.cells #[.int .i64 0, .int .i64 0, .int .i64 0, .int .i64 0, .int .i64 0, .int .i64 0, .int .i64 0, .int .i64 0, .int .i64 0, .int .i64 0, .int .i64 0, .int .i64 0, .int .i64 0, .int .i64 0, .int .i64 0, .int .i64 0, .int .i64 0, .int .i64 0, .int .i64 0, .int .i64 0, .int .i64 0, .int .i64 0, .int .i64 0, .int .i64 0, .int .i64 0, .int .i64 0, .int .i64 0, .int .i64 0, .int .i64 0, .int .i64 0, .int .i64 0, .int .i64 0, .int .i64 0, .int .i64 0, .slice none 0 0, .int .i64 0, .int .i64 0, .int .i64 0, .int .i64 0, .int .i64 0, .int .i64 0, .int .i64 0, .int .i64 0, .bool false, .int .i64 0, .int .i64 0, .int .i64 0, .slice none 0 0] 35))).alloc (Nat.le_refl _) (.cells #[.int .i64 0, .int .i64 0, .int .i64 0, .int .i64 0, .int .i64 0, .int .i64 0, .int .i64 0, .int .i64 0, .int .i64 0, .int .i64 0, .int .i64 0, .int .i64 0, .int .i64 0, .int .i64 0, .int .i64 0, .int .i64 0, .int .i64 0, .int .i64 0, .int .i64 0, .int .i64 0, .int .i64 0, .int .i64 0, .int .i64 0, .int .i64 0, .int .i64 0, .int .i64 0, .int .i64 0, .int .i64 0, .int .i64 0, .int .i64 0, .int .i64 0, .int .i64 0, .int .i64 0, .int .i64 0, .slice none 0 0, .int .i64 0, .int .i64 0, .int .i64 0, .int .i64 0, .int .i64 0, .int .i64 0, .int .i64 0, .int .i64 0, .bool false, .int .i64 0, .int .i64 0, .int .i64 0, .slice none 0 0] 35)
  have hx3 := hx.old hb3 (blk_lt hx)
  have hres3 := hres.old hb3 (blk_lt hres)
  have hgl := blk_lt hres
  have hbb := bnx hb hb3
  rw [HS.out] at y1
  have c3 := (hb3.cell (p := ⟨w.heap.size, 0, none⟩) (blk_lt hx)).trans c0
  clear hb hb3 hx hres c0 Hc0
  generalize (((w.alloc (.cells (ubL V a).toArray 35)).alloc (.cells #[.int .i64 0, .int .i64 0, .int .i64 0, .int .i64 0, .int .i64 0, .int .i64 0, .int .i64 0, .int .i64 0, .int .i64 0, .int .i64 0, .int .i64 0, .int .i64 0, .int .i64 0, .int .i64 0, .int .i64 0, .int .i64 0, .int .i64 0, .int .i64 0, .int .i64 0, .int .i64 0, .int .i64 0, .int .i64 0, .int .i64 0, .int .i64 0, .int .i64 0, .int .i64 0, .int .i64 0, .int .i64 0, .int .i64 0, .int .i64 0, .int .i64 0, .int .i64 0, .int .i64 0, .int .i64 0, .slice none 0 0, .int .i64 0, .int .i64 0, .int .i64 0, .int .i64 0, .int .i64 0, .int .i64 0, .int .i64 0, .int .i64 0, .bool false, .int .i64 0, .int .i64 0, .int .i64 0, .slice none 0 0] 35)).alloc (.cells #[.int .i64 0, .int .i64 0, .int .i64 0, .int .i64 0, .int .i64 0, .int .i64 0, .int .i64 0, .int .i64 0, .int .i64 0, .int .i64 0, .int .i64 0, .int .i64 0, .int .i64 0, .int .i64 0, .int .i64 0, .int .i64 0, .int .i64 0, .int .i64 0, .int .i64 0, .int .i64 0, .int .i64 0, .int .i64 0, .int .i64 0, .int .i64 0, .int .i64 0, .int .i64 0, .int .i64 0, .int .i64 0, .int .i64 0, .int .i64 0, .int .i64 0, .int .i64 0, .int .i64 0, .int .i64 0, .slice none 0 0, .int .i64 0, .int .i64 0, .int .i64 0, .int .i64 0, .int .i64 0, .int .i64 0, .int .i64 0, .int .i64 0, .bool false, .int .i64 0, .int .i64 0, .int .i64 0, .slice none 0 0] 35)) = w1 at *
  refine go_ (wpList_store_row rfl _ _ _ rfl (w.heap.size + 1 + 1) (ubL { ub0 with k := 1 } ua0).toArray rfl rfl _ _ y1 (ub_size _ _ rfl rfl) (ub_sizes (V := ub0) (a := ua0) rfl rfl rfl rfl) (ub_one _ _) ?_)
  have hm5 : UbB _ (w.heap.size + 1 + 1) { ub0 with k := 1 } ua0 := setRow_heap _ _ _ (ubL { ub0 with k := 1 } ua0).toArray _ _ y1
  have haw : Aw (fun k => k = (w.heap.size + 1 + 1)) w1 (w1.setRow (w.heap.size + 1 + 1) (ubL { ub0 with k := 1 } ua0).toArray) := aw_setRow20 _ _
  have hx : UbB _ w.heap.size V a := haw.keep hx3 (by omega)
  have hres : UbB _ (w.heap.size + 1) ub0 ua0 := haw.keep hres3 (by omega)
  have hb := below_aw20 hbb haw (fun k hk => by rw [hk]; omega) hbb.size
  have c0 := hx.kc
  rw [show V.k = 1 from HKK.out] at c0
  generalize w1.setRow (w.heap.size + 1 + 1) (ubL { ub0 with k := 1 } ua0).toArray = w2 at *
  clear haw y1 hx3 hres3 hbb c3
  go_wp2_with (first | (with_reducible refine stop_loadT 23 ?_) | (with_reducible refine stop_storeT 23 ?_) | (with_reducible refine stop_loadG 23 ?_))
  refine go_ (wpList_load_mid rfl _ _ rfl w.heap.size 1 rfl (i64s V.p) _ (hx.pr Hok.out.pl) Tryz.underlying23 rfl (by rw [i64s_len, Hok.out.pl]; kernel_rfl) ?_)
  go_wp2_with (first | (with_reducible refine stop_loadT 23 ?_) | (with_reducible refine stop_storeT 23 ?_) | (with_reducible refine stop_loadG 23 ?_))
  refine go_ (wpList_store_mid rfl _ _ _ rfl (w.heap.size + 1 + 1) 1 (i64s V.p).toArray rfl rfl (hm5.there rfl rfl (by rw [List.size_toArray]; rw [i64s_len, Hok.out.pl]; omega)) (by rw [List.size_toArray, i64s_len, Hok.out.pl]; kernel_rfl) (all_oneCell_toArray (i64v_one _)) ?_)
  obtain ⟨hm6, haw⟩ := hm5.set (ubL_setp rfl Hok.out.pl)
  replace hm6 : UbB (w2.setCells (w.heap.size + 1 + 1) 1 (i64s V.p)) (w.heap.size + 1 + 1) { ub0 with k := 1, p := V.p } ua0 := hm6
  rw [← HP.out] at hm6
  replace hres := haw.keep hres (by omega)
  replace hb := below_aw20 hb haw (fun k hk => by rw [hk]; omega) hb.size
  have hr5 : UbR (w2.setCells (w.heap.size + 1 + 1) 1 (i64s V.p)) (w2.setCells (w.heap.size + 1 + 1) 1 (i64s V.p)).heap.size UP ua0 := by rw [HP.out]; exact UbR.nil _ _ _ rfl rfl
  have hf5 : ∀ p, ua0.A = some p ∨ ua0.A' = some p → (w.heap.size + 1 + 1) < p.block := fun p hp => by rcases hp with hp | hp <;> cases hp
  simp only [List.toList_toArray]
  generalize w2.setCells (w.heap.size + 1 + 1) 1 (i64s V.p) = w5 at *
  generalize ua0 = a5 at hm6 hr5 hf5
  clear hm5 hx haw hr c0
  have hm5 := hm6
  clear hm6
  go_wp2_with (first | (with_reducible refine stop_loadT 35 ?_) | (with_reducible refine stop_storeT 35 ?_) | (with_reducible refine stop_loadG 35 ?_))
  refine go_ (wpList_load_row rfl _ _ rfl (w.heap.size + 1 + 1) rfl _ _ _ _ hm5 Tryz.underlying35 rfl (ub_size UP a5 HL.out.1 HL.out.2) ?_)
  go_wp2_with (first | (with_reducible refine stop_loadT 35 ?_) | (with_reducible refine stop_storeT 35 ?_) | (with_reducible refine stop_loadG 35 ?_))
  refine go_ (wpList_store_row rfl _ _ _ rfl (w.heap.size + 1) (ubL UP a5).toArray rfl rfl _ _ hres (ub_size UP a5 HL.out.1 HL.out.2) (ub_sizes rfl rfl HL.out.1 HL.out.2) (ub_one UP a5) ?_)
  have hres2 := setRow_heap _ _ _ (ubL UP a5).toArray _ _ hres
  have haw : Aw (fun k => k = w.heap.size + 1) w5 (w5.setRow (w.heap.size + 1) (ubL UP a5).toArray) := aw_setRow20 _ _
  have hb6 := below_aw20 hb haw (fun k hk => by rw [hk]; omega) hb.size
  have hr6 := ubr_aw hr5 haw (fun p hp => by have := hf5 p hp; omega)
  generalize w5.setRow (w.heap.size + 1) (ubL UP a5).toArray = w6 at *
  go_wp2
  exact bodyPost_ret (results_cell_row rfl _ _ (w.heap.size + 1) _ _ _ _ rfl hres2 Tryz.underlying35 rfl (ub_size UP a5 HL.out.1 HL.out.2)) rfl ⟨a5, rfl, hr6, hb6⟩

set_option maxRecDepth 10000 in
set_option maxHeartbeats 4000000 in
theorem qubPlain_3 (V : UbV) (a : UbA) (h : UbOk V) (w : World) (hr : UbR w w.heap.size V a) (hn : a.n ≤ 1000 ∧ a.n' ≤ 1000) (hk : V.k = 3) :
    Calls Tryz.prog 16 #[.agg (ubL V a).toArray] w (RetUP w (ubPlain V)) := by
  obtain ⟨UP, hUP⟩ : ∃ UP, UP = ubPlain V := ⟨_, rfl⟩
  have HL : Hid (UP.p.length = 32 ∧ UP.d.length = 8) := Lib.hid (by rw [hUP]; exact ⟨(ubPlain_ok h).pl, (ubPlain_ok h).dl⟩)
  have HP : Hid (UP = { ub0 with k := 3, d := V.d }) := Lib.hid (by rw [hUP]; simp [ubPlain, hk])
  have Hok := Lib.hid h
  have HKK := Lib.hid hk
  have HU := Lib.hid hUP
  rw [← hUP]
  obtain ⟨x0, x1, hs, hb⟩ := al2 w (.cells (ubL V a).toArray 35) (.cells #[.int .i64 0, .int .i64 0, .int .i64 0, .int .i64 0, .int .i64 0, .int .i64 0, .int .i64 0, .int .i64 0, .int .i64 0, .int .i64 0, .int .i64 0, .int .i64 0, .int .i64 0, .int .i64 0, .int .i64 0, .int .i64 0, .int .i64 0, .int .i64 0, .int .i64 0, .int .i64 0, .int .i64 0, .int .i64 0, .int .i64 0, .int .i64 0, .int .i64 0, .int .i64 0, .int .i64 0, .int .i64 0, .int .i64 0, .int .i64 0, .int .i64 0, .int .i64 0, .int .i64 0, .int .i64 0, .slice none 0 0, .int .i64 0, .int .i64 0, .int .i64 0, .int .i64 0, .int .i64 0, .int .i64 0, .int .i64 0, .int .i64 0, .bool false, .int .i64 0, .int .i64 0, .int .i64 0, .slice none 0 0] 35)
  have hx : UbB ((w.alloc (.cells (ubL V a).toArray 35)).alloc (.cells #[.int .i64 0, .int .i64 0, .int .i64 0, .int .i64 0, .int .i64 0, .int .i64 0, .int .i64 0, .int .i64 0, .int .i64 0, .int .i64 0, .int .i64 0, .int .i64 0, .int .i64 0, .int .i64 0, .int .i64 0, .int .i64 0, .int .i64 0, .int .i64 0, .int .i64 0, .int .i64 0, .int .i64 0, .int .i64 0, .int .i64 0, .int .i64 0, .int .i64 0, .int .i64 0, .int .i64 0, .int .i64 0, .int .i64 0, .int .i64 0, .int .i64 0, .int .i64 0, .int .i64 0, .int .i64 0, .slice none 0 0, .int .i64 0, .int .i64 0, .int .i64 0, .int .i64 0, .int .i64 0, .int .i64 0, .int .i64 0, .int .i64 0, .bool false, .int .i64 0, .int .i64 0, .int .i64 0, .slice none 0 0] 35)) w.heap.size V a := x0
  have hres : UbB ((w.alloc (.cells (ubL V a).toArray 35)).alloc (.cells #[.int .i64 0, .int .i64 0, .int .i64 0, .int .i64 0, .int .i64 0, .int .i64 0, .int .i64 0, .int .i64 0, .int .i64 0, .int .i64 0, .int .i64 0, .int .i64 0, .int .i64 0, .int .i64 0, .int .i64 0, .int .i64 0, .int .i64 0, .int .i64 0, .int .i64 0, .int .i64 0, .int .i64 0, .int .i64 0, .int .i64 0, .int .i64 0, .int .i64 0, .int .i64 0, .int .i64 0, .int .i64 0, .int .i64 0, .int .i64 0, .int .i64 0, .int .i64 0, .int .i64 0, .int .i64 0, .slice none 0 0, .int .i64 0, .int .i64 0, .int .i64 0, .int .i64 0, .int .i64 0, .int .i64 0, .int .i64 0, .int .i64 0, .bool false, .int .i64 0, .int .i64 0, .int .i64 0, .slice none 0 0] 35)) (w.heap.size + 1) ub0 ua0 := x1
  have HS := Lib.hid hs
  clear hUP x0 x1 hs
  have c0 := hx.kc
  rw [hk] at c0
  have Hc0 := Lib.hid c0
  clear hk h
  go_enter Tryz.func16, Tryz.ntmps16
  go_wp2_with (first | (with_reducible refine stop_loadT 35 ?_) | (with_reducible refine stop_storeT 35 ?_) | (with_reducible refine stop_loadG 35 ?_))
  have y1 := heap_alloc_new ((w.alloc (.cells (ubL V a).toArray 35)).alloc (.cells #[.int .i64 0, .int .i64 0, .int .i64 0, .int .i64 0, .int .i64 0, .int .i64 0, .int .i64 0, .int .i64 0, .int .i64 0, .int .i64 0, .int .i64 0, .int .i64 0, .int .i64 0, .int .i64 0, .int .i64 0, .int .i64 0, .int .i64 0, .int .i64 0, .int .i64 0, .int .i64 0, .int .i64 0, .int .i64 0, .int .i64 0, .int .i64 0, .int .i64 0, .int .i64 0, .int .i64 0, .int .i64 0, .int .i64 0, .int .i64 0, .int .i64 0, .int .i64 0, .int .i64 0, .int .i64 0, .slice none 0 0, .int .i64 0, .int .i64 0, .int .i64 0, .int .i64 0, .int .i64 0, .int .i64 0, .int .i64 0, .int .i64 0, .bool false, .int .i64 0, .int .i64 0, .int .i64 0, .slice none 0 0] 35)) (.cells #[.int .i64 0, .int .i64 0, .int .i64 0, .int .i64 0, .int .i64 0, .int .i64 0, .int .i64 0, .int .i64 0, .int .i64 0, .int .i64 0, .int .i64 0, .int .i64 0, .int .i64 0, .int .i64 0, .int .i64 0, .int .i64 0, .int .i64 0, .int .i64 0, .int .i64 0, .int .i64 0, .int .i64 0, .int .i64 0, .int .i64 0, .int .i64 0, .int .i64 0, .int .i64 0, .int .i64 0, .int .i64 0, .int .i64 0, .int .i64 0, .int .i64 0, .int .i64 0, .int .i64 0, .int .i64 0, .slice none 0 0, .int .i64 0, .int .i64 0, .int .i64 0, .int .i64 0, .int .i64 0, .int .i64 0, .int .i64 0, .int .i64 0, .bool false, .int .i64 0, .int .i64 0, .int .i64 0, .slice none 0 0] 35)
  have hb3 := (Below.refl ((w.alloc (.cells (ubL V a).toArray 35)).alloc (.cells #[.int .i64 0, .int .i64 0, .int .i64 0, .int .i64 0, .int .i64 0, .int .i64 0, .int .i64 0, .int .i64 0, .int .i64 0, .int .i64 0, .int .i64 0, .int .i64 0, .int .i64 0, .int .i64 0, .int .i64 0, .int .i64 0, .int .i64 0, .int .i64 0, .int .i64 0, .int .i64 0, .int .i64 0, .int .i64 0, .int .i64 0, .int .i64 0, .int .i64 0, .int .i64 0, .int .i64 0, .int .i64 0, .int .i64 0, .int .i64 0, .int .i64 0, .int .i64 0, .int .i64 0, .int .i64 0, .slice none 0 0, .int .i64 0, .int .i64 0, .int .i64 0, .int .i64 0, .int .i64 0, .int .i64 0, .int .i64 0, .int .i64 0, .bool false, .int .i64 0, .int .i64 0, .int .i64 0, .slice none 0 0] 35)).heap.size ((w.alloc (.cells (ubL V a).toArray 35)).alloc (.cells #[.int .i64 0, .int .i64 0, .int .i64 0, .int .i64 0, .int .i64 0, .int .i64 0, .int .i64 0, .int .i64 0, .int .i64 0, .int .i64 0, .int .i64 0, .int .i64 0, .int .i64 0, .int .i64 0, .int .i64 0, .int .i64 0, .int .i64 0, .int .i64 0, .int .i64 0, .int .i64 0, .int .i64 0, .int .i64 0, .int .i64 0, .int .i64 0, .int .i64 0, .int .i64 0, .int .i64 0, .int .i64 0, .int .i64 0, .int .i64 0, .int .i64 0, .int .i64 0, .int .i64 0, .int .i64 0, .slice none 0 0, .int .i64 0, .int .i64 0, .int .i64 0, .int .i64 0, .int .i64 0, .int .i64 0, .int .i64 0, .int .i64 0, .bool false, .int .i64 0, .int .i64 0, .int .i64 0, .slice none 0 0] 35))).alloc (Nat.le_refl _) (.cells #[.int .i64 0, .int .i64 0, .int .i64 0, .int .i64 0, .int .i64 0, .int .i64 0, .int .i64 0, .int .i64 0, .int .i64 0, .int .i64 0, .int .i64 0, .int .i64 0, .int .i64 0, .int .i64 0, .int .i64 0, .int .i64 0, .int .i64 0, .int .i64 0, .int .i64 0, .int .i64 0, .int .i64 0, .int .i64 0, .int .i64 0, .int .i64 0, .int .i64 0, .int .i64 0, .int .i64 0, .int .i64 0, .int .i64 0, .int .i64 0, .int .i64 0, .int .i64 0, .int .i64 0, .int .i64 0, .slice none 0 0, .int .i64 0, .int .i64 0, .int .i64 0, .int .i64 0, .int .i64 0, .int .i64 0, .int .i64 0, .int .i64 0, .bool false, .int .i64 0, .int .i64 0, .int .i64 0, .slice none 0 0] 35)
  have hx3 := hx.old hb3 (blk_lt hx)
  have hres3 := hres.old hb3 (blk_lt hres)
  have hgl := blk_lt hres
  have hbb := bnx hb hb3
  rw [HS.out] at y1
  have c3 := (hb3.cell (p := ⟨w.heap.size, 0, none⟩) (blk_lt hx)).trans c0
  clear hb hb3 hx hres c0 Hc0
  generalize (((w.alloc (.cells (ubL V a).toArray 35)).alloc (.cells #[.int .i64 0, .int .i64 0, .int .i64 0, .int .i64 0, .int .i64 0, .int .i64 0, .int .i64 0, .int .i64 0, .int .i64 0, .int .i64 0, .int .i64 0, .int .i64 0, .int .i64 0, .int .i64 0, .int .i64 0, .int .i64 0, .int .i64 0, .int .i64 0, .int .i64 0, .int .i64 0, .int .i64 0, .int .i64 0, .int .i64 0, .int .i64 0, .int .i64 0, .int .i64 0, .int .i64 0, .int .i64 0, .int .i64 0, .int .i64 0, .int .i64 0, .int .i64 0, .int .i64 0, .int .i64 0, .slice none 0 0, .int .i64 0, .int .i64 0, .int .i64 0, .int .i64 0, .int .i64 0, .int .i64 0, .int .i64 0, .int .i64 0, .bool false, .int .i64 0, .int .i64 0, .int .i64 0, .slice none 0 0] 35)).alloc (.cells #[.int .i64 0, .int .i64 0, .int .i64 0, .int .i64 0, .int .i64 0, .int .i64 0, .int .i64 0, .int .i64 0, .int .i64 0, .int .i64 0, .int .i64 0, .int .i64 0, .int .i64 0, .int .i64 0, .int .i64 0, .int .i64 0, .int .i64 0, .int .i64 0, .int .i64 0, .int .i64 0, .int .i64 0, .int .i64 0, .int .i64 0, .int .i64 0, .int .i64 0, .int .i64 0, .int .i64 0, .int .i64 0, .int .i64 0, .int .i64 0, .int .i64 0, .int .i64 0, .int .i64 0, .int .i64 0, .slice none 0 0, .int .i64 0, .int .i64 0, .int .i64 0, .int .i64 0, .int .i64 0, .int .i64 0, .int .i64 0, .int .i64 0, .bool false, .int .i64 0, .int .i64 0, .int .i64 0, .slice none 0 0] 35)) = w1 at *
  refine go_ (wpList_store_row rfl _ _ _ rfl (w.heap.size + 1 + 1) (ubL { ub0 with k := 3 } ua0).toArray rfl rfl _ _ y1 (ub_size _ _ rfl rfl) (ub_sizes (V := ub0) (a := ua0) rfl rfl rfl rfl) (ub_one _ _) ?_)
  have hm5 : UbB _ (w.heap.size + 1 + 1) { ub0 with k := 3 } ua0 := setRow_heap _ _ _ (ubL { ub0 with k := 3 } ua0).toArray _ _ y1
  have haw : Aw (fun k => k = (w.heap.size + 1 + 1)) w1 (w1.setRow (w.heap.size + 1 + 1) (ubL { ub0 with k := 3 } ua0).toArray) := aw_setRow20 _ _
  have hx : UbB _ w.heap.size V a := haw.keep hx3 (by omega)
  have hres : UbB _ (w.heap.size + 1) ub0 ua0 := haw.keep hres3 (by omega)
  have hb := below_aw20 hbb haw (fun k hk => by rw [hk]; omega) hbb.size
  have c0 := hx.kc
  rw [show V.k = 3 from HKK.out] at c0
  generalize w1.setRow (w.heap.size + 1 + 1) (ubL { ub0 with k := 3 } ua0).toArray = w2 at *
  clear haw y1 hx3 hres3 hbb c3
  go_wp2_with (first | (with_reducible refine stop_loadT 28 ?_) | (with_reducible refine stop_storeT 28 ?_) | (with_reducible refine stop_loadG 28 ?_))
  refine go_ (wpList_load_mid rfl _ _ rfl w.heap.size 35 rfl (i64s V.d) _ (hx.dr Hok.out.pl) Tryz.underlying28 rfl (by rw [i64s_len, Hok.out.dl]; kernel_rfl) ?_)
  go_wp2_with (first | (with_reducible refine stop_loadT 28 ?_) | (with_reducible refine stop_storeT 28 ?_) | (with_reducible refine stop_loadG 28 ?_))
  refine go_ (wpList_store_mid rfl _ _ _ rfl (w.heap.size + 1 + 1) 35 (i64s V.d).toArray rfl rfl (hm5.there rfl rfl (by rw [List.size_toArray]; rw [i64s_len, Hok.out.dl]; omega)) (by rw [List.size_toArray, i64s_len, Hok.out.dl]; kernel_rfl) (all_oneCell_toArray (i64v_one _)) ?_)
  obtain ⟨hm6, haw⟩ := hm5.set (ubL_setd rfl rfl Hok.out.dl)
  replace hm6 : UbB (w2.setCells (w.heap.size + 1 + 1) 35 (i64s V.d)) (w.heap.size + 1 + 1) { ub0 with k := 3, d := V.d } ua0 := hm6
  rw [← HP.out] at hm6
  replace hres := haw.keep hres (by omega)
  replace hb := below_aw20 hb haw (fun k hk => by rw [hk]; omega) hb.size
  have hr5 : UbR (w2.setCells (w.heap.size + 1 + 1) 35 (i64s V.d)) (w2.setCells (w.heap.size + 1 + 1) 35 (i64s V.d)).heap.size UP ua0 := by rw [HP.out]; exact UbR.nil _ _ _ rfl rfl
  have hf5 : ∀ p, ua0.A = some p ∨ ua0.A' = some p → (w.heap.size + 1 + 1) < p.block := fun p hp => by rcases hp with hp | hp <;> cases hp
  simp only [List.toList_toArray]
  generalize w2.setCells (w.heap.size + 1 + 1) 35 (i64s V.d) = w5 at *
  generalize ua0 = a5 at hm6 hr5 hf5
  clear hm5 hx haw hr c0
  have hm5 := hm6
  clear hm6
  go_wp2_with (first | (with_reducible refine stop_loadT 35 ?_) | (with_reducible refine stop_storeT 35 ?_) | (with_reducible refine stop_loadG 35 ?_))
  refine go_ (wpList_load_row rfl _ _ rfl (w.heap.size + 1 + 1) rfl _ _ _ _ hm5 Tryz.underlying35 rfl (ub_size UP a5 HL.out.1 HL.out.2) ?_)
  go_wp2_with (first | (with_reducible refine stop_loadT 35 ?_) | (with_reducible refine stop_storeT 35 ?_) | (with_reducible refine stop_loadG 35 ?_))
  refine go_ (wpList_store_row rfl _ _ _ rfl (w.heap.size + 1) (ubL UP a5).toArray rfl rfl _ _ hres (ub_size UP a5 HL.out.1 HL.out.2) (ub_sizes rfl rfl HL.out.1 HL.out.2) (ub_one UP a5) ?_)
  have hres2 := setRow_heap _ _ _ (ubL UP a5).toArray _ _ hres
  have haw : Aw (fun k => k = w.heap.size + 1) w5 (w5.setRow (w.heap.size + 1) (ubL UP a5).toArray) := aw_setRow20 _ _
  have hb6 := below_aw20 hb haw (fun k hk => by rw [hk]; omega) hb.size
  have hr6 := ubr_aw hr5 haw (fun p hp => by have := hf5 p hp; omega)
  generalize w5.setRow (w.heap.size + 1) (ubL UP a5).toArray = w6 at *
  go_wp2
  exact bodyPost_ret (results_cell_row rfl _ _ (w.heap.size + 1) _ _ _ _ rfl hres2 Tryz.underlying35 rfl (ub_size UP a5 HL.out.1 HL.out.2)) rfl ⟨a5, rfl, hr6, hb6⟩

set_option maxRecDepth 10000 in
set_option maxHeartbeats 4000000 in
theorem qubPlain_4 (V : UbV) (a : UbA) (h : UbOk V) (w : World) (hr : UbR w w.heap.size V a) (hn : a.n ≤ 1000 ∧ a.n' ≤ 1000) (hk : V.k = 4) :
    Calls Tryz.prog 16 #[.agg (ubL V a).toArray] w (RetUP w (ubPlain V)) := by
  obtain ⟨UP, hUP⟩ : ∃ UP, UP = ubPlain V := ⟨_, rfl⟩
  have HL : Hid (UP.p.length = 32 ∧ UP.d.length = 8) := Lib.hid (by rw [hUP]; exact ⟨(ubPlain_ok h).pl, (ubPlain_ok h).dl⟩)
  have HP : Hid (UP = { ub0 with k := 4, y := V.y, a1 := V.a1, a2 := V.a2 }) := Lib.hid (by rw [hUP]; simp [ubPlain, hk])
  have Hok := Lib.hid h
  have HKK := Lib.hid hk
  have HU := Lib.hid hUP
  rw [← hUP]
  obtain ⟨x0, x1, hs, hb⟩ := al2 w (.cells (ubL V a).toArray 35) (.cells #[.int .i64 0, .int .i64 0, .int .i64 0, .int .i64 0, .int .i64 0, .int .i64 0, .int .i64 0, .int .i64 0, .int .i64 0, .int .i64 0, .int .i64 0, .int .i64 0, .int .i64 0, .int .i64 0, .int .i64 0, .int .i64 0, .int .i64 0, .int .i64 0, .int .i64 0, .int .i64 0, .int .i64 0, .int .i64 0, .int .i64 0, .int .i64 0, .int .i64 0, .int .i64 0, .int .i64 0, .int .i64 0, .int .i64 0, .int .i64 0, .int .i64 0, .int .i64 0, .int .i64 0, .int .i64 0, .slice none 0 0, .int .i64 0, .int .i64 0, .int .i64 0, .int .i64 0, .int .i64 0, .int .i64 0, .int .i64 0, .int .i64 0, .bool false, .int .i64 0, .int .i64 0, .int .i64 0, .slice none 0 0] 35)
  have hx : UbB ((w.alloc (.cells (ubL V a).toArray 35)).alloc (.cells #[.int .i64 0, .int .i64 0, .int .i64 0, .int .i64 0, .int .i64 0, .int .i64 0, .int .i64 0, .int .i64 0, .int .i64 0, .int .i64 0, .int .i64 0, .int .i64 0, .int .i64 0, .int .i64 0, .int .i64 0, .int .i64 0, .int .i64 0, .int .i64 0, .int .i64 0, .int .i64 0, .int .i64 0, .int .i64 0, .int .i64 0, .int .i64 0, .int .i64 0, .int .i64 0, .int .i64 0, .int .i64 0, .int .i64 0, .int .i64 0, .int .i64 0, .int .i64 0, .int .i64 0, .int .i64 0, .slice none 0 0, .int .i64 0, .int .i64 0, .int .i64 0, .int .i64 0, .int .i64 0, .int .i64 0, .int .i64 0, .int .i64 0, .bool false, .int .i64 0, .int .i64 0, .int .i64 0, .slice none 0 0] 35)) w.heap.size V a := x0
  have hres : UbB ((w.alloc (.cells (ubL V a).toArray 35)).alloc (.cells #[.int .i64 0, .int .i64 0, .int .i64 0, .int .i64 0, .int .i64 0, .int .i64 0, .int .i64 0, .int .i64 0, .int .i64 0, .int .i64 0, .int .i64 0, .int .i64 0, .int .i64 0, .int .i64 0, .int .i64 0, .int .i64 0, .int .i64 0, .int .i64 0, .int .i64 0, .int .i64 0, .int .i64 0, .int .i64 0, .int .i64 0, .int .i64 0, .int .i64 0, .int .i64 0, .int .i64 0, .int .i64 0, .int .i64 0, .int .i64 0, .int .i64 0, .int .i64 0, .int .i64 0, .int .i64 0, .slice none 0 0, .int .i64 0, .int .i64 0, .int .i64 0, .int .i64 0, .int .i64 0, .int .i64 0, .int .i64 0, .int .i64 0, .bool false, .int .i64 0, .int .i64 0, .int .i64 0, .slice none 0 0] 35)) (w.heap.size + 1) ub0 ua0 := x1
  have HS := Lib.hid hs
  clear hUP x0 x1 hs
  have c0 := hx.kc
  rw [hk] at c0
  have Hc0 := Lib.hid c0
  clear hk h
  go_enter Tryz.func16, Tryz.ntmps16
  go_wp2_with (first | (with_reducible refine stop_loadT 35 ?_) | (with_reducible refine stop_storeT 35 ?_) | (with_reducible refine stop_loadG 35 ?_))
  have y1 := heap_alloc_new ((w.alloc (.cells (ubL V a).toArray 35)).alloc (.cells #[.int .i64 0, .int .i64 0, .int .i64 0, .int .i64 0, .int .i64 0, .int .i64 0, .int .i64 0, .int .i64 0, .int .i64 0, .int .i64 0, .int .i64 0, .int .i64 0, .int .i64 0, .int .i64 0, .int .i64 0, .int .i64 0, .int .i64 0, .int .i64 0, .int .i64 0, .int .i64 0, .int .i64 0, .int .i64 0, .int .i64 0, .int .i64 0, .int .i64 0, .int .i64 0, .int .i64 0, .int .i64 0, .int .i64 0, .int .i64 0, .int .i64 0, .int .i64 0, .int .i64 0, .int .i64 0, .slice none 0 0, .int .i64 0, .int .i64 0, .int .i64 0, .int .i64 0, .int .i64 0, .int .i64 0, .int .i64 0, .int .i64 0, .bool false, .int .i64 0, .int .i64 0, .int .i64 0, .slice none 0 0] 35)) (.cells #[.int .i64 0, .int .i64 0, .int .i64 0, .int .i64 0, .int .i64 0, .int .i64 0, .int .i64 0, .int .i64 0, .int .i64 0, .int .i64 0, .int .i64 0, .int .i64 0, .int .i64 0, .int .i64 0, .int .i64 0, .int .i64 0, .int .i64 0, .int .i64 0, .int .i64 0, .int .i64 0, .int .i64 0, .int .i64 0, .int .i64 0, .int .i64 0, .int .i64 0, .int .i64 0, .int .i64 0, .int .i64 0, .int .i64 0, .int .i64 0, .int .i64 0, .int .i64 0, .int .i64 0, .int .i64 0, .slice none 0 0, .int .i64 0, .int .i64 0, .int .i64 0, .int .i64 0, .int .i64 0, .int .i64 0, .int .i64 0, .int .i64 0, .bool false, .int .i64 0, .int .i64 0, .int .i64 0, .slice none 0 0] 35)
  have hb3 := (Below.refl ((w.alloc (.cells (ubL V a).toArray 35)).alloc (.cells #[.int .i64 0, .int .i64 0, .int .i64 0, .int .i64 0, .int .i64 0, .int .i64 0, .int .i64 0, .int .i64 0, .int .i64 0, .int .i64 0, .int .i64 0, .int .i64 0, .int .i64 0, .int .i64 0, .int .i64 0, .int .i64 0, .int .i64 0, .int .i64 0, .int .i64 0, .int .i64 0, .int .i64 0, .int .i64 0, .int .i64 0, .int .i64 0, .int .i64 0, .int .i64 0, .int .i64 0, .int .i64 0, .int .i64 0, .int .i64 0, .int .i64 0, .int .i64 0, .int .i64 0, .int .i64 0, .slice none 0 0, .int .i64 0, .int .i64 0, .int .i64 0, .int .i64 0, .int .i64 0, .int .i64 0, .int .i64 0, .int .i64 0, .bool false, .int .i64 0, .int .i64 0, .int .i64 0, .slice none 0 0] 35)).heap.size ((w.alloc (.cells (ubL V a).toArray 35)).alloc (.cells #[.int .i64 0, .int .i64 0, .int .i64 0, .int .i64 0, .int .i64 0, .int .i64 0, .int .i64 0, .int .i64 0, .int .i64 0, .int .i64 0, .int .i64 0, .int .i64 0, .int .i64 0, .int .i64 0, .int .i64 0, .int .i64 0, .int .i64 0, .int .i64 0, .int .i64 0, .int .i64 0, .int .i64 0, .int .i64 0, .int .i64 0, .int .i64 0, .int .i64 0, .int .i64 0, .int .i64 0, .int .i64 0, .int .i64 0, .int .i64 0, .int .i64 0, .int .i64 0, .int .i64 0, .int .i64 0, .slice none 0 0, .int .i64 0, .int .i64 0, .int .i64 0, .int .i64 0, .int .i64 0, .int .i64 0, .int .i64 0, .int .i64 0, .bool false, .int .i64 0, .int .i64 0, .int .i64 0, .slice none 0 0] 35))).alloc (Nat.le_refl _) (.cells #[.int .i64 0, .int .i64 0, .int .i64 0, .int .i64 0, .int .i64 0, .int .i64 0, .int .i64 0, .int .i64 0, .int .i64 0, .int .i64 0, .int .i64 0, .int .i64 0, .int .i64 0, .int .i64 0, .int .i64 0, .int .i64 0, .int .i64 0, .int .i64 0, .int .i64 0, .int .i64 0, .int .i64 0, .int .i64 0, .int .i64 0, .int .i64 0, .int .i64 0, .int .i64 0, .int .i64 0, .int .i64 0, .int .i64 0, .int .i64 0, .int .i64 0, .int .i64 0, .int .i64 0, .int .i64 0, .slice none 0 0, .int .i64 0, .int .i64 0, .int .i64 0, .int .i64 0, .int .i64 0, .int .i64 0, .int .i64 0, .int .i64 0, .bool false, .int .i64 0, .int .i64 0, .int .i64 0, .slice none 0 0] 35)
  have hx3 := hx.old hb3 (blk_lt hx)
  have hres3 := hres.old hb3 (blk_lt hres)
  have hgl := blk_lt hres
  have hbb := bnx hb hb3
  rw [HS.out] at y1
  have c3 := (hb3.cell (p := ⟨w.heap.size, 0, none⟩) (blk_lt hx)).trans c0
  clear hb hb3 hx hres c0 Hc0
  generalize (((w.alloc (.cells (ubL V a).toArray 35)).alloc (.cells #[.int .i64 0, .int .i64 0, .int .i64 0, .int .i64 0, .int .i64 0, .int .i64 0, .int .i64 0, .int .i64 0, .int .i64 0, .int .i64 0, .int .i64 0, .int .i64 0, .int .i64 0, .int .i64 0, .int .i64 0, .int .i64 0, .int .i64 0, .int .i64 0, .int .i64 0, .int .i64 0, .int .i64 0, .int .i64 0, .int .i64 0, .int .i64 0, .int .i64 0, .int .i64 0, .int .i64 0, .int .i64 0, .int .i64 0, .int .i64 0, .int .i64 0, .int .i64 0, .int .i64 0, .int .i64 0, .slice none 0 0, .int .i64 0, .int .i64 0, .int .i64 0, .int .i64 0, .int .i64 0, .int .i64 0, .int .i64 0, .int .i64 0, .bool false, .int .i64 0, .int .i64 0, .int .i64 0, .slice none 0 0] 35)).alloc (.cells #[.int .i64 0, .int .i64 0, .int .i64 0, .int .i64 0, .int .i64 0, .int .i64 0, .int .i64 0, .int .i64 0, .int .i64 0, .int .i64 0, .int .i64 0, .int .i64 0, .int .i64 0, .int .i64 0, .int .i64 0, .int .i64 0, .int .i64 0, .int .i64 0, .int .i64 0, .int .i64 0, .int .i64 0, .int .i64 0, .int .i64 0, .int .i64 0, .int .i64 0, .int .i64 0, .int .i64 0, .int .i64 0, .int .i64 0, .int .i64 0, .int .i64 0, .int .i64 0, .int .i64 0, .int .i64 0, .slice none 0 0, .int .i64 0, .int .i64 0, .int .i64 0, .int .i64 0, .int .i64 0, .int .i64 0, .int .i64 0, .int .i64 0, .bool false, .int .i64 0, .int .i64 0, .int .i64 0, .slice none 0 0] 35)) = w1 at *
  refine go_ (wpList_store_row rfl _ _ _ rfl (w.heap.size + 1 + 1) (ubL { ub0 with k := 4 } ua0).toArray rfl rfl _ _ y1 (ub_size _ _ rfl rfl) (ub_sizes (V := ub0) (a := ua0) rfl rfl rfl rfl) (ub_one _ _) ?_)
  have hm5 : UbB _ (w.heap.size + 1 + 1) { ub0 with k := 4 } ua0 := setRow_heap _ _ _ (ubL { ub0 with k := 4 } ua0).toArray _ _ y1
  have haw : Aw (fun k => k = (w.heap.size + 1 + 1)) w1 (w1.setRow (w.heap.size + 1 + 1) (ubL { ub0 with k := 4 } ua0).toArray) := aw_setRow20 _ _
  have hx : UbB _ w.heap.size V a := haw.keep hx3 (by omega)
  have hres : UbB _ (w.heap.size + 1) ub0 ua0 := haw.keep hres3 (by omega)
  have hb := below_aw20 hbb haw (fun k hk => by rw [hk]; omega) hbb.size
  have c0 := hx.kc
  rw [show V.k = 4 from HKK.out] at c0
  generalize w1.setRow (w.heap.size + 1 + 1) (ubL { ub0 with k := 4 } ua0).toArray = w2 at *
  clear haw y1 hx3 hres3 hbb c3
  go_wp2_with (first | (with_reducible refine stop_loadT 30 ?_) | (with_reducible refine stop_storeT 30 ?_) | (with_reducible refine stop_loadG 30 ?_))
  refine go_ (wpList_load_mid rfl _ _ rfl w.heap.size 43 rfl (acS V.y V.a1 V.a2) _ (hx.ar Hok.out.pl Hok.out.dl) Tryz.underlying30 rfl (by kernel_rfl) ?_)
  go_wp2_with (first | (with_reducible refine stop_loadT 30 ?_) | (with_reducible refine stop_storeT 30 ?_) | (with_reducible refine stop_loadG 30 ?_))
  refine go_ (wpList_store_mid rfl _ _ _ rfl (w.heap.size + 1 + 1) 43 (acS V.y V.a1 V.a2).toArray rfl rfl (hm5.there rfl rfl (by rw [List.size_toArray]; show 43 + 3 ≤ 48; omega)) (by kernel_rfl) (all_oneCell_toArray (acS_one _ _ _)) ?_)
  obtain ⟨hm6, haw⟩ := hm5.set (ubL_seta rfl rfl)
  replace hm6 : UbB (w2.setCells (w.heap.size + 1 + 1) 43 (acS V.y V.a1 V.a2)) (w.heap.size + 1 + 1) { ub0 with k := 4, y := V.y, a1 := V.a1, a2 := V.a2 } ua0 := hm6
  rw [← HP.out] at hm6
  replace hres := haw.keep hres (by omega)
  replace hb := below_aw20 hb haw (fun k hk => by rw [hk]; omega) hb.size
  have hr5 : UbR (w2.setCells (w.heap.size + 1 + 1) 43 (acS V.y V.a1 V.a2)) (w2.setCells (w.heap.size + 1 + 1) 43 (acS V.y V.a1 V.a2)).heap.size UP ua0 := by rw [HP.out]; exact UbR.nil _ _ _ rfl rfl
  have hf5 : ∀ p, ua0.A = some p ∨ ua0.A' = some p → (w.heap.size + 1 + 1) < p.block := fun p hp => by rcases hp with hp | hp <;> cases hp
  simp only [List.toList_toArray]
  generalize w2.setCells (w.heap.size + 1 + 1) 43 (acS V.y V.a1 V.a2) = w5 at *
  generalize ua0 = a5 at hm6 hr5 hf5
  clear hm5 hx haw hr c0
  have hm5 := hm6
  clear hm6
  go_wp2_with (first | (with_reducible refine stop_loadT 35 ?_) | (with_reducible refine stop_storeT 35 ?_) | (with_reducible refine stop_loadG 35 ?_))
  refine go_ (wpList_load_row rfl _ _ rfl (w.heap.size + 1 + 1) rfl _ _ _ _ hm5 Tryz.underlying35 rfl (ub_size UP a5 HL.out.1 HL.out.2) ?_)
  go_wp2_with (first | (with_reducible refine stop_loadT 35 ?_) | (with_reducible refine stop_storeT 35 ?_) | (with_reducible refine stop_loadG 35 ?_))
  refine go_ (wpList_store_row rfl _ _ _ rfl (w.heap.size + 1) (ubL UP a5).toArray rfl rfl _ _ hres (ub_size UP a5 HL.out.1 HL.out.2) (ub_sizes rfl rfl HL.out.1 HL.out.2) (ub_one UP a5) ?_)
  have hres2 := setRow_heap _ _ _ (ubL UP a5).toArray _ _ hres
  have haw : Aw (fun k => k = w.heap.size + 1) w5 (w5.setRow (w.heap.size + 1) (ubL UP a5).toArray) := aw_setRow20 _ _
  have hb6 := below_aw20 hb haw (fun k hk => by rw [hk]; omega) hb.size
  have hr6 := ubr_aw hr5 haw (fun p hp => by have := hf5 p hp; omega)
  generalize w5.setRow (w.heap.size + 1) (ubL UP a5).toArray = w6 at *
  go_wp2
  exact bodyPost_ret (results_cell_row rfl _ _ (w.heap.size + 1) _ _ _ _ rfl hres2 Tryz.underlying35 rfl (ub_size UP a5 HL.out.1 HL.out.2)) rfl ⟨a5, rfl, hr6, hb6⟩

set_option maxRecDepth 10000 in
set_option maxHeartbeats 4000000 in
theorem qubPlain_2 (V : UbV) (a : UbA) (h : UbOk V) (w : World) (hr : UbR w w.heap.size V a) (hn : a.n ≤ 1000 ∧ a.n' ≤ 1000) (hk : V.k = 2) :
    Calls Tryz.prog 16 #[.agg (ubL V a).toArray] w (RetUP w (ubPlain V)) := by
  obtain ⟨UP, hUP⟩ : ∃ UP, UP = ubPlain V := ⟨_, rfl⟩
  have HL : Hid (UP.p.length = 32 ∧ UP.d.length = 8) := Lib.hid (by rw [hUP]; exact ⟨(ubPlain_ok h).pl, (ubPlain_ok h).dl⟩)
  have HP : Hid (UP = { ub0 with k := 2, t := V.t, l := V.l }) := Lib.hid (by rw [hUP]; simp [ubPlain, hk])
  have Hok := Lib.hid h
  have HKK := Lib.hid hk
  have HU := Lib.hid hUP
  rw [← hUP]
  obtain ⟨x0, x1, hs, hb⟩ := al2 w (.cells (ubL V a).toArray 35) (.cells #[.int .i64 0, .int .i64 0, .int .i64 0, .int .i64 0, .int .i64 0, .int .i64 0, .int .i64 0, .int .i64 0, .int .i64 0, .int .i64 0, .int .i64 0, .int .i64 0, .int .i64 0, .int .i64 0, .int .i64 0, .int .i64 0, .int .i64 0, .int .i64 0, .int .i64 0, .int .i64 0, .int .i64 0, .int .i64 0, .int .i64 0, .int .i64 0, .int .i64 0, .int .i64 0, .int .i64 0, .int .i64 0, .int .i64 0, .int .i64 0, .int .i64 0, .int .i64 0, .int .i64 0, .int .i64 0, .slice none 0 0, .int .i64 0, .int .i64 0, .int .i64 0, .int .i64 0, .int .i64 0, .int .i64 0, .int .i64 0, .int .i64 0, .bool false, .int .i64 0, .int .i64 0, .int .i64 0, .slice none 0 0] 35)
  have hx : UbB ((w.alloc (.cells (ubL V a).toArray 35)).alloc (.cells #[.int .i64 0, .int .i64 0, .int .i64 0, .int .i64 0, .int .i64 0, .int .i64 0, .int .i64 0, .int .i64 0, .int .i64 0, .int .i64 0, .int .i64 0, .int .i64 0, .int .i64 0, .int .i64 0, .int .i64 0, .int .i64 0, .int .i64 0, .int .i64 0, .int .i64 0, .int .i64 0, .int .i64 0, .int .i64 0, .int .i64 0, .int .i64 0, .int .i64 0, .int .i64 0, .int .i64 0, .int .i64 0, .int .i64 0, .int .i64 0, .int .i64 0, .int .i64 0, .int .i64 0, .int .i64 0, .slice none 0 0, .int .i64 0, .int .i64 0, .int .i64 0, .int .i64 0, .int .i64 0, .int .i64 0, .int .i64 0, .int .i64 0, .bool false, .int .i64 0, .int .i64 0, .int .i64 0, .slice none 0 0] 35)) w.heap.size V a := x0
  have hres : UbB ((w.alloc (.cells (ubL V a).toArray 35)).alloc (.cells #[.int .i64 0, .int .i64 0, .int .i64 0, .int .i64 0, .int .i64 0, .int .i64 0, .int .i64 0, .int .i64 0, .int .i64 0, .int .i64 0, .int .i64 0, .int .i64 0, .int .i64 0, .int .i64 0, .int .i64 0, .int .i64 0, .int .i64 0, .int .i64 0, .int .i64 0, .int .i64 0, .int .i64 0, .int .i64 0, .int .i64 0, .int .i64 0, .int .i64 0, .int .i64 0, .int .i64 0, .int .i64 0, .int .i64 0, .int .i64 0, .int .i64 0, .int .i64 0, .int .i64 0, .int .i64 0, .slice none 0 0, .int .i64 0, .int .i64 0, .int .i64 0, .int .i64 0, .int .i64 0, .int .i64 0, .int .i64 0, .int .i64 0, .bool false, .int .i64 0, .int .i64 0, .int .i64 0, .slice none 0 0] 35)) (w.heap.size + 1) ub0 ua0 := x1
  have HS := Lib.hid hs
  clear hUP x0 x1 hs
  have c0 := hx.kc
  rw [hk] at c0
  have Hc0 := Lib.hid c0
  clear hk h
  go_enter Tryz.func16, Tryz.ntmps16
  go_wp2_with (first | (with_reducible refine stop_loadT 35 ?_) | (with_reducible refine stop_storeT 35 ?_) | (with_reducible refine stop_loadG 35 ?_))
  have y1 := heap_alloc_new ((w.alloc (.cells (ubL V a).toArray 35)).alloc (.cells #[.int .i64 0, .int .i64 0, .int .i64 0, .int .i64 0, .int .i64 0, .int .i64 0, .int .i64 0, .int .i64 0, .int .i64 0, .int .i64 0, .int .i64 0, .int .i64 0, .int .i64 0, .int .i64 0, .int .i64 0, .int .i64 0, .int .i64 0, .int .i64 0, .int .i64 0, .int .i64 0, .int .i64 0, .int .i64 0, .int .i64 0, .int .i64 0, .int .i64 0, .int .i64 0, .int .i64 0, .int .i64 0, .int .i64 0, .int .i64 0, .int .i64 0, .int .i64 0, .int .i64 0, .int .i64 0, .slice none 0 0, .int .i64 0, .int .i64 0, .int .i64 0, .int .i64 0, .int .i64 0, .int .i64 0, .int .i64 0, .int .i64 0, .bool false, .int .i64 0, .int .i64 0, .int .i64 0, .slice none 0 0] 35)) (.cells #[.int .i64 0, .int .i64 0, .int .i64 0, .int .i64 0, .int .i64 0, .int .i64 0, .int .i64 0, .int .i64 0, .int .i64 0, .int .i64 0, .int .i64 0, .int .i64 0, .int .i64 0, .int .i64 0, .int .i64 0, .int .i64 0, .int .i64 0, .int .i64 0, .int .i64 0, .int .i64 0, .int .i64 0, .int .i64 0, .int .i64 0, .int .i64 0, .int .i64 0, .int .i64 0, .int .i64 0, .int .i64 0, .int .i64 0, .int .i64 0, .int .i64 0, .int .i64 0, .int .i64 0, .int .i64 0, .slice none 0 0, .int .i64 0, .int .i64 0, .int .i64 0, .int .i64 0, .int .i64 0, .int .i64 0, .int .i64 0, .int .i64 0, .bool false, .int .i64 0, .int .i64 0, .int .i64 0, .slice none 0 0] 35)
  have hb3 := (Below.refl ((w.alloc (.cells (ubL V a).toArray 35)).alloc (.cells #[.int .i64 0, .int .i64 0, .int .i64 0, .int .i64 0, .int .i64 0, .int .i64 0, .int .i64 0, .int .i64 0, .int .i64 0, .int .i64 0, .int .i64 0, .int .i64 0, .int .i64 0, .int .i64 0, .int .i64 0, .int .i64 0, .int .i64 0, .int .i64 0, .int .i64 0, .int .i64 0, .int .i64 0, .int .i64 0, .int .i64 0, .int .i64 0, .int .i64 0, .int .i64 0, .int .i64 0, .int .i64 0, .int .i64 0, .int .i64 0, .int .i64 0, .int .i64 0, .int .i64 0, .int .i64 0, .slice none 0 0, .int .i64 0, .int .i64 0, .int .i64 0, .int .i64 0, .int .i64 0, .int .i64 0, .int .i64 0, .int .i64 0, .bool false, .int .i64 0, .int .i64 0, .int .i64 0, .slice none 0 0] 35)).heap.size ((w.alloc (.cells (ubL V a).toArray 35)).alloc (.cells #[.int .i64 0, .int .i64 0, .int .i64 0, .int .i64 0, .int .i64 0, .int .i64 0, .int .i64 0, .int .i64 0, .int .i64 0, .int .i64 0, .int .i64 0, .int .i64 0, .int .i64 0, .int .i64 0, .int .i64 0, .int .i64 0, .int .i64 0, .int .i64 0, .int .i64 0, .int .i64 0, .int .i64 0, .int .i64 0, .int .i64 0, .int .i64 0, .int .i64 0, .int .i64 0, .int .i64 0, .int .i64 0, .int .i64 0, .int .i64 0, .int .i64 0, .int .i64 0, .int .i64 0, .int .i64 0, .slice none 0 0, .int .i64 0, .int .i64 0, .int .i64 0, .int .i64 0, .int .i64 0, .int .i64 0, .int .i64 0, .int .i64 0, .bool false, .int .i64 0, .int .i64 0, .int .i64 0, .slice none 0 0] 35))).alloc (Nat.le_refl _) (.cells #[.int .i64 0, .int .i64 0, .int .i64 0, .int .i64 0, .int .i64 0, .int .i64 0, .int .i64 0, .int .i64 0, .int .i64 0, .int .i64 0, .int .i64 0, .int .i64 0, .int .i64 0, .int .i64 0, .int .i64 0, .int .i64 0, .int .i64 0, .int .i64 0, .int .i64 0, .int .i64 0, .int .i64 0, .int .i64 0, .int .i64 0, .int .i64 0, .int .i64 0, .int .i64 0, .int .i64 0, .int .i64 0, .int .i64 0, .int .i64 0, .int .i64 0, .int .i64 0, .int .i64 0, .int .i64 0, .slice none 0 0, .int .i64 0, .int .i64 0, .int .i64 0, .int .i64 0, .int .i64 0, .int .i64 0, .int .i64 0, .int .i64 0, .bool false, .int .i64 0, .int .i64 0, .int .i64 0, .slice none 0 0] 35)
  have hx3 := hx.old hb3 (blk_lt hx)
  have hres3 := hres.old hb3 (blk_lt hres)
  have hgl := blk_lt hres
  have hbb := bnx hb hb3
  rw [HS.out] at y1
  have c3 := (hb3.cell (p := ⟨w.heap.size, 0, none⟩) (blk_lt hx)).trans c0
  clear hb hb3 hx hres c0 Hc0
  generalize (((w.alloc (.cells (ubL V a).toArray 35)).alloc (.cells #[.int .i64 0, .int .i64 0, .int .i64 0, .int .i64 0, .int .i64 0, .int .i64 0, .int .i64 0, .int .i64 0, .int .i64 0, .int .i64 0, .int .i64 0, .int .i64 0, .int .i64 0, .int .i64 0, .int .i64 0, .int .i64 0, .int .i64 0, .int .i64 0, .int .i64 0, .int .i64 0, .int .i64 0, .int .i64 0, .int .i64 0, .int .i64 0, .int .i64 0, .int .i64 0, .int .i64 0, .int .i64 0, .int .i64 0, .int .i64 0, .int .i64 0, .int .i64 0, .int .i64 0, .int .i64 0, .slice none 0 0, .int .i64 0, .int .i64 0, .int .i64 0, .int .i64 0, .int .i64 0, .int .i64 0, .int .i64 0, .int .i64 0, .bool false, .int .i64 0, .int .i64 0, .int .i64 0, .slice none 0 0] 35)).alloc (.cells #[.int .i64 0, .int .i64 0, .int .i64 0, .int .i64 0, .int .i64 0, .int .i64 0, .int .i64 0, .int .i64 0, .int .i64 0, .int .i64 0, .int .i64 0, .int .i64 0, .int .i64 0, .int .i64 0, .int .i64 0, .int .i64 0, .int .i64 0, .int .i64 0, .int .i64 0, .int .i64 0, .int .i64 0, .int .i64 0, .int .i64 0, .int .i64 0, .int .i64 0, .int .i64 0, .int .i64 0, .int .i64 0, .int .i64 0, .int .i64 0, .int .i64 0, .int .i64 0, .int .i64 0, .int .i64 0, .slice none 0 0, .int .i64 0, .int .i64 0, .int .i64 0, .int .i64 0, .int .i64 0, .int .i64 0, .int .i64 0, .int .i64 0, .bool false, .int .i64 0, .int .i64 0, .int .i64 0, .slice none 0 0] 35)) = w1 at *
  refine go_ (wpList_store_row rfl _ _ _ rfl (w.heap.size + 1 + 1) (ubL { ub0 with k := 2 } ua0).toArray rfl rfl _ _ y1 (ub_size _ _ rfl rfl) (ub_sizes (V := ub0) (a := ua0) rfl rfl rfl rfl) (ub_one _ _) ?_)
  have hm5 : UbB _ (w.heap.size + 1 + 1) { ub0 with k := 2 } ua0 := setRow_heap _ _ _ (ubL { ub0 with k := 2 } ua0).toArray _ _ y1
  have haw : Aw (fun k => k = (w.heap.size + 1 + 1)) w1 (w1.setRow (w.heap.size + 1 + 1) (ubL { ub0 with k := 2 } ua0).toArray) := aw_setRow20 _ _
  have hx : UbB _ w.heap.size V a := haw.keep hx3 (by omega)
  have hres : UbB _ (w.heap.size + 1) ub0 ua0 := haw.keep hres3 (by omega)
  have hb := below_aw20 hbb haw (fun k hk => by rw [hk]; omega) hbb.size
  have c0 := hx.kc
  rw [show V.k = 2 from HKK.out] at c0
  generalize w1.setRow (w.heap.size + 1 + 1) (ubL { ub0 with k := 2 } ua0).toArray = w2 at *
  clear haw y1 hx3 hres3 hbb c3
  obtain ⟨i0, hi⟩ := info_parts sat_info
  have Hi := Lib.hid hi
  clear hi
  have hrl : V.l.length = a.n := by have := hr.s.1; rwa [List.length_map] at this
  have Hrl := Lib.hid hrl
  clear hrl
  go_wp2_with fail
  refine Ord.region_ (fun w' => UbB w' w.heap.size V a) false [] (by kernel_rfl) (by kernel_rfl) (hx.old (Below.refl w2.heap.size w2).drew (blk_lt hx)) ?_
  have hd := (Below.refl w2.heap.size w2).drew
  replace hx := hx.old hd (blk_lt hx)
  replace hres := hres.old hd (blk_lt hres)
  replace hm5 := hm5.old hd (blk_lt hm5)
  replace hb := bnx hb hd
  have hr2 := hr.up hb
  generalize w2.drew = w3 at *
  clear hd c0 hr
  repeat (first | (refine Ord.e_p (v := ?_) rfl (by rfl) ?_ ?_; rotate_left; · (intro w2; go_simp; try with_reducible rfl)) | (refine Ord.e_u (by rfl) ?_)); (try simp only [Act.put, List.setIfInBounds_toArray, List.set_cons_zero, List.set_cons_succ])
  refine Ord.e_loadS Tryz.underlying2 rfl (fun w' hS => (show UbB w' _ V a from hS).tc Hok.out.pl) hx rfl (by rfl) ?_
  (try simp only [Act.put, List.setIfInBounds_toArray, List.set_cons_zero, List.set_cons_succ])
  refine Ord.e_x rfl (by kernel_rfl) ?_
  go_wp2_with fail
  have owe := own_empty w3 w3.heap.size 99 (Nat.le_refl _) 7
  have hba : Below w3.heap.size w3 (w3.alloc (.cells #[] 99)) := (Below.refl _ _).alloc (Nat.le_refl _) _
  replace hx := hx.old hba (blk_lt hx)
  replace hres := hres.old hba (blk_lt hres)
  have hg3 := blk_lt hm5
  replace hm5 := hm5.old hba hg3
  replace hr2 := hr2.up (hba.mono hb.size)
  have hbw := bnx hb hba
  have hsz := hba.size
  refine Ord.Seg.go hx (fun h => by cases h) ?_
  (try simp only [Act.put, List.setIfInBounds_toArray, List.set_cons_zero, List.set_cons_succ])
  generalize (w3.alloc (.cells #[] 99)) = w4 at *
  clear hb
  ((with_reducible refine Ord.e_p (v := ?_) ?_ ?_ ?_ ?_); rotate_left; (· exact rfl); (· kernel_rfl); (· intro w2; go_simp; try with_reducible rfl))
  (try simp only [Act.put, List.setIfInBounds_toArray, List.set_cons_zero, List.set_cons_succ])
  ((with_reducible refine Ord.e_p (v := ?_) ?_ ?_ ?_ ?_); rotate_left; (· exact rfl); (· kernel_rfl); (· intro w2; go_simp; try with_reducible rfl))
  (try simp only [Act.put, List.setIfInBounds_toArray, List.set_cons_zero, List.set_cons_succ])
  refine Ord.e_loadS Tryz.underlying24 rfl (fun w' hS => (show UbB w' _ V a from hS).lc Hok.out.pl) hx rfl (by rfl) ?_
  (try simp only [Act.put, List.setIfInBounds_toArray, List.set_cons_zero, List.set_cons_succ])
  refine Ord.e_x rfl (by kernel_rfl) ?_
  refine wpList_appG (base := w3.heap.size) (n := 0) Tryz.underlying24 Hi.out (by kernel_rfl) (by omega) owe rfl (RdR.rd hr2.s (by omega)) rfl (saC_oneL V.l) (k := a.n) (ys := (V.l.map saC).flatten) (Nat.zero_add _) (List.nil_append _) (by unfold maxLen; omega) (by omega) hsz ?_
  intro A5 c5 v5 hown3 hgr hob
  have hb5 : Below w3.heap.size w4 v5 := Below.grown (Below.refl _ _ |>.mono hsz) hgr hsz (fun j hj => (own_blk owe hj).1)
  replace hx := hx.old hb5 (by omega)
  replace hres := hres.old hb5 (by omega)
  replace hm5 := hm5.old hb5 hg3
  have hb := hbw.trans (hb5.mono (by omega))
  clear hgr hob owe hba hr2 hbw
  go_wp2_with fail
  refine Ord.Seg.go hx (fun h => by cases h) ?_
  (try simp only [Act.put, List.setIfInBounds_toArray, List.set_cons_zero, List.set_cons_succ])
  ((with_reducible refine Ord.e_p (v := ?_) ?_ ?_ ?_ ?_); rotate_left; (· exact rfl); (· kernel_rfl); (· intro w2; go_simp; try with_reducible rfl))
  (try simp only [Act.put, List.setIfInBounds_toArray, List.set_cons_zero, List.set_cons_succ])
  ((with_reducible refine Ord.e_p (v := ?_) ?_ ?_ ?_ ?_); rotate_left; (· exact rfl); (· kernel_rfl); (· intro w2; go_simp; try with_reducible rfl))
  (try simp only [Act.put, List.setIfInBounds_toArray, List.set_cons_zero, List.set_cons_succ])
  refine Ord.e_x rfl (by kernel_rfl) ?_
  refine wpList_store_mid rfl _ _ _ rfl (w.heap.size + 1 + 1) 33 (saS V.t A5 a.n c5).toArray rfl rfl (hm5.there rfl rfl (by show 33 + 2 ≤ 48; omega)) (by kernel_rfl) (all_oneCell_toArray (saS_one _ _ _ _)) ?_
  obtain ⟨ho2, haw⟩ := hm5.set (ubL_sets (V := { ub0 with k := 2 }) rfl (t := V.t) (A := A5) (n := a.n) (c := c5))
  replace ho2 : UbB (v5.setCells (w.heap.size + 1 + 1) 33 (saS V.t A5 a.n c5)) (w.heap.size + 1 + 1) { ub0 with k := 2, t := V.t, l := V.l } { ua0 with A := A5, n := a.n, c := c5 } := ho2
  rw [← HP.out] at ho2
  have hr4 := rdr_aw (RdR.own (ls := V.l.map saC) hown3 (by rw [List.length_map]; exact Hrl.out) (fun r hr => by obtain ⟨s, hs, rfl⟩ := List.mem_map.1 hr; exact (by unfold saC; rw [List.length_map]; exact Hok.out.ll s hs))) (Nat.le_refl _) haw (fun p hp => by subst hp; have := (own_blk hown3 rfl).1; omega)
  have hfg : ∀ p, A5 = some p → (w.heap.size + 1 + 1) < p.block := fun p hp => by subst hp; have := (own_blk hown3 rfl).1; omega
  have hf5 : ∀ p, UbA.A { ua0 with A := A5, n := a.n, c := c5 } = some p ∨ UbA.A' { ua0 with A := A5, n := a.n, c := c5 } = some p → (w.heap.size + 1 + 1) < p.block := (fun p hp => by rcases hp with hp | hp; exact hfg p hp; cases hp)
  have hr5 : UbR (v5.setCells (w.heap.size + 1 + 1) 33 (saS V.t A5 a.n c5)) (v5.setCells (w.heap.size + 1 + 1) 33 (saS V.t A5 a.n c5)).heap.size UP { ua0 with A := A5, n := a.n, c := c5 } := by rw [HP.out]; exact ⟨hr4, RdR.none_ _ _ 2⟩
  replace hx := haw.keep hx (by omega)
  replace hres := haw.keep hres (by omega)
  replace hb := below_aw20 hb haw (fun k hk => by rw [hk]; omega) hb.size
  simp only [List.toList_toArray]
  generalize v5.setCells (w.heap.size + 1 + 1) 33 (saS V.t A5 a.n c5) = w5 at *
  generalize ({ ua0 with A := A5, n := a.n, c := c5 } : UbA) = a5 at *
  go_wp2_with fail
  refine Ord.Seg.go hx (fun h => by cases h) ?_
  (try simp only [Act.put, List.setIfInBounds_toArray, List.set_cons_zero, List.set_cons_succ])
  refine Ord.e_nil ?_
  clear hm5 hown3 haw hr4 hfg hb5 hx
  have hm5 := ho2
  clear ho2
  go_wp2_with (first | (with_reducible refine stop_loadT 35 ?_) | (with_reducible refine stop_storeT 35 ?_) | (with_reducible refine stop_loadG 35 ?_))
  refine go_ (wpList_load_row rfl _ _ rfl (w.heap.size + 1 + 1) rfl _ _ _ _ hm5 Tryz.underlying35 rfl (ub_size UP a5 HL.out.1 HL.out.2) ?_)
  go_wp2_with (first | (with_reducible refine stop_loadT 35 ?_) | (with_reducible refine stop_storeT 35 ?_) | (with_reducible refine stop_loadG 35 ?_))
  refine go_ (wpList_store_row rfl _ _ _ rfl (w.heap.size + 1) (ubL UP a5).toArray rfl rfl _ _ hres (ub_size UP a5 HL.out.1 HL.out.2) (ub_sizes rfl rfl HL.out.1 HL.out.2) (ub_one UP a5) ?_)
  have hres2 := setRow_heap _ _ _ (ubL UP a5).toArray _ _ hres
  have haw : Aw (fun k => k = w.heap.size + 1) w5 (w5.setRow (w.heap.size + 1) (ubL UP a5).toArray) := aw_setRow20 _ _
  have hb6 := below_aw20 hb haw (fun k hk => by rw [hk]; omega) hb.size
  have hr6 := ubr_aw hr5 haw (fun p hp => by have := hf5 p hp; omega)
  generalize w5.setRow (w.heap.size + 1) (ubL UP a5).toArray = w6 at *
  go_wp2
  exact bodyPost_ret (results_cell_row rfl _ _ (w.heap.size + 1) _ _ _ _ rfl hres2 Tryz.underlying35 rfl (ub_size UP a5 HL.out.1 HL.out.2)) rfl ⟨a5, rfl, hr6, hb6⟩

set_option maxRecDepth 10000 in
set_option maxHeartbeats 4000000 in
theorem qubPlain_5 (V : UbV) (a : UbA) (h : UbOk V) (w : World) (hr : UbR w w.heap.size V a) (hn : a.n ≤ 1000 ∧ a.n' ≤ 1000) (hk : V.k = 5) :
    Calls Tryz.prog 16 #[.agg (ubL V a).toArray] w (RetUP w (ubPlain V)) := by
  obtain ⟨UP, hUP⟩ : ∃ UP, UP = ubPlain V := ⟨_, rfl⟩
  have HL : Hid (UP.p.length = 32 ∧ UP.d.length = 8) := Lib.hid (by rw [hUP]; exact ⟨(ubPlain_ok h).pl, (ubPlain_ok h).dl⟩)
  have HP : Hid (UP = { ub0 with k := 5, la := V.la, q := V.q }) := Lib.hid (by rw [hUP]; simp [ubPlain, hk])
  have Hok := Lib.hid h
  have HKK := Lib.hid hk
  have HU := Lib.hid hUP
  rw [← hUP]
  obtain ⟨x0, x1, hs, hb⟩ := al2 w (.cells (ubL V a).toArray 35) (.cells #[.int .i64 0, .int .i64 0, .int .i64 0, .int .i64 0, .int .i64 0, .int .i64 0, .int .i64 0, .int .i64 0, .int .i64 0, .int .i64 0, .int .i64 0, .int .i64 0, .int .i64 0, .int .i64 0, .int .i64 0, .int .i64 0, .int .i64 0, .int .i64 0, .int .i64 0, .int .i64 0, .int .i64 0, .int .i64 0, .int .i64 0, .int .i64 0, .int .i64 0, .int .i64 0, .int .i64 0, .int .i64 0, .int .i64 0, .int .i64 0, .int .i64 0, .int .i64 0, .int .i64 0, .int .i64 0, .slice none 0 0, .int .i64 0, .int .i64 0, .int .i64 0, .int .i64 0, .int .i64 0, .int .i64 0, .int .i64 0, .int .i64 0, .bool false, .int .i64 0, .int .i64 0, .int .i64 0, .slice none 0 0] 35)
  have hx : UbB ((w.alloc (.cells (ubL V a).toArray 35)).alloc (.cells #[.int .i64 0, .int .i64 0, .int .i64 0, .int .i64 0, .int .i64 0, .int .i64 0, .int .i64 0, .int .i64 0, .int .i64 0, .int .i64 0, .int .i64 0, .int .i64 0, .int .i64 0, .int .i64 0, .int .i64 0, .int .i64 0, .int .i64 0, .int .i64 0, .int .i64 0, .int .i64 0, .int .i64 0, .int .i64 0, .int .i64 0, .int .i64 0, .int .i64 0, .int .i64 0, .int .i64 0, .int .i64 0, .int .i64 0, .int .i64 0, .int .i64 0, .int .i64 0, .int .i64 0, .int .i64 0, .slice none 0 0, .int .i64 0, .int .i64 0, .int .i64 0, .int .i64 0, .int .i64 0, .int .i64 0, .int .i64 0, .int .i64 0, .bool false, .int .i64 0, .int .i64 0, .int .i64 0, .slice none 0 0] 35)) w.heap.size V a := x0
  have hres : UbB ((w.alloc (.cells (ubL V a).toArray 35)).alloc (.cells #[.int .i64 0, .int .i64 0, .int .i64 0, .int .i64 0, .int .i64 0, .int .i64 0, .int .i64 0, .int .i64 0, .int .i64 0, .int .i64 0, .int .i64 0, .int .i64 0, .int .i64 0, .int .i64 0, .int .i64 0, .int .i64 0, .int .i64 0, .int .i64 0, .int .i64 0, .int .i64 0, .int .i64 0, .int .i64 0, .int .i64 0, .int .i64 0, .int .i64 0, .int .i64 0, .int .i64 0, .int .i64 0, .int .i64 0, .int .i64 0, .int .i64 0, .int .i64 0, .int .i64 0, .int .i64 0, .slice none 0 0, .int .i64 0, .int .i64 0, .int .i64 0, .int .i64 0, .int .i64 0, .int .i64 0, .int .i64 0, .int .i64 0, .bool false, .int .i64 0, .int .i64 0, .int .i64 0, .slice none 0 0] 35)) (w.heap.size + 1) ub0 ua0 := x1
  have HS := Lib.hid hs
  clear hUP x0 x1 hs
  have c0 := hx.kc
  rw [hk] at c0
  have Hc0 := Lib.hid c0
  clear hk h
  go_enter Tryz.func16, Tryz.ntmps16
  go_wp2_with (first | (with_reducible refine stop_loadT 35 ?_) | (with_reducible refine stop_storeT 35 ?_) | (with_reducible refine stop_loadG 35 ?_))
  have y1 := heap_alloc_new ((w.alloc (.cells (ubL V a).toArray 35)).alloc (.cells #[.int .i64 0, .int .i64 0, .int .i64 0, .int .i64 0, .int .i64 0, .int .i64 0, .int .i64 0, .int .i64 0, .int .i64 0, .int .i64 0, .int .i64 0, .int .i64 0, .int .i64 0, .int .i64 0, .int .i64 0, .int .i64 0, .int .i64 0, .int .i64 0, .int .i64 0, .int .i64 0, .int .i64 0, .int .i64 0, .int .i64 0, .int .i64 0, .int .i64 0, .int .i64 0, .int .i64 0, .int .i64 0, .int .i64 0, .int .i64 0, .int .i64 0, .int .i64 0, .int .i64 0, .int .i64 0, .slice none 0 0, .int .i64 0, .int .i64 0, .int .i64 0, .int .i64 0, .int .i64 0, .int .i64 0, .int .i64 0, .int .i64 0, .bool false, .int .i64 0, .int .i64 0, .int .i64 0, .slice none 0 0] 35)) (.cells #[.int .i64 0, .int .i64 0, .int .i64 0, .int .i64 0, .int .i64 0, .int .i64 0, .int .i64 0, .int .i64 0, .int .i64 0, .int .i64 0, .int .i64 0, .int .i64 0, .int .i64 0, .int .i64 0, .int .i64 0, .int .i64 0, .int .i64 0, .int .i64 0, .int .i64 0, .int .i64 0, .int .i64 0, .int .i64 0, .int .i64 0, .int .i64 0, .int .i64 0, .int .i64 0, .int .i64 0, .int .i64 0, .int .i64 0, .int .i64 0, .int .i64 0, .int .i64 0, .int .i64 0, .int .i64 0, .slice none 0 0, .int .i64 0, .int .i64 0, .int .i64 0, .int .i64 0, .int .i64 0, .int .i64 0, .int .i64 0, .int .i64 0, .bool false, .int .i64 0, .int .i64 0, .int .i64 0, .slice none 0 0] 35)
  have hb3 := (Below.refl ((w.alloc (.cells (ubL V a).toArray 35)).alloc (.cells #[.int .i64 0, .int .i64 0, .int .i64 0, .int .i64 0, .int .i64 0, .int .i64 0, .int .i64 0, .int .i64 0, .int .i64 0, .int .i64 0, .int .i64 0, .int .i64 0, .int .i64 0, .int .i64 0, .int .i64 0, .int .i64 0, .int .i64 0, .int .i64 0, .int .i64 0, .int .i64 0, .int .i64 0, .int .i64 0, .int .i64 0, .int .i64 0, .int .i64 0, .int .i64 0, .int .i64 0, .int .i64 0, .int .i64 0, .int .i64 0, .int .i64 0, .int .i64 0, .int .i64 0, .int .i64 0, .slice none 0 0, .int .i64 0, .int .i64 0, .int .i64 0, .int .i64 0, .int .i64 0, .int .i64 0, .int .i64 0, .int .i64 0, .bool false, .int .i64 0, .int .i64 0, .int .i64 0, .slice none 0 0] 35)).heap.size ((w.alloc (.cells (ubL V a).toArray 35)).alloc (.cells #[.int .i64 0, .int .i64 0, .int .i64 0, .int .i64 0, .int .i64 0, .int .i64 0, .int .i64 0, .int .i64 0, .int .i64 0, .int .i64 0, .int .i64 0, .int .i64 0, .int .i64 0, .int .i64 0, .int .i64 0, .int .i64 0, .int .i64 0, .int .i64 0, .int .i64 0, .int .i64 0, .int .i64 0, .int .i64 0, .int .i64 0, .int .i64 0, .int .i64 0, .int .i64 0, .int .i64 0, .int .i64 0, .int .i64 0, .int .i64 0, .int .i64 0, .int .i64 0, .int .i64 0, .int .i64 0, .slice none 0 0, .int .i64 0, .int .i64 0, .int .i64 0, .int .i64 0, .int .i64 0, .int .i64 0, .int .i64 0, .int .i64 0, .bool false, .int .i64 0, .int .i64 0, .int .i64 0, .slice none 0 0] 35))).alloc (Nat.le_refl _) (.cells #[.int .i64 0, .int .i64 0, .int .i64 0, .int .i64 0, .int .i64 0, .int .i64 0, .int .i64 0, .int .i64 0, .int .i64 0, .int .i64 0, .int .i64 0, .int .i64 0, .int .i64 0, .int .i64 0, .int .i64 0, .int .i64 0, .int .i64 0, .int .i64 0, .int .i64 0, .int .i64 0, .int .i64 0, .int .i64 0, .int .i64 0, .int .i64 0, .int .i64 0, .int .i64 0, .int .i64 0, .int .i64 0, .int .i64 0, .int .i64 0, .int .i64 0, .int .i64 0, .int .i64 0, .int .i64 0, .slice none 0 0, .int .i64 0, .int .i64 0, .int .i64 0, .int .i64 0, .int .i64 0, .int .i64 0, .int .i64 0, .int .i64 0, .bool false, .int .i64 0, .int .i64 0, .int .i64 0, .slice none 0 0] 35)
  have hx3 := hx.old hb3 (blk_lt hx)
  have hres3 := hres.old hb3 (blk_lt hres)
  have hgl := blk_lt hres
  have hbb := bnx hb hb3
  rw [HS.out] at y1
  have c3 := (hb3.cell (p := ⟨w.heap.size, 0, none⟩) (blk_lt hx)).trans c0
  clear hb hb3 hx hres c0 Hc0
  generalize (((w.alloc (.cells (ubL V a).toArray 35)).alloc (.cells #[.int .i64 0, .int .i64 0, .int .i64 0, .int .i64 0, .int .i64 0, .int .i64 0, .int .i64 0, .int .i64 0, .int .i64 0, .int .i64 0, .int .i64 0, .int .i64 0, .int .i64 0, .int .i64 0, .int .i64 0, .int .i64 0, .int .i64 0, .int .i64 0, .int .i64 0, .int .i64 0, .int .i64 0, .int .i64 0, .int .i64 0, .int .i64 0, .int .i64 0, .int .i64 0, .int .i64 0, .int .i64 0, .int .i64 0, .int .i64 0, .int .i64 0, .int .i64 0, .int .i64 0, .int .i64 0, .slice none 0 0, .int .i64 0, .int .i64 0, .int .i64 0, .int .i64 0, .int .i64 0, .int .i64 0, .int .i64 0, .int .i64 0, .bool false, .int .i64 0, .int .i64 0, .int .i64 0, .slice none 0 0] 35)).alloc (.cells #[.int .i64 0, .int .i64 0, .int .i64 0, .int .i64 0, .int .i64 0, .int .i64 0, .int .i64 0, .int .i64 0, .int .i64 0, .int .i64 0, .int .i64 0, .int .i64 0, .int .i64 0, .int .i64 0, .int .i64 0, .int .i64 0, .int .i64 0, .int .i64 0, .int .i64 0, .int .i64 0, .int .i64 0, .int .i64 0, .int .i64 0, .int .i64 0, .int .i64 0, .int .i64 0, .int .i64 0, .int .i64 0, .int .i64 0, .int .i64 0, .int .i64 0, .int .i64 0, .int .i64 0, .int .i64 0, .slice none 0 0, .int .i64 0, .int .i64 0, .int .i64 0, .int .i64 0, .int .i64 0, .int .i64 0, .int .i64 0, .int .i64 0, .bool false, .int .i64 0, .int .i64 0, .int .i64 0, .slice none 0 0] 35)) = w1 at *
  refine go_ (wpList_store_row rfl _ _ _ rfl (w.heap.size + 1 + 1) (ubL { ub0 with k := 5 } ua0).toArray rfl rfl _ _ y1 (ub_size _ _ rfl rfl) (ub_sizes (V := ub0) (a := ua0) rfl rfl rfl rfl) (ub_one _ _) ?_)
  have hm5 : UbB _ (w.heap.size + 1 + 1) { ub0 with k := 5 } ua0 := setRow_heap _ _ _ (ubL { ub0 with k := 5 } ua0).toArray _ _ y1
  have haw : Aw (fun k => k = (w.heap.size + 1 + 1)) w1 (w1.setRow (w.heap.size + 1 + 1) (ubL { ub0 with k := 5 } ua0).toArray) := aw_setRow20 _ _
  have hx : UbB _ w.heap.size V a := haw.keep hx3 (by omega)
  have hres : UbB _ (w.heap.size + 1) ub0 ua0 := haw.keep hres3 (by omega)
  have hb := below_aw20 hbb haw (fun k hk => by rw [hk]; omega) hbb.size
  have c0 := hx.kc
  rw [show V.k = 5 from HKK.out] at c0
  generalize w1.setRow (w.heap.size + 1 + 1) (ubL { ub0 with k := 5 } ua0).toArray = w2 at *
  clear haw y1 hx3 hres3 hbb c3
  obtain ⟨i0, hi⟩ := info_parts pair_info
  have Hi := Lib.hid hi
  clear hi
  have hrl : V.q.length = a.n' := by have := hr.q.1; rwa [List.length_map] at this
  have Hrl := Lib.hid hrl
  clear hrl
  go_wp2_with fail
  refine Ord.region_ (fun w' => UbB w' w.heap.size V a) false [] (by kernel_rfl) (by kernel_rfl) (hx.old (Below.refl w2.heap.size w2).drew (blk_lt hx)) ?_
  have hd := (Below.refl w2.heap.size w2).drew
  replace hx := hx.old hd (blk_lt hx)
  replace hres := hres.old hd (blk_lt hres)
  replace hm5 := hm5.old hd (blk_lt hm5)
  replace hb := bnx hb hd
  have hr2 := hr.up hb
  generalize w2.drew = w3 at *
  clear hd c0 hr
  repeat (first | (refine Ord.e_p (v := ?_) rfl (by rfl) ?_ ?_; rotate_left; · (intro w2; go_simp; try with_reducible rfl)) | (refine Ord.e_u (by rfl) ?_)); (try simp only [Act.put, List.setIfInBounds_toArray, List.set_cons_zero, List.set_cons_succ])
  refine Ord.e_loadS Tryz.underlying2 rfl (fun w' hS => (show UbB w' _ V a from hS).lac Hok.out.pl Hok.out.dl) hx rfl (by rfl) ?_
  (try simp only [Act.put, List.setIfInBounds_toArray, List.set_cons_zero, List.set_cons_succ])
  refine Ord.e_x rfl (by kernel_rfl) ?_
  go_wp2_with fail
  have owe := own_empty w3 w3.heap.size 103 (Nat.le_refl _) 2
  have hba : Below w3.heap.size w3 (w3.alloc (.cells #[] 103)) := (Below.refl _ _).alloc (Nat.le_refl _) _
  replace hx := hx.old hba (blk_lt hx)
  replace hres := hres.old hba (blk_lt hres)
  have hg3 := blk_lt hm5
  replace hm5 := hm5.old hba hg3
  replace hr2 := hr2.up (hba.mono hb.size)
  have hbw := bnx hb hba
  have hsz := hba.size
  refine Ord.Seg.go hx (fun h => by cases h) ?_
  (try simp only [Act.put, List.setIfInBounds_toArray, List.set_cons_zero, List.set_cons_succ])
  generalize (w3.alloc (.cells #[] 103)) = w4 at *
  clear hb
  ((with_reducible refine Ord.e_p (v := ?_) ?_ ?_ ?_ ?_); rotate_left; (· exact rfl); (· kernel_rfl); (· intro w2; go_simp; try with_reducible rfl))
  (try simp only [Act.put, List.setIfInBounds_toArray, List.set_cons_zero, List.set_cons_succ])
  ((with_reducible refine Ord.e_p (v := ?_) ?_ ?_ ?_ ?_); rotate_left; (· exact rfl); (· kernel_rfl); (· intro w2; go_simp; try with_reducible rfl))
  (try simp only [Act.put, List.setIfInBounds_toArray, List.set_cons_zero, List.set_cons_succ])
  refine Ord.e_loadS Tryz.underlying31 rfl (fun w' hS => (show UbB w' _ V a from hS).qc Hok.out.pl Hok.out.dl) hx rfl (by rfl) ?_
  (try simp only [Act.put, List.setIfInBounds_toArray, List.set_cons_zero, List.set_cons_succ])
  refine Ord.e_x rfl (by kernel_rfl) ?_
  refine wpList_appG (base := w3.heap.size) (n := 0) Tryz.underlying31 Hi.out (by kernel_rfl) (by omega) owe rfl (RdR.rd hr2.q (by omega)) rfl (prC_oneL V.q) (k := a.n') (ys := (V.q.map prC).flatten) (Nat.zero_add _) (List.nil_append _) (by unfold maxLen; omega) (by omega) hsz ?_
  intro A5 c5 v5 hown3 hgr hob
  have hb5 : Below w3.heap.size w4 v5 := Below.grown (Below.refl _ _ |>.mono hsz) hgr hsz (fun j hj => (own_blk owe hj).1)
  replace hx := hx.old hb5 (by omega)
  replace hres := hres.old hb5 (by omega)
  replace hm5 := hm5.old hb5 hg3
  have hb := hbw.trans (hb5.mono (by omega))
  clear hgr hob owe hba hr2 hbw
  go_wp2_with fail
  refine Ord.Seg.go hx (fun h => by cases h) ?_
  (try simp only [Act.put, List.setIfInBounds_toArray, List.set_cons_zero, List.set_cons_succ])
  ((with_reducible refine Ord.e_p (v := ?_) ?_ ?_ ?_ ?_); rotate_left; (· exact rfl); (· kernel_rfl); (· intro w2; go_simp; try with_reducible rfl))
  (try simp only [Act.put, List.setIfInBounds_toArray, List.set_cons_zero, List.set_cons_succ])
  ((with_reducible refine Ord.e_p (v := ?_) ?_ ?_ ?_ ?_); rotate_left; (· exact rfl); (· kernel_rfl); (· intro w2; go_simp; try with_reducible rfl))
  (try simp only [Act.put, List.setIfInBounds_toArray, List.set_cons_zero, List.set_cons_succ])
  refine Ord.e_x rfl (by kernel_rfl) ?_
  refine wpList_store_mid rfl _ _ _ rfl (w.heap.size + 1 + 1) 46 (saS V.la A5 a.n' c5).toArray rfl rfl (hm5.there rfl rfl (by show 46 + 2 ≤ 48; omega)) (by kernel_rfl) (all_oneCell_toArray (saS_one _ _ _ _)) ?_
  obtain ⟨ho2, haw⟩ := hm5.set (ubL_setq (V := { ub0 with k := 5 }) rfl rfl (t := V.la) (A := A5) (n := a.n') (c := c5))
  replace ho2 : UbB (v5.setCells (w.heap.size + 1 + 1) 46 (saS V.la A5 a.n' c5)) (w.heap.size + 1 + 1) { ub0 with k := 5, la := V.la, q := V.q } { ua0 with A' := A5, n' := a.n', c' := c5 } := ho2
  rw [← HP.out] at ho2
  have hr4 := rdr_aw (RdR.own (ls := V.q.map prC) hown3 (by rw [List.length_map]; exact Hrl.out) (fun r hr => by obtain ⟨s, hs, rfl⟩ := List.mem_map.1 hr; exact (rfl))) (Nat.le_refl _) haw (fun p hp => by subst hp; have := (own_blk hown3 rfl).1; omega)
  have hfg : ∀ p, A5 = some p → (w.heap.size + 1 + 1) < p.block := fun p hp => by subst hp; have := (own_blk hown3 rfl).1; omega
  have hf5 : ∀ p, UbA.A { ua0 with A' := A5, n' := a.n', c' := c5 } = some p ∨ UbA.A' { ua0 with A' := A5, n' := a.n', c' := c5 } = some p → (w.heap.size + 1 + 1) < p.block := (fun p hp => by rcases hp with hp | hp; cases hp; exact hfg p hp)
  have hr5 : UbR (v5.setCells (w.heap.size + 1 + 1) 46 (saS V.la A5 a.n' c5)) (v5.setCells (w.heap.size + 1 + 1) 46 (saS V.la A5 a.n' c5)).heap.size UP { ua0 with A' := A5, n' := a.n', c' := c5 } := by rw [HP.out]; exact ⟨RdR.none_ _ _ 7, hr4⟩
  replace hx := haw.keep hx (by omega)
  replace hres := haw.keep hres (by omega)
  replace hb := below_aw20 hb haw (fun k hk => by rw [hk]; omega) hb.size
  simp only [List.toList_toArray]
  generalize v5.setCells (w.heap.size + 1 + 1) 46 (saS V.la A5 a.n' c5) = w5 at *
  generalize ({ ua0 with A' := A5, n' := a.n', c' := c5 } : UbA) = a5 at *
  go_wp2_with fail
  refine Ord.Seg.go hx (fun h => by cases h) ?_
  (try simp only [Act.put, List.setIfInBounds_toArray, List.set_cons_zero, List.set_cons_succ])
  refine Ord.e_nil ?_
  clear hm5 hown3 haw hr4 hfg hb5 hx
  have hm5 := ho2
  clear ho2
  go_wp2_with (first | (with_reducible refine stop_loadT 35 ?_) | (with_reducible refine stop_storeT 35 ?_) | (with_reducible refine stop_loadG 35 ?_))
  refine go_ (wpList_load_row rfl _ _ rfl (w.heap.size + 1 + 1) rfl _ _ _ _ hm5 Tryz.underlying35 rfl (ub_size UP a5 HL.out.1 HL.out.2) ?_)
  go_wp2_with (first | (with_reducible refine stop_loadT 35 ?_) | (with_reducible refine stop_storeT 35 ?_) | (with_reducible refine stop_loadG 35 ?_))
  refine go_ (wpList_store_row rfl _ _ _ rfl (w.heap.size + 1) (ubL UP a5).toArray rfl rfl _ _ hres (ub_size UP a5 HL.out.1 HL.out.2) (ub_sizes rfl rfl HL.out.1 HL.out.2) (ub_one UP a5) ?_)
  have hres2 := setRow_heap _ _ _ (ubL UP a5).toArray _ _ hres
  have haw : Aw (fun k => k = w.heap.size + 1) w5 (w5.setRow (w.heap.size + 1) (ubL UP a5).toArray) := aw_setRow20 _ _
  have hb6 := below_aw20 hb haw (fun k hk => by rw [hk]; omega) hb.size
  have hr6 := ubr_aw hr5 haw (fun p hp => by have := hf5 p hp; omega)
  generalize w5.setRow (w.heap.size + 1) (ubL UP a5).toArray = w6 at *
  go_wp2
  exact bodyPost_ret (results_cell_row rfl _ _ (w.heap.size + 1) _ _ _ _ rfl hres2 Tryz.underlying35 rfl (ub_size UP a5 HL.out.1 HL.out.2)) rfl ⟨a5, rfl, hr6, hb6⟩

set_option maxRecDepth 10000 in
set_option maxHeartbeats 4000000 in
theorem qubPlain_0 (V : UbV) (a : UbA) (h : UbOk V) (w : World) (hr : UbR w w.heap.size V a) (hn : a.n ≤ 1000 ∧ a.n' ≤ 1000) (hk : V.k ≠ 1 ∧ V.k ≠ 2 ∧ V.k ≠ 3 ∧ V.k ≠ 4 ∧ V.k ≠ 5) :
    Calls Tryz.prog 16 #[.agg (ubL V a).toArray] w (RetUP w (ubPlain V)) := by
  obtain ⟨UP, hUP⟩ : ∃ UP, UP = ubPlain V := ⟨_, rfl⟩
  have HL : Hid (UP.p.length = 32 ∧ UP.d.length = 8) := Lib.hid (by rw [hUP]; exact ⟨(ubPlain_ok h).pl, (ubPlain_ok h).dl⟩)
  have hU0 : UP = { ub0 with k := V.k } := by obtain ⟨k1, k2, k3, k4, k5⟩ := hk; rw [hUP]; simp [ubPlain, k1, k2, k3, k4, k5]
  have HU0 := Lib.hid hU0
  clear hU0
  obtain ⟨k1, k2, k3, k4, k5⟩ := hk
  have Hok := Lib.hid h
  have HU := Lib.hid hUP
  rw [← hUP]
  obtain ⟨x0, x1, hs, hb⟩ := al2 w (.cells (ubL V a).toArray 35) (.cells #[.int .i64 0, .int .i64 0, .int .i64 0, .int .i64 0, .int .i64 0, .int .i64 0, .int .i64 0, .int .i64 0, .int .i64 0, .int .i64 0, .int .i64 0, .int .i64 0, .int .i64 0, .int .i64 0, .int .i64 0, .int .i64 0, .int .i64 0, .int .i64 0, .int .i64 0, .int .i64 0, .int .i64 0, .int .i64 0, .int .i64 0, .int .i64 0, .int .i64 0, .int .i64 0, .int .i64 0, .int .i64 0, .int .i64 0, .int .i64 0, .int .i64 0, .int .i64 0, .int .i64 0, .int .i64 0, .slice none 0 0, .int .i64 0, .int .i64 0, .int .i64 0, .int .i64 0, .int .i64 0, .int .i64 0, .int .i64 0, .int .i64 0, .bool false, .int .i64 0, .int .i64 0, .int .i64 0, .slice none 0 0] 35)
  have hx : UbB ((w.alloc (.cells (ubL V a).toArray 35)).alloc (.cells #[.int .i64 0, .int .i64 0, .int .i64 0, .int .i64 0, .int .i64 0, .int .i64 0, .int .i64 0, .int .i64 0, .int .i64 0, .int .i64 0, .int .i64 0, .int .i64 0, .int .i64 0, .int .i64 0, .int .i64 0, .int .i64 0, .int .i64 0, .int .i64 0, .int .i64 0, .int .i64 0, .int .i64 0, .int .i64 0, .int .i64 0, .int .i64 0, .int .i64 0, .int .i64 0, .int .i64 0, .int .i64 0, .int .i64 0, .int .i64 0, .int .i64 0, .int .i64 0, .int .i64 0, .int .i64 0, .slice none 0 0, .int .i64 0, .int .i64 0, .int .i64 0, .int .i64 0, .int .i64 0, .int .i64 0, .int .i64 0, .int .i64 0, .bool false, .int .i64 0, .int .i64 0, .int .i64 0, .slice none 0 0] 35)) w.heap.size V a := x0
  have hres : UbB ((w.alloc (.cells (ubL V a).toArray 35)).alloc (.cells #[.int .i64 0, .int .i64 0, .int .i64 0, .int .i64 0, .int .i64 0, .int .i64 0, .int .i64 0, .int .i64 0, .int .i64 0, .int .i64 0, .int .i64 0, .int .i64 0, .int .i64 0, .int .i64 0, .int .i64 0, .int .i64 0, .int .i64 0, .int .i64 0, .int .i64 0, .int .i64 0, .int .i64 0, .int .i64 0, .int .i64 0, .int .i64 0, .int .i64 0, .int .i64 0, .int .i64 0, .int .i64 0, .int .i64 0, .int .i64 0, .int .i64 0, .int .i64 0, .int .i64 0, .int .i64 0, .slice none 0 0, .int .i64 0, .int .i64 0, .int .i64 0, .int .i64 0, .int .i64 0, .int .i64 0, .int .i64 0, .int .i64 0, .bool false, .int .i64 0, .int .i64 0, .int .i64 0, .slice none 0 0] 35)) (w.heap.size + 1) ub0 ua0 := x1
  have HS := Lib.hid hs
  clear hUP x0 x1 hs
  have c0 := hx.kc
  obtain ⟨kk, hkk⟩ : ∃ kk, kk = V.k := ⟨_, rfl⟩
  rw [← hkk] at c0 k1 k2 k3 k4 k5
  have Hkk := Lib.hid hkk
  clear hkk
  have Hc0 := Lib.hid c0
  clear h
  go_enter Tryz.func16, Tryz.ntmps16
  go_wp2_with (first | (with_reducible refine stop_loadT 35 ?_) | (with_reducible refine stop_storeT 35 ?_) | (with_reducible refine stop_loadG 35 ?_))
  have y1 := heap_alloc_new ((w.alloc (.cells (ubL V a).toArray 35)).alloc (.cells #[.int .i64 0, .int .i64 0, .int .i64 0, .int .i64 0, .int .i64 0, .int .i64 0, .int .i64 0, .int .i64 0, .int .i64 0, .int .i64 0, .int .i64 0, .int .i64 0, .int .i64 0, .int .i64 0, .int .i64 0, .int .i64 0, .int .i64 0, .int .i64 0, .int .i64 0, .int .i64 0, .int .i64 0, .int .i64 0, .int .i64 0, .int .i64 0, .int .i64 0, .int .i64 0, .int .i64 0, .int .i64 0, .int .i64 0, .int .i64 0, .int .i64 0, .int .i64 0, .int .i64 0, .int .i64 0, .slice none 0 0, .int .i64 0, .int .i64 0, .int .i64 0, .int .i64 0, .int .i64 0, .int .i64 0, .int .i64 0, .int .i64 0, .bool false, .int .i64 0, .int .i64 0, .int .i64 0, .slice none 0 0] 35)) (.cells #[.int .i64 0, .int .i64 0, .int .i64 0, .int .i64 0, .int .i64 0, .int .i64 0, .int .i64 0, .int .i64 0, .int .i64 0, .int .i64 0, .int .i64 0, .int .i64 0, .int .i64 0, .int .i64 0, .int .i64 0, .int .i64 0, .int .i64 0, .int .i64 0, .int .i64 0, .int .i64 0, .int .i64 0, .int .i64 0, .int .i64 0, .int .i64 0, .int .i64 0, .int .i64 0, .int .i64 0, .int .i64 0, .int .i64 0, .int .i64 0, .int .i64 0, .int .i64 0, .int .i64 0, .int .i64 0, .slice none 0 0, .int .i64 0, .int .i64 0, .int .i64 0, .int .i64 0, .int .i64 0, .int .i64 0, .int .i64 0, .int .i64 0, .bool false, .int .i64 0, .int .i64 0, .int .i64 0, .slice none 0 0] 35)
  have hb3 := (Below.refl ((w.alloc (.cells (ubL V a).toArray 35)).alloc (.cells #[.int .i64 0, .int .i64 0, .int .i64 0, .int .i64 0, .int .i64 0, .int .i64 0, .int .i64 0, .int .i64 0, .int .i64 0, .int .i64 0, .int .i64 0, .int .i64 0, .int .i64 0, .int .i64 0, .int .i64 0, .int .i64 0, .int .i64 0, .int .i64 0, .int .i64 0, .int .i64 0, .int .i64 0, .int .i64 0, .int .i64 0, .int .i64 0, .int .i64 0, .int .i64 0, .int .i64 0, .int .i64 0, .int .i64 0, .int .i64 0, .int .i64 0, .int .i64 0, .int .i64 0, .int .i64 0, .slice none 0 0, .int .i64 0, .int .i64 0, .int .i64 0, .int .i64 0, .int .i64 0, .int .i64 0, .int .i64 0, .int .i64 0, .bool false, .int .i64 0, .int .i64 0, .int .i64 0, .slice none 0 0] 35)).heap.size ((w.alloc (.cells (ubL V a).toArray 35)).alloc (.cells #[.int .i64 0, .int .i64 0, .int .i64 0, .int .i64 0, .int .i64 0, .int .i64 0, .int .i64 0, .int .i64 0, .int .i64 0, .int .i64 0, .int .i64 0, .int .i64 0, .int .i64 0, .int .i64 0, .int .i64 0, .int .i64 0, .int .i64 0, .int .i64 0, .int .i64 0, .int .i64 0, .int .i64 0, .int .i64 0, .int .i64 0, .int .i64 0, .int .i64 0, .int .i64 0, .int .i64 0, .int .i64 0, .int .i64 0, .int .i64 0, .int .i64 0, .int .i64 0, .int .i64 0, .int .i64 0, .slice none 0 0, .int .i64 0, .int .i64 0, .int .i64 0, .int .i64 0, .int .i64 0, .int .i64 0, .int .i64 0, .int .i64 0, .bool false, .int .i64 0, .int .i64 0, .int .i64 0, .slice none 0 0] 35))).alloc (Nat.le_refl _) (.cells #[.int .i64 0, .int .i64 0, .int .i64 0, .int .i64 0, .int .i64 0, .int .i64 0, .int .i64 0, .int .i64 0, .int .i64 0, .int .i64 0, .int .i64 0, .int .i64 0, .int .i64 0, .int .i64 0, .int .i64 0, .int .i64 0, .int .i64 0, .int .i64 0, .int .i64 0, .int .i64 0, .int .i64 0, .int .i64 0, .int .i64 0, .int .i64 0, .int .i64 0, .int .i64 0, .int .i64 0, .int .i64 0, .int .i64 0, .int .i64 0, .int .i64 0, .int .i64 0, .int .i64 0, .int .i64 0, .slice none 0 0, .int .i64 0, .int .i64 0, .int .i64 0, .int .i64 0, .int .i64 0, .int .i64 0, .int .i64 0, .int .i64 0, .bool false, .int .i64 0, .int .i64 0, .int .i64 0, .slice none 0 0] 35)
  have hx3 := hx.old hb3 (blk_lt hx)
  have hres3 := hres.old hb3 (blk_lt hres)
  have hgl := blk_lt hres
  have hbb := bnx hb hb3
  rw [HS.out] at y1
  have c3 := (hb3.cell (p := ⟨w.heap.size, 0, none⟩) (blk_lt hx)).trans c0
  clear hb hb3 hx hres c0 Hc0
  generalize (((w.alloc (.cells (ubL V a).toArray 35)).alloc (.cells #[.int .i64 0, .int .i64 0, .int .i64 0, .int .i64 0, .int .i64 0, .int .i64 0, .int .i64 0, .int .i64 0, .int .i64 0, .int .i64 0, .int .i64 0, .int .i64 0, .int .i64 0, .int .i64 0, .int .i64 0, .int .i64 0, .int .i64 0, .int .i64 0, .int .i64 0, .int .i64 0, .int .i64 0, .int .i64 0, .int .i64 0, .int .i64 0, .int .i64 0, .int .i64 0, .int .i64 0, .int .i64 0, .int .i64 0, .int .i64 0, .int .i64 0, .int .i64 0, .int .i64 0, .int .i64 0, .slice none 0 0, .int .i64 0, .int .i64 0, .int .i64 0, .int .i64 0, .int .i64 0, .int .i64 0, .int .i64 0, .int .i64 0, .bool false, .int .i64 0, .int .i64 0, .int .i64 0, .slice none 0 0] 35)).alloc (.cells #[.int .i64 0, .int .i64 0, .int .i64 0, .int .i64 0, .int .i64 0, .int .i64 0, .int .i64 0, .int .i64 0, .int .i64 0, .int .i64 0, .int .i64 0, .int .i64 0, .int .i64 0, .int .i64 0, .int .i64 0, .int .i64 0, .int .i64 0, .int .i64 0, .int .i64 0, .int .i64 0, .int .i64 0, .int .i64 0, .int .i64 0, .int .i64 0, .int .i64 0, .int .i64 0, .int .i64 0, .int .i64 0, .int .i64 0, .int .i64 0, .int .i64 0, .int .i64 0, .int .i64 0, .int .i64 0, .slice none 0 0, .int .i64 0, .int .i64 0, .int .i64 0, .int .i64 0, .int .i64 0, .int .i64 0, .int .i64 0, .int .i64 0, .bool false, .int .i64 0, .int .i64 0, .int .i64 0, .slice none 0 0] 35)) = w1 at *
  refine go_ (wpList_store_row rfl _ _ _ rfl (w.heap.size + 1 + 1) (ubL { ub0 with k := kk } ua0).toArray rfl rfl _ _ y1 (ub_size _ _ rfl rfl) (ub_sizes (V := ub0) (a := ua0) rfl rfl rfl rfl) (ub_one _ _) ?_)
  have hm5 : UbB _ (w.heap.size + 1 + 1) { ub0 with k := kk } ua0 := setRow_heap _ _ _ (ubL { ub0 with k := kk } ua0).toArray _ _ y1
  have haw : Aw (fun k => k = (w.heap.size + 1 + 1)) w1 (w1.setRow (w.heap.size + 1 + 1) (ubL { ub0 with k := kk } ua0).toArray) := aw_setRow20 _ _
  have hx : UbB _ w.heap.size V a := haw.keep hx3 (by omega)
  have hres : UbB _ (w.heap.size + 1) ub0 ua0 := haw.keep hres3 (by omega)
  have hb := below_aw20 hbb haw (fun k hk => by rw [hk]; omega) hbb.size
  have c0 := hx.kc
  rw [show V.k = kk from Hkk.out.symm] at c0
  generalize w1.setRow (w.heap.size + 1 + 1) (ubL { ub0 with k := kk } ua0).toArray = w2 at *
  clear haw y1 hx3 hres3 hbb c3
  have hr5 : UbR w2 w2.heap.size UP ua0 := by rw [HU0.out]; exact UbR.nil _ _ _ rfl rfl
  have hf5 : ∀ p, ua0.A = some p ∨ ua0.A' = some p → (w.heap.size + 1 + 1) < p.block := fun p hp => by rcases hp with hp | hp <;> cases hp
  rw [Hkk.out, ← HU0.out] at hm5
  generalize hw5 : w2 = w5 at *
  generalize ua0 = a5 at hm5 hr5 hf5
  go_wp2_with (first | (with_reducible refine stop_loadT 35 ?_) | (with_reducible refine stop_storeT 35 ?_) | (with_reducible refine stop_loadG 35 ?_))
  refine go_ (wpList_load_row rfl _ _ rfl (w.heap.size + 1 + 1) rfl _ _ _ _ hm5 Tryz.underlying35 rfl (ub_size UP a5 HL.out.1 HL.out.2) ?_)
  go_wp2_with (first | (with_reducible refine stop_loadT 35 ?_) | (with_reducible refine stop_storeT 35 ?_) | (with_reducible refine stop_loadG 35 ?_))
  refine go_ (wpList_store_row rfl _ _ _ rfl (w.heap.size + 1) (ubL UP a5).toArray rfl rfl _ _ hres (ub_size UP a5 HL.out.1 HL.out.2) (ub_sizes rfl rfl HL.out.1 HL.out.2) (ub_one UP a5) ?_)
  have hres2 := setRow_heap _ _ _ (ubL UP a5).toArray _ _ hres
  have haw : Aw (fun k => k = w.heap.size + 1) w5 (w5.setRow (w.heap.size + 1) (ubL UP a5).toArray) := aw_setRow20 _ _
  have hb6 := below_aw20 hb haw (fun k hk => by rw [hk]; omega) hb.size
  have hr6 := ubr_aw hr5 haw (fun p hp => by have := hf5 p hp; omega)
  generalize w5.setRow (w.heap.size + 1) (ubL UP a5).toArray = w6 at *
  go_wp2
  exact bodyPost_ret (results_cell_row rfl _ _ (w.heap.size + 1) _ _ _ _ rfl hres2 Tryz.underlying35 rfl (ub_size UP a5 HL.out.1 HL.out.2)) rfl ⟨a5, rfl, hr6, hb6⟩

theorem qubPlain_any (V : UbV) (a : UbA) (h : UbOk V) (w : World) (hr : UbR w w.heap.size V a) (hn : a.n ≤ 1000 ∧ a.n' ≤ 1000) :
    Calls Tryz.prog 16 #[.agg (ubL V a).toArray] w (RetUP w (ubPlain V)) := by
  rcases ub_kinds V with hk | hk | hk | hk | hk | hk
  · exact qubPlain_1 V a h w hr hn hk
  · exact qubPlain_2 V a h w hr hn hk
  · exact qubPlain_3 V a h w hr hn hk
  · exact qubPlain_4 V a h w hr hn hk
  · exact qubPlain_5 V a h w hr hn hk
  · exact qubPlain_0 V a h w hr hn hk

end Go.Proofs.YtmkidihcdljkiaaGreat
