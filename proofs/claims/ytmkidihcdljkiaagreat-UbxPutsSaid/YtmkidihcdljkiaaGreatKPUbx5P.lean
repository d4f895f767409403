/-
  ubx.Plain walked, a case a kind (printed by gen_ubx5.py).
-/
import Derived.Test.YtmkidihcdljkiaaGreatKPUbx5
set_option linter.unusedSimpArgs false
set_option linter.unusedVariables false
namespace Go.Proofs.YtmkidihcdljkiaaGreat
open Go.RowKit NumLaw
attribute [local go_sem] Addr.add_mid

set_option maxRecDepth 10000 in
set_option maxHeartbeats 4000000 in
theorem ubPlain_1 (V : UbV) (a : UbA) (h : UbOk V) (w : World) (hr : UbR w w.heap.size V a) (hn : a.n ≤ 1000 ∧ a.n' ≤ 1000) (hk : V.k = 1) :
    Calls Tryz.prog 15 #[.agg (ubL V a).toArray] w (RetUP w (ubPlain V)) := by
  obtain ⟨UP, hUP⟩ : ∃ UP, UP = ubPlain V := ⟨_, rfl⟩
  have HL : Hid (UP.p.length = 32 ∧ UP.d.length = 8) := Lib.hid (by rw [hUP]; exact ⟨(ubPlain_ok h).pl, (ubPlain_ok h).dl⟩)
  obtain ⟨C, hC⟩ : ∃ C, C = ubC V := ⟨_, rfl⟩
  obtain ⟨I, hI⟩ : ∃ I, I = ubI V := ⟨_, rfl⟩
  have hP : ubPart (ubC V) (ubI V) = .iface 88 (.agg #[]) := by simp [ubPart, ubC, ubI, ubKd, hk]
  have Hnm := Lib.hid (fun w => ubnames_any V a h.pl h.dl w)
  rw [← hC, ← hI] at Hnm hP
  have Hcp := Lib.hid (fun g w hr ho => ubcopy1 V a h g w hr ho hk hn)
  rw [← hUP] at Hcp
  have hm : ∀ w : World, (method 59 88 (.agg #[]) "landfall/ubx.copy").run Tryz.prog w = .ok (109, .agg #[]) w := fun _ => by kernel_rfl
  have Hsz := Lib.hid (ub_size V a h.pl h.dl)
  have HU := Lib.hid hUP
  rw [← hUP]
  obtain ⟨x0, x1, hs, hb⟩ := al2 w (.cells (ubL V a).toArray 35) (.cells #[.int .i64 0, .int .i64 0, .int .i64 0, .int .i64 0, .int .i64 0, .int .i64 0, .int .i64 0, .int .i64 0, .int .i64 0, .int .i64 0, .int .i64 0, .int .i64 0, .int .i64 0, .int .i64 0, .int .i64 0, .int .i64 0, .int .i64 0, .int .i64 0, .int .i64 0, .int .i64 0, .int .i64 0, .int .i64 0, .int .i64 0, .int .i64 0, .int .i64 0, .int .i64 0, .int .i64 0, .int .i64 0, .int .i64 0, .int .i64 0, .int .i64 0, .int .i64 0, .int .i64 0, .int .i64 0, .slice none 0 0, .int .i64 0, .int .i64 0, .int .i64 0, .int .i64 0, .int .i64 0, .int .i64 0, .int .i64 0, .int .i64 0, .bool false, .int .i64 0, .int .i64 0, .int .i64 0, .slice none 0 0] 35)
  have hx : UbB ((w.alloc (.cells (ubL V a).toArray 35)).alloc (.cells #[.int .i64 0, .int .i64 0, .int .i64 0, .int .i64 0, .int .i64 0, .int .i64 0, .int .i64 0, .int .i64 0, .int .i64 0, .int .i64 0, .int .i64 0, .int .i64 0, .int .i64 0, .int .i64 0, .int .i64 0, .int .i64 0, .int .i64 0, .int .i64 0, .int .i64 0, .int .i64 0, .int .i64 0, .int .i64 0, .int .i64 0, .int .i64 0, .int .i64 0, .int .i64 0, .int .i64 0, .int .i64 0, .int .i64 0, .int .i64 0, .int .i64 0, .int .i64 0, .int .i64 0, .int .i64 0, .slice none 0 0, .int .i64 0, .int .i64 0, .int .i64 0, .int .i64 0, .int .i64 0, .int .i64 0, .int .i64 0, .int .i64 0, .bool false, .int .i64 0, .int .i64 0, .int .i64 0, .slice none 0 0] 35)) w.heap.size V a := x0
  have hres : UbB ((w.alloc (.cells (ubL V a).toArray 35)).alloc (.cells #[.int .i64 0, .int .i64 0, .int .i64 0, .int .i64 0, .int .i64 0, .int .i64 0, .int .i64 0, .int .i64 0, .int .i64 0, .int .i64 0, .int .i64 0, .int .i64 0, .int .i64 0, .int .i64 0, .int .i64 0, .int .i64 0, .int .i64 0, .int .i64 0, .int .i64 0, .int .i64 0, .int .i64 0, .int .i64 0, .int .i64 0, .int .i64 0, .int .i64 0, .int .i64 0, .int .i64 0, .int .i64 0, .int .i64 0, .int .i64 0, .int .i64 0, .int .i64 0, .int .i64 0, .int .i64 0, .slice none 0 0, .int .i64 0, .int .i64 0, .int .i64 0, .int .i64 0, .int .i64 0, .int .i64 0, .int .i64 0, .int .i64 0, .bool false, .int .i64 0, .int .i64 0, .int .i64 0, .slice none 0 0] 35)) (w.heap.size + 1) ub0 ua0 := x1
  have HS := Lib.hid hs
  clear hUP x0 x1 hs
  have c0 := hx.kc
  rw [hk] at c0
  clear hC hI hk h hn
  go_enter Tryz.func15, Tryz.ntmps15
  go_wp2_with (first | (with_reducible refine stop_loadT 35 ?_) | (with_reducible refine stop_storeT 35 ?_) | (with_reducible refine stop_loadG 35 ?_))
  have y1 := heap_alloc_new ((w.alloc (.cells (ubL V a).toArray 35)).alloc (.cells #[.int .i64 0, .int .i64 0, .int .i64 0, .int .i64 0, .int .i64 0, .int .i64 0, .int .i64 0, .int .i64 0, .int .i64 0, .int .i64 0, .int .i64 0, .int .i64 0, .int .i64 0, .int .i64 0, .int .i64 0, .int .i64 0, .int .i64 0, .int .i64 0, .int .i64 0, .int .i64 0, .int .i64 0, .int .i64 0, .int .i64 0, .int .i64 0, .int .i64 0, .int .i64 0, .int .i64 0, .int .i64 0, .int .i64 0, .int .i64 0, .int .i64 0, .int .i64 0, .int .i64 0, .int .i64 0, .slice none 0 0, .int .i64 0, .int .i64 0, .int .i64 0, .int .i64 0, .int .i64 0, .int .i64 0, .int .i64 0, .int .i64 0, .bool false, .int .i64 0, .int .i64 0, .int .i64 0, .slice none 0 0] 35)) (.cells #[.int .i64 0, .int .i64 0, .int .i64 0, .int .i64 0, .int .i64 0, .int .i64 0, .int .i64 0, .int .i64 0, .int .i64 0, .int .i64 0, .int .i64 0, .int .i64 0, .int .i64 0, .int .i64 0, .int .i64 0, .int .i64 0, .int .i64 0, .int .i64 0, .int .i64 0, .int .i64 0, .int .i64 0, .int .i64 0, .int .i64 0, .int .i64 0, .int .i64 0, .int .i64 0, .int .i64 0, .int .i64 0, .int .i64 0, .int .i64 0, .int .i64 0, .int .i64 0, .int .i64 0, .int .i64 0, .slice none 0 0, .int .i64 0, .int .i64 0, .int .i64 0, .int .i64 0, .int .i64 0, .int .i64 0, .int .i64 0, .int .i64 0, .bool false, .int .i64 0, .int .i64 0, .int .i64 0, .slice none 0 0] 35)
  have hb3 := (Below.refl ((w.alloc (.cells (ubL V a).toArray 35)).alloc (.cells #[.int .i64 0, .int .i64 0, .int .i64 0, .int .i64 0, .int .i64 0, .int .i64 0, .int .i64 0, .int .i64 0, .int .i64 0, .int .i64 0, .int .i64 0, .int .i64 0, .int .i64 0, .int .i64 0, .int .i64 0, .int .i64 0, .int .i64 0, .int .i64 0, .int .i64 0, .int .i64 0, .int .i64 0, .int .i64 0, .int .i64 0, .int .i64 0, .int .i64 0, .int .i64 0, .int .i64 0, .int .i64 0, .int .i64 0, .int .i64 0, .int .i64 0, .int .i64 0, .int .i64 0, .int .i64 0, .slice none 0 0, .int .i64 0, .int .i64 0, .int .i64 0, .int .i64 0, .int .i64 0, .int .i64 0, .int .i64 0, .int .i64 0, .bool false, .int .i64 0, .int .i64 0, .int .i64 0, .slice none 0 0] 35)).heap.size ((w.alloc (.cells (ubL V a).toArray 35)).alloc (.cells #[.int .i64 0, .int .i64 0, .int .i64 0, .int .i64 0, .int .i64 0, .int .i64 0, .int .i64 0, .int .i64 0, .int .i64 0, .int .i64 0, .int .i64 0, .int .i64 0, .int .i64 0, .int .i64 0, .int .i64 0, .int .i64 0, .int .i64 0, .int .i64 0, .int .i64 0, .int .i64 0, .int .i64 0, .int .i64 0, .int .i64 0, .int .i64 0, .int .i64 0, .int .i64 0, .int .i64 0, .int .i64 0, .int .i64 0, .int .i64 0, .int .i64 0, .int .i64 0, .int .i64 0, .int .i64 0, .slice none 0 0, .int .i64 0, .int .i64 0, .int .i64 0, .int .i64 0, .int .i64 0, .int .i64 0, .int .i64 0, .int .i64 0, .bool false, .int .i64 0, .int .i64 0, .int .i64 0, .slice none 0 0] 35))).alloc (Nat.le_refl _) (.cells #[.int .i64 0, .int .i64 0, .int .i64 0, .int .i64 0, .int .i64 0, .int .i64 0, .int .i64 0, .int .i64 0, .int .i64 0, .int .i64 0, .int .i64 0, .int .i64 0, .int .i64 0, .int .i64 0, .int .i64 0, .int .i64 0, .int .i64 0, .int .i64 0, .int .i64 0, .int .i64 0, .int .i64 0, .int .i64 0, .int .i64 0, .int .i64 0, .int .i64 0, .int .i64 0, .int .i64 0, .int .i64 0, .int .i64 0, .int .i64 0, .int .i64 0, .int .i64 0, .int .i64 0, .int .i64 0, .slice none 0 0, .int .i64 0, .int .i64 0, .int .i64 0, .int .i64 0, .int .i64 0, .int .i64 0, .int .i64 0, .int .i64 0, .bool false, .int .i64 0, .int .i64 0, .int .i64 0, .slice none 0 0] 35)
  have hx3 := hx.old hb3 (blk_lt hx)
  have hres3 := hres.old hb3 (blk_lt hres)
  have hgl := blk_lt hres
  have hbb := bnx hb hb3
  rw [HS.out] at y1
  clear hb hb3 hx hres c0
  generalize (((w.alloc (.cells (ubL V a).toArray 35)).alloc (.cells #[.int .i64 0, .int .i64 0, .int .i64 0, .int .i64 0, .int .i64 0, .int .i64 0, .int .i64 0, .int .i64 0, .int .i64 0, .int .i64 0, .int .i64 0, .int .i64 0, .int .i64 0, .int .i64 0, .int .i64 0, .int .i64 0, .int .i64 0, .int .i64 0, .int .i64 0, .int .i64 0, .int .i64 0, .int .i64 0, .int .i64 0, .int .i64 0, .int .i64 0, .int .i64 0, .int .i64 0, .int .i64 0, .int .i64 0, .int .i64 0, .int .i64 0, .int .i64 0, .int .i64 0, .int .i64 0, .slice none 0 0, .int .i64 0, .int .i64 0, .int .i64 0, .int .i64 0, .int .i64 0, .int .i64 0, .int .i64 0, .int .i64 0, .bool false, .int .i64 0, .int .i64 0, .int .i64 0, .slice none 0 0] 35)).alloc (.cells #[.int .i64 0, .int .i64 0, .int .i64 0, .int .i64 0, .int .i64 0, .int .i64 0, .int .i64 0, .int .i64 0, .int .i64 0, .int .i64 0, .int .i64 0, .int .i64 0, .int .i64 0, .int .i64 0, .int .i64 0, .int .i64 0, .int .i64 0, .int .i64 0, .int .i64 0, .int .i64 0, .int .i64 0, .int .i64 0, .int .i64 0, .int .i64 0, .int .i64 0, .int .i64 0, .int .i64 0, .int .i64 0, .int .i64 0, .int .i64 0, .int .i64 0, .int .i64 0, .int .i64 0, .int .i64 0, .slice none 0 0, .int .i64 0, .int .i64 0, .int .i64 0, .int .i64 0, .int .i64 0, .int .i64 0, .int .i64 0, .int .i64 0, .bool false, .int .i64 0, .int .i64 0, .int .i64 0, .slice none 0 0] 35)) = w1 at *
  refine go_ (wpList_store_row rfl _ _ _ rfl (w.heap.size + 1 + 1) (ubL { ub0 with k := 1 } ua0).toArray rfl rfl _ _ y1 (ub_size _ _ rfl rfl) (ub_sizes (V := ub0) (a := ua0) rfl rfl rfl rfl) (ub_one _ _) ?_)
  have hm5 : UbB _ (w.heap.size + 1 + 1) { ub0 with k := 1 } ua0 := setRow_heap _ _ _ (ubL { ub0 with k := 1 } ua0).toArray _ _ y1
  have haw : Aw (fun k => k = (w.heap.size + 1 + 1)) w1 (w1.setRow (w.heap.size + 1 + 1) (ubL { ub0 with k := 1 } ua0).toArray) := aw_setRow20 _ _
  have hx : UbB _ w.heap.size V a := haw.keep hx3 (by omega)
  have hres : UbB _ (w.heap.size + 1) ub0 ua0 := haw.keep hres3 (by omega)
  have hb := below_aw20 hbb haw (fun k hk => by rw [hk]; omega) hbb.size
  generalize w1.setRow (w.heap.size + 1 + 1) (ubL { ub0 with k := 1 } ua0).toArray = w2 at *
  clear haw y1 hx3 hres3 hbb
  go_wp2_with (first | (with_reducible refine stop_loadT 35 ?_) | (with_reducible refine stop_storeT 35 ?_) | (with_reducible refine stop_loadG 35 ?_))
  refine go_ (wpList_load_row rfl _ _ rfl w.heap.size rfl _ _ _ _ hx Tryz.underlying35 rfl Hsz.out ?_)
  go_wp2_with fail
  go_fit (Hnm.out w2)
  rintro e w3 ⟨rfl, hb2⟩
  have hgm5 := blk_lt hm5
  replace hx := hx.old hb2 (blk_lt hx)
  replace hres := hres.old hb2 (blk_lt hres)
  replace hm5 := hm5.old hb2 hgm5
  replace hb := bnx hb hb2
  clear hb2
  go_wp2_with fail
  go_fit (ubnamed_any C I w3)
  rintro e w4 ⟨rfl, rfl⟩
  rw [hP]
  have hr3 := (hr.up hb).more hb.size
  go_wp2_with (first | (with_reducible refine stop_loadT 35 ?_) | (with_reducible refine stop_storeT 35 ?_) | (with_reducible refine stop_loadG 35 ?_))
  refine go_ (wpList_load_row rfl _ _ rfl w.heap.size rfl _ _ _ _ hx Tryz.underlying35 rfl Hsz.out ?_)
  go_wp2_with fail
  go_fit (Hcp.out (w.heap.size + 1 + 1) w3 hr3 hm5)
  rintro e w5 ⟨a5, rfl, hm5', hr5, hf5, hb5⟩
  replace hres := hres.old hb5 (by omega)
  replace hb := hb.trans (hb5.mono (by omega))
  clear hm5 hx hr3 hb5
  have hm5 := hm5'
  clear hm5'
  go_wp2_with (first | (with_reducible refine stop_loadT 35 ?_) | (with_reducible refine stop_storeT 35 ?_) | (with_reducible refine stop_loadG 35 ?_))
  refine go_ (wpList_load_row rfl _ _ rfl (w.heap.size + 1 + 1) rfl _ _ _ _ hm5 Tryz.underlying35 rfl (ub_size UP a5 HL.out.1 HL.out.2) ?_)
  go_wp2_with (first | (with_reducible refine stop_loadT 35 ?_) | (with_reducible refine stop_storeT 35 ?_) | (with_reducible refine stop_loadG 35 ?_))
  refine go_ (wpList_store_row rfl _ _ _ rfl (w.heap.size + 1) (ubL UP a5).toArray rfl rfl _ _ hres (ub_size UP a5 HL.out.1 HL.out.2) (ub_sizes rfl rfl HL.out.1 HL.out.2) (ub_one UP a5) ?_)
  have hres2 := setRow_heap _ _ _ (ubL UP a5).toArray _ _ hres
  have haw : Aw (fun k => k = w.heap.size + 1) w5 (w5.setRow (w.heap.size + 1) (ubL UP a5).toArray) := aw_setRow20 _ _
  have hb6 := below_aw20 hb haw (fun k hk => by rw [hk]; omega) hb.size
  have hr6 := ubr_aw hr5 haw (fun p hp => by have := hf5 p hp; omega)
  generalize w5.setRow (w.heap.size + 1) (ubL UP a5).toArray = w6 at *
  go_wp2
  exact bodyPost_ret (results_cellU1 rfl _ _ (w.heap.size + 1) _ _ _ _ rfl hres2 Tryz.underlying35 rfl (ub_size UP a5 HL.out.1 HL.out.2)) rfl ⟨a5, rfl, hr6, hb6⟩

set_option maxRecDepth 10000 in
set_option maxHeartbeats 4000000 in
theorem ubPlain_2 (V : UbV) (a : UbA) (h : UbOk V) (w : World) (hr : UbR w w.heap.size V a) (hn : a.n ≤ 1000 ∧ a.n' ≤ 1000) (hk : V.k = 2) :
    Calls Tryz.prog 15 #[.agg (ubL V a).toArray] w (RetUP w (ubPlain V)) := by
  obtain ⟨UP, hUP⟩ : ∃ UP, UP = ubPlain V := ⟨_, rfl⟩
  have HL : Hid (UP.p.length = 32 ∧ UP.d.length = 8) := Lib.hid (by rw [hUP]; exact ⟨(ubPlain_ok h).pl, (ubPlain_ok h).dl⟩)
  obtain ⟨C, hC⟩ : ∃ C, C = ubC V := ⟨_, rfl⟩
  obtain ⟨I, hI⟩ : ∃ I, I = ubI V := ⟨_, rfl⟩
  have hP : ubPart (ubC V) (ubI V) = .iface 89 (.agg #[]) := by simp [ubPart, ubC, ubI, ubKd, hk]
  have Hnm := Lib.hid (fun w => ubnames_any V a h.pl h.dl w)
  rw [← hC, ← hI] at Hnm hP
  have Hcp := Lib.hid (fun g w hr ho => ubcopy2 V a h g w hr ho hk hn)
  rw [← hUP] at Hcp
  have hm : ∀ w : World, (method 59 89 (.agg #[]) "landfall/ubx.copy").run Tryz.prog w = .ok (138, .agg #[]) w := fun _ => by kernel_rfl
  have Hsz := Lib.hid (ub_size V a h.pl h.dl)
  have HU := Lib.hid hUP
  rw [← hUP]
  obtain ⟨x0, x1, hs, hb⟩ := al2 w (.cells (ubL V a).toArray 35) (.cells #[.int .i64 0, .int .i64 0, .int .i64 0, .int .i64 0, .int .i64 0, .int .i64 0, .int .i64 0, .int .i64 0, .int .i64 0, .int .i64 0, .int .i64 0, .int .i64 0, .int .i64 0, .int .i64 0, .int .i64 0, .int .i64 0, .int .i64 0, .int .i64 0, .int .i64 0, .int .i64 0, .int .i64 0, .int .i64 0, .int .i64 0, .int .i64 0, .int .i64 0, .int .i64 0, .int .i64 0, .int .i64 0, .int .i64 0, .int .i64 0, .int .i64 0, .int .i64 0, .int .i64 0, .int .i64 0, .slice none 0 0, .int .i64 0, .int .i64 0, .int .i64 0, .int .i64 0, .int .i64 0, .int .i64 0, .int .i64 0, .int .i64 0, .bool false, .int .i64 0, .int .i64 0, .int .i64 0, .slice none 0 0] 35)
  have hx : UbB ((w.alloc (.cells (ubL V a).toArray 35)).alloc (.cells #[.int .i64 0, .int .i64 0, .int .i64 0, .int .i64 0, .int .i64 0, .int .i64 0, .int .i64 0, .int .i64 0, .int .i64 0, .int .i64 0, .int .i64 0, .int .i64 0, .int .i64 0, .int .i64 0, .int .i64 0, .int .i64 0, .int .i64 0, .int .i64 0, .int .i64 0, .int .i64 0, .int .i64 0, .int .i64 0, .int .i64 0, .int .i64 0, .int .i64 0, .int .i64 0, .int .i64 0, .int .i64 0, .int .i64 0, .int .i64 0, .int .i64 0, .int .i64 0, .int .i64 0, .int .i64 0, .slice none 0 0, .int .i64 0, .int .i64 0, .int .i64 0, .int .i64 0, .int .i64 0, .int .i64 0, .int .i64 0, .int .i64 0, .bool false, .int .i64 0, .int .i64 0, .int .i64 0, .slice none 0 0] 35)) w.heap.size V a := x0
  have hres : UbB ((w.alloc (.cells (ubL V a).toArray 35)).alloc (.cells #[.int .i64 0, .int .i64 0, .int .i64 0, .int .i64 0, .int .i64 0, .int .i64 0, .int .i64 0, .int .i64 0, .int .i64 0, .int .i64 0, .int .i64 0, .int .i64 0, .int .i64 0, .int .i64 0, .int .i64 0, .int .i64 0, .int .i64 0, .int .i64 0, .int .i64 0, .int .i64 0, .int .i64 0, .int .i64 0, .int .i64 0, .int .i64 0, .int .i64 0, .int .i64 0, .int .i64 0, .int .i64 0, .int .i64 0, .int .i64 0, .int .i64 0, .int .i64 0, .int .i64 0, .int .i64 0, .slice none 0 0, .int .i64 0, .int .i64 0, .int .i64 0, .int .i64 0, .int .i64 0, .int .i64 0, .int .i64 0, .int .i64 0, .bool false, .int .i64 0, .int .i64 0, .int .i64 0, .slice none 0 0] 35)) (w.heap.size + 1) ub0 ua0 := x1
  have HS := Lib.hid hs
  clear hUP x0 x1 hs
  have c0 := hx.kc
  rw [hk] at c0
  clear hC hI hk h hn
  go_enter Tryz.func15, Tryz.ntmps15
  go_wp2_with (first | (with_reducible refine stop_loadT 35 ?_) | (with_reducible refine stop_storeT 35 ?_) | (with_reducible refine stop_loadG 35 ?_))
  have y1 := heap_alloc_new ((w.alloc (.cells (ubL V a).toArray 35)).alloc (.cells #[.int .i64 0, .int .i64 0, .int .i64 0, .int .i64 0, .int .i64 0, .int .i64 0, .int .i64 0, .int .i64 0, .int .i64 0, .int .i64 0, .int .i64 0, .int .i64 0, .int .i64 0, .int .i64 0, .int .i64 0, .int .i64 0, .int .i64 0, .int .i64 0, .int .i64 0, .int .i64 0, .int .i64 0, .int .i64 0, .int .i64 0, .int .i64 0, .int .i64 0, .int .i64 0, .int .i64 0, .int .i64 0, .int .i64 0, .int .i64 0, .int .i64 0, .int .i64 0, .int .i64 0, .int .i64 0, .slice none 0 0, .int .i64 0, .int .i64 0, .int .i64 0, .int .i64 0, .int .i64 0, .int .i64 0, .int .i64 0, .int .i64 0, .bool false, .int .i64 0, .int .i64 0, .int .i64 0, .slice none 0 0] 35)) (.cells #[.int .i64 0, .int .i64 0, .int .i64 0, .int .i64 0, .int .i64 0, .int .i64 0, .int .i64 0, .int .i64 0, .int .i64 0, .int .i64 0, .int .i64 0, .int .i64 0, .int .i64 0, .int .i64 0, .int .i64 0, .int .i64 0, .int .i64 0, .int .i64 0, .int .i64 0, .int .i64 0, .int .i64 0, .int .i64 0, .int .i64 0, .int .i64 0, .int .i64 0, .int .i64 0, .int .i64 0, .int .i64 0, .int .i64 0, .int .i64 0, .int .i64 0, .int .i64 0, .int .i64 0, .int .i64 0, .slice none 0 0, .int .i64 0, .int .i64 0, .int .i64 0, .int .i64 0, .int .i64 0, .int .i64 0, .int .i64 0, .int .i64 0, .bool false, .int .i64 0, .int .i64 0, .int .i64 0, .slice none 0 0] 35)
  have hb3 := (Below.refl ((w.alloc (.cells (ubL V a).toArray 35)).alloc (.cells #[.int .i64 0, .int .i64 0, .int .i64 0, .int .i64 0, .int .i64 0, .int .i64 0, .int .i64 0, .int .i64 0, .int .i64 0, .int .i64 0, .int .i64 0, .int .i64 0, .int .i64 0, .int .i64 0, .int .i64 0, .int .i64 0, .int .i64 0, .int .i64 0, .int .i64 0, .int .i64 0, .int .i64 0, .int .i64 0, .int .i64 0, .int .i64 0, .int .i64 0, .int .i64 0, .int .i64 0, .int .i64 0, .int .i64 0, .int .i64 0, .int .i64 0, .int .i64 0, .int .i64 0, .int .i64 0, .slice none 0 0, .int .i64 0, .int .i64 0, .int .i64 0, .int .i64 0, .int .i64 0, .int .i64 0, .int .i64 0, .int .i64 0, .bool false, .int .i64 0, .int .i64 0, .int .i64 0, .slice none 0 0] 35)).heap.size ((w.alloc (.cells (ubL V a).toArray 35)).alloc (.cells #[.int .i64 0, .int .i64 0, .int .i64 0, .int .i64 0, .int .i64 0, .int .i64 0, .int .i64 0, .int .i64 0, .int .i64 0, .int .i64 0, .int .i64 0, .int .i64 0, .int .i64 0, .int .i64 0, .int .i64 0, .int .i64 0, .int .i64 0, .int .i64 0, .int .i64 0, .int .i64 0, .int .i64 0, .int .i64 0, .int .i64 0, .int .i64 0, .int .i64 0, .int .i64 0, .int .i64 0, .int .i64 0, .int .i64 0, .int .i64 0, .int .i64 0, .int .i64 0, .int .i64 0, .int .i64 0, .slice none 0 0, .int .i64 0, .int .i64 0, .int .i64 0, .int .i64 0, .int .i64 0, .int .i64 0, .int .i64 0, .int .i64 0, .bool false, .int .i64 0, .int .i64 0, .int .i64 0, .slice none 0 0] 35))).alloc (Nat.le_refl _) (.cells #[.int .i64 0, .int .i64 0, .int .i64 0, .int .i64 0, .int .i64 0, .int .i64 0, .int .i64 0, .int .i64 0, .int .i64 0, .int .i64 0, .int .i64 0, .int .i64 0, .int .i64 0, .int .i64 0, .int .i64 0, .int .i64 0, .int .i64 0, .int .i64 0, .int .i64 0, .int .i64 0, .int .i64 0, .int .i64 0, .int .i64 0, .int .i64 0, .int .i64 0, .int .i64 0, .int .i64 0, .int .i64 0, .int .i64 0, .int .i64 0, .int .i64 0, .int .i64 0, .int .i64 0, .int .i64 0, .slice none 0 0, .int .i64 0, .int .i64 0, .int .i64 0, .int .i64 0, .int .i64 0, .int .i64 0, .int .i64 0, .int .i64 0, .bool false, .int .i64 0, .int .i64 0, .int .i64 0, .slice none 0 0] 35)
  have hx3 := hx.old hb3 (blk_lt hx)
  have hres3 := hres.old hb3 (blk_lt hres)
  have hgl := blk_lt hres
  have hbb := bnx hb hb3
  rw [HS.out] at y1
  clear hb hb3 hx hres c0
  generalize (((w.alloc (.cells (ubL V a).toArray 35)).alloc (.cells #[.int .i64 0, .int .i64 0, .int .i64 0, .int .i64 0, .int .i64 0, .int .i64 0, .int .i64 0, .int .i64 0, .int .i64 0, .int .i64 0, .int .i64 0, .int .i64 0, .int .i64 0, .int .i64 0, .int .i64 0, .int .i64 0, .int .i64 0, .int .i64 0, .int .i64 0, .int .i64 0, .int .i64 0, .int .i64 0, .int .i64 0, .int .i64 0, .int .i64 0, .int .i64 0, .int .i64 0, .int .i64 0, .int .i64 0, .int .i64 0, .int .i64 0, .int .i64 0, .int .i64 0, .int .i64 0, .slice none 0 0, .int .i64 0, .int .i64 0, .int .i64 0, .int .i64 0, .int .i64 0, .int .i64 0, .int .i64 0, .int .i64 0, .bool false, .int .i64 0, .int .i64 0, .int .i64 0, .slice none 0 0] 35)).alloc (.cells #[.int .i64 0, .int .i64 0, .int .i64 0, .int .i64 0, .int .i64 0, .int .i64 0, .int .i64 0, .int .i64 0, .int .i64 0, .int .i64 0, .int .i64 0, .int .i64 0, .int .i64 0, .int .i64 0, .int .i64 0, .int .i64 0, .int .i64 0, .int .i64 0, .int .i64 0, .int .i64 0, .int .i64 0, .int .i64 0, .int .i64 0, .int .i64 0, .int .i64 0, .int .i64 0, .int .i64 0, .int .i64 0, .int .i64 0, .int .i64 0, .int .i64 0, .int .i64 0, .int .i64 0, .int .i64 0, .slice none 0 0, .int .i64 0, .int .i64 0, .int .i64 0, .int .i64 0, .int .i64 0, .int .i64 0, .int .i64 0, .int .i64 0, .bool false, .int .i64 0, .int .i64 0, .int .i64 0, .slice none 0 0] 35)) = w1 at *
  refine go_ (wpList_store_row rfl _ _ _ rfl (w.heap.size + 1 + 1) (ubL { ub0 with k := 2 } ua0).toArray rfl rfl _ _ y1 (ub_size _ _ rfl rfl) (ub_sizes (V := ub0) (a := ua0) rfl rfl rfl rfl) (ub_one _ _) ?_)
  have hm5 : UbB _ (w.heap.size + 1 + 1) { ub0 with k := 2 } ua0 := setRow_heap _ _ _ (ubL { ub0 with k := 2 } ua0).toArray _ _ y1
  have haw : Aw (fun k => k = (w.heap.size + 1 + 1)) w1 (w1.setRow (w.heap.size + 1 + 1) (ubL { ub0 with k := 2 } ua0).toArray) := aw_setRow20 _ _
  have hx : UbB _ w.heap.size V a := haw.keep hx3 (by omega)
  have hres : UbB _ (w.heap.size + 1) ub0 ua0 := haw.keep hres3 (by omega)
  have hb := below_aw20 hbb haw (fun k hk => by rw [hk]; omega) hbb.size
  generalize w1.setRow (w.heap.size + 1 + 1) (ubL { ub0 with k := 2 } ua0).toArray = w2 at *
  clear haw y1 hx3 hres3 hbb
  go_wp2_with (first | (with_reducible refine stop_loadT 35 ?_) | (with_reducible refine stop_storeT 35 ?_) | (with_reducible refine stop_loadG 35 ?_))
  refine go_ (wpList_load_row rfl _ _ rfl w.heap.size rfl _ _ _ _ hx Tryz.underlying35 rfl Hsz.out ?_)
  go_wp2_with fail
  go_fit (Hnm.out w2)
  rintro e w3 ⟨rfl, hb2⟩
  have hgm5 := blk_lt hm5
  replace hx := hx.old hb2 (blk_lt hx)
  replace hres := hres.old hb2 (blk_lt hres)
  replace hm5 := hm5.old hb2 hgm5
  replace hb := bnx hb hb2
  clear hb2
  go_wp2_with fail
  go_fit (ubnamed_any C I w3)
  rintro e w4 ⟨rfl, rfl⟩
  rw [hP]
  have hr3 := (hr.up hb).more hb.size
  go_wp2_with (first | (with_reducible refine stop_loadT 35 ?_) | (with_reducible refine stop_storeT 35 ?_) | (with_reducible refine stop_loadG 35 ?_))
  refine go_ (wpList_load_row rfl _ _ rfl w.heap.size rfl _ _ _ _ hx Tryz.underlying35 rfl Hsz.out ?_)
  go_wp2_with fail
  go_fit (Hcp.out (w.heap.size + 1 + 1) w3 hr3 hm5)
  rintro e w5 ⟨a5, rfl, hm5', hr5, hf5, hb5⟩
  replace hres := hres.old hb5 (by omega)
  replace hb := hb.trans (hb5.mono (by omega))
  clear hm5 hx hr3 hb5
  have hm5 := hm5'
  clear hm5'
  go_wp2_with (first | (with_reducible refine stop_loadT 35 ?_) | (with_reducible refine stop_storeT 35 ?_) | (with_reducible refine stop_loadG 35 ?_))
  refine go_ (wpList_load_row rfl _ _ rfl (w.heap.size + 1 + 1) rfl _ _ _ _ hm5 Tryz.underlying35 rfl (ub_size UP a5 HL.out.1 HL.out.2) ?_)
  go_wp2_with (first | (with_reducible refine stop_loadT 35 ?_) | (with_reducible refine stop_storeT 35 ?_) | (with_reducible refine stop_loadG 35 ?_))
  refine go_ (wpList_store_row rfl _ _ _ rfl (w.heap.size + 1) (ubL UP a5).toArray rfl rfl _ _ hres (ub_size UP a5 HL.out.1 HL.out.2) (ub_sizes rfl rfl HL.out.1 HL.out.2) (ub_one UP a5) ?_)
  have hres2 := setRow_heap _ _ _ (ubL UP a5).toArray _ _ hres
  have haw : Aw (fun k => k = w.heap.size + 1) w5 (w5.setRow (w.heap.size + 1) (ubL UP a5).toArray) := aw_setRow20 _ _
  have hb6 := below_aw20 hb haw (fun k hk => by rw [hk]; omega) hb.size
  have hr6 := ubr_aw hr5 haw (fun p hp => by have := hf5 p hp; omega)
  generalize w5.setRow (w.heap.size + 1) (ubL UP a5).toArray = w6 at *
  go_wp2
  exact bodyPost_ret (results_cellU1 rfl _ _ (w.heap.size + 1) _ _ _ _ rfl hres2 Tryz.underlying35 rfl (ub_size UP a5 HL.out.1 HL.out.2)) rfl ⟨a5, rfl, hr6, hb6⟩

set_option maxRecDepth 10000 in
set_option maxHeartbeats 4000000 in
theorem ubPlain_3 (V : UbV) (a : UbA) (h : UbOk V) (w : World) (hr : UbR w w.heap.size V a) (hn : a.n ≤ 1000 ∧ a.n' ≤ 1000) (hk : V.k = 3) :
    Calls Tryz.prog 15 #[.agg (ubL V a).toArray] w (RetUP w (ubPlain V)) := by
  obtain ⟨UP, hUP⟩ : ∃ UP, UP = ubPlain V := ⟨_, rfl⟩
  have HL : Hid (UP.p.length = 32 ∧ UP.d.length = 8) := Lib.hid (by rw [hUP]; exact ⟨(ubPlain_ok h).pl, (ubPlain_ok h).dl⟩)
  obtain ⟨C, hC⟩ : ∃ C, C = ubC V := ⟨_, rfl⟩
  obtain ⟨I, hI⟩ : ∃ I, I = ubI V := ⟨_, rfl⟩
  have hP : ubPart (ubC V) (ubI V) = .iface 90 (.agg #[]) := by simp [ubPart, ubC, ubI, ubKd, hk]
  have Hnm := Lib.hid (fun w => ubnames_any V a h.pl h.dl w)
  rw [← hC, ← hI] at Hnm hP
  have Hcp := Lib.hid (fun g w hr ho => ubcopy3 V a h g w hr ho hk hn)
  rw [← hUP] at Hcp
  have hm : ∀ w : World, (method 59 90 (.agg #[]) "landfall/ubx.copy").run Tryz.prog w = .ok (151, .agg #[]) w := fun _ => by kernel_rfl
  have Hsz := Lib.hid (ub_size V a h.pl h.dl)
  have HU := Lib.hid hUP
  rw [← hUP]
  obtain ⟨x0, x1, hs, hb⟩ := al2 w (.cells (ubL V a).toArray 35) (.cells #[.int .i64 0, .int .i64 0, .int .i64 0, .int .i64 0, .int .i64 0, .int .i64 0, .int .i64 0, .int .i64 0, .int .i64 0, .int .i64 0, .int .i64 0, .int .i64 0, .int .i64 0, .int .i64 0, .int .i64 0, .int .i64 0, .int .i64 0, .int .i64 0, .int .i64 0, .int .i64 0, .int .i64 0, .int .i64 0, .int .i64 0, .int .i64 0, .int .i64 0, .int .i64 0, .int .i64 0, .int .i64 0, .int .i64 0, .int .i64 0, .int .i64 0, .int .i64 0, .int .i64 0, .int .i64 0, .slice none 0 0, .int .i64 0, .int .i64 0, .int .i64 0, .int .i64 0, .int .i64 0, .int .i64 0, .int .i64 0, .int .i64 0, .bool false, .int .i64 0, .int .i64 0, .int .i64 0, .slice none 0 0] 35)
  have hx : UbB ((w.alloc (.cells (ubL V a).toArray 35)).alloc (.cells #[.int .i64 0, .int .i64 0, .int .i64 0, .int .i64 0, .int .i64 0, .int .i64 0, .int .i64 0, .int .i64 0, .int .i64 0, .int .i64 0, .int .i64 0, .int .i64 0, .int .i64 0, .int .i64 0, .int .i64 0, .int .i64 0, .int .i64 0, .int .i64 0, .int .i64 0, .int .i64 0, .int .i64 0, .int .i64 0, .int .i64 0, .int .i64 0, .int .i64 0, .int .i64 0, .int .i64 0, .int .i64 0, .int .i64 0, .int .i64 0, .int .i64 0, .int .i64 0, .int .i64 0, .int .i64 0, .slice none 0 0, .int .i64 0, .int .i64 0, .int .i64 0, .int .i64 0, .int .i64 0, .int .i64 0, .int .i64 0, .int .i64 0, .bool false, .int .i64 0, .int .i64 0, .int .i64 0, .slice none 0 0] 35)) w.heap.size V a := x0
  have hres : UbB ((w.alloc (.cells (ubL V a).toArray 35)).alloc (.cells #[.int .i64 0, .int .i64 0, .int .i64 0, .int .i64 0, .int .i64 0, .int .i64 0, .int .i64 0, .int .i64 0, .int .i64 0, .int .i64 0, .int .i64 0, .int .i64 0, .int .i64 0, .int .i64 0, .int .i64 0, .int .i64 0, .int .i64 0, .int .i64 0, .int .i64 0, .int .i64 0, .int .i64 0, .int .i64 0, .int .i64 0, .int .i64 0, .int .i64 0, .int .i64 0, .int .i64 0, .int .i64 0, .int .i64 0, .int .i64 0, .int .i64 0, .int .i64 0, .int .i64 0, .int .i64 0, .slice none 0 0, .int .i64 0, .int .i64 0, .int .i64 0, .int .i64 0, .int .i64 0, .int .i64 0, .int .i64 0, .int .i64 0, .bool false, .int .i64 0, .int .i64 0, .int .i64 0, .slice none 0 0] 35)) (w.heap.size + 1) ub0 ua0 := x1
  have HS := Lib.hid hs
  clear hUP x0 x1 hs
  have c0 := hx.kc
  rw [hk] at c0
  clear hC hI hk h hn
  go_enter Tryz.func15, Tryz.ntmps15
  go_wp2_with (first | (with_reducible refine stop_loadT 35 ?_) | (with_reducible refine stop_storeT 35 ?_) | (with_reducible refine stop_loadG 35 ?_))
  have y1 := heap_alloc_new ((w.alloc (.cells (ubL V a).toArray 35)).alloc (.cells #[.int .i64 0, .int .i64 0, .int .i64 0, .int .i64 0, .int .i64 0, .int .i64 0, .int .i64 0, .int .i64 0, .int .i64 0, .int .i64 0, .int .i64 0, .int .i64 0, .int .i64 0, .int .i64 0, .int .i64 0, .int .i64 0, .int .i64 0, .int .i64 0, .int .i64 0, .int .i64 0, .int .i64 0, .int .i64 0, .int .i64 0, .int .i64 0, .int .i64 0, .int .i64 0, .int .i64 0, .int .i64 0, .int .i64 0, .int .i64 0, .int .i64 0, .int .i64 0, .int .i64 0, .int .i64 0, .slice none 0 0, .int .i64 0, .int .i64 0, .int .i64 0, .int .i64 0, .int .i64 0, .int .i64 0, .int .i64 0, .int .i64 0, .bool false, .int .i64 0, .int .i64 0, .int .i64 0, .slice none 0 0] 35)) (.cells #[.int .i64 0, .int .i64 0, .int .i64 0, .int .i64 0, .int .i64 0, .int .i64 0, .int .i64 0, .int .i64 0, .int .i64 0, .int .i64 0, .int .i64 0, .int .i64 0, .int .i64 0, .int .i64 0, .int .i64 0, .int .i64 0, .int .i64 0, .int .i64 0, .int .i64 0, .int .i64 0, .int .i64 0, .int .i64 0, .int .i64 0, .int .i64 0, .int .i64 0, .int .i64 0, .int .i64 0, .int .i64 0, .int .i64 0, .int .i64 0, .int .i64 0, .int .i64 0, .int .i64 0, .int .i64 0, .slice none 0 0, .int .i64 0, .int .i64 0, .int .i64 0, .int .i64 0, .int .i64 0, .int .i64 0, .int .i64 0, .int .i64 0, .bool false, .int .i64 0, .int .i64 0, .int .i64 0, .slice none 0 0] 35)
  have hb3 := (Below.refl ((w.alloc (.cells (ubL V a).toArray 35)).alloc (.cells #[.int .i64 0, .int .i64 0, .int .i64 0, .int .i64 0, .int .i64 0, .int .i64 0, .int .i64 0, .int .i64 0, .int .i64 0, .int .i64 0, .int .i64 0, .int .i64 0, .int .i64 0, .int .i64 0, .int .i64 0, .int .i64 0, .int .i64 0, .int .i64 0, .int .i64 0, .int .i64 0, .int .i64 0, .int .i64 0, .int .i64 0, .int .i64 0, .int .i64 0, .int .i64 0, .int .i64 0, .int .i64 0, .int .i64 0, .int .i64 0, .int .i64 0, .int .i64 0, .int .i64 0, .int .i64 0, .slice none 0 0, .int .i64 0, .int .i64 0, .int .i64 0, .int .i64 0, .int .i64 0, .int .i64 0, .int .i64 0, .int .i64 0, .bool false, .int .i64 0, .int .i64 0, .int .i64 0, .slice none 0 0] 35)).heap.size ((w.alloc (.cells (ubL V a).toArray 35)).alloc (.cells #[.int .i64 0, .int .i64 0, .int .i64 0, .int .i64 0, .int .i64 0, .int .i64 0, .int .i64 0, .int .i64 0, .int .i64 0, .int .i64 0, .int .i64 0, .int .i64 0, .int .i64 0, .int .i64 0, .int .i64 0, .int .i64 0, .int .i64 0, .int .i64 0, .int .i64 0, .int .i64 0, .int .i64 0, .int .i64 0, .int .i64 0, .int .i64 0, .int .i64 0, .int .i64 0, .int .i64 0, .int .i64 0, .int .i64 0, .int .i64 0, .int .i64 0, .int .i64 0, .int .i64 0, .int .i64 0, .slice none 0 0, .int .i64 0, .int .i64 0, .int .i64 0, .int .i64 0, .int .i64 0, .int .i64 0, .int .i64 0, .int .i64 0, .bool false, .int .i64 0, .int .i64 0, .int .i64 0, .slice none 0 0] 35))).alloc (Nat.le_refl _) (.cells #[.int .i64 0, .int .i64 0, .int .i64 0, .int .i64 0, .int .i64 0, .int .i64 0, .int .i64 0, .int .i64 0, .int .i64 0, .int .i64 0, .int .i64 0, .int .i64 0, .int .i64 0, .int .i64 0, .int .i64 0, .int .i64 0, .int .i64 0, .int .i64 0, .int .i64 0, .int .i64 0, .int .i64 0, .int .i64 0, .int .i64 0, .int .i64 0, .int .i64 0, .int .i64 0, .int .i64 0, .int .i64 0, .int .i64 0, .int .i64 0, .int .i64 0, .int .i64 0, .int .i64 0, .int .i64 0, .slice none 0 0, .int .i64 0, .int .i64 0, .int .i64 0, .int .i64 0, .int .i64 0, .int .i64 0, .int .i64 0, .int .i64 0, .bool false, .int .i64 0, .int .i64 0, .int .i64 0, .slice none 0 0] 35)
  have hx3 := hx.old hb3 (blk_lt hx)
  have hres3 := hres.old hb3 (blk_lt hres)
  have hgl := blk_lt hres
  have hbb := bnx hb hb3
  rw [HS.out] at y1
  clear hb hb3 hx hres c0
  generalize (((w.alloc (.cells (ubL V a).toArray 35)).alloc (.cells #[.int .i64 0, .int .i64 0, .int .i64 0, .int .i64 0, .int .i64 0, .int .i64 0, .int .i64 0, .int .i64 0, .int .i64 0, .int .i64 0, .int .i64 0, .int .i64 0, .int .i64 0, .int .i64 0, .int .i64 0, .int .i64 0, .int .i64 0, .int .i64 0, .int .i64 0, .int .i64 0, .int .i64 0, .int .i64 0, .int .i64 0, .int .i64 0, .int .i64 0, .int .i64 0, .int .i64 0, .int .i64 0, .int .i64 0, .int .i64 0, .int .i64 0, .int .i64 0, .int .i64 0, .int .i64 0, .slice none 0 0, .int .i64 0, .int .i64 0, .int .i64 0, .int .i64 0, .int .i64 0, .int .i64 0, .int .i64 0, .int .i64 0, .bool false, .int .i64 0, .int .i64 0, .int .i64 0, .slice none 0 0] 35)).alloc (.cells #[.int .i64 0, .int .i64 0, .int .i64 0, .int .i64 0, .int .i64 0, .int .i64 0, .int .i64 0, .int .i64 0, .int .i64 0, .int .i64 0, .int .i64 0, .int .i64 0, .int .i64 0, .int .i64 0, .int .i64 0, .int .i64 0, .int .i64 0, .int .i64 0, .int .i64 0, .int .i64 0, .int .i64 0, .int .i64 0, .int .i64 0, .int .i64 0, .int .i64 0, .int .i64 0, .int .i64 0, .int .i64 0, .int .i64 0, .int .i64 0, .int .i64 0, .int .i64 0, .int .i64 0, .int .i64 0, .slice none 0 0, .int .i64 0, .int .i64 0, .int .i64 0, .int .i64 0, .int .i64 0, .int .i64 0, .int .i64 0, .int .i64 0, .bool false, .int .i64 0, .int .i64 0, .int .i64 0, .slice none 0 0] 35)) = w1 at *
  refine go_ (wpList_store_row rfl _ _ _ rfl (w.heap.size + 1 + 1) (ubL { ub0 with k := 3 } ua0).toArray rfl rfl _ _ y1 (ub_size _ _ rfl rfl) (ub_sizes (V := ub0) (a := ua0) rfl rfl rfl rfl) (ub_one _ _) ?_)
  have hm5 : UbB _ (w.heap.size + 1 + 1) { ub0 with k := 3 } ua0 := setRow_heap _ _ _ (ubL { ub0 with k := 3 } ua0).toArray _ _ y1
  have haw : Aw (fun k => k = (w.heap.size + 1 + 1)) w1 (w1.setRow (w.heap.size + 1 + 1) (ubL { ub0 with k := 3 } ua0).toArray) := aw_setRow20 _ _
  have hx : UbB _ w.heap.size V a := haw.keep hx3 (by omega)
  have hres : UbB _ (w.heap.size + 1) ub0 ua0 := haw.keep hres3 (by omega)
  have hb := below_aw20 hbb haw (fun k hk => by rw [hk]; omega) hbb.size
  generalize w1.setRow (w.heap.size + 1 + 1) (ubL { ub0 with k := 3 } ua0).toArray = w2 at *
  clear haw y1 hx3 hres3 hbb
  go_wp2_with (first | (with_reducible refine stop_loadT 35 ?_) | (with_reducible refine stop_storeT 35 ?_) | (with_reducible refine stop_loadG 35 ?_))
  refine go_ (wpList_load_row rfl _ _ rfl w.heap.size rfl _ _ _ _ hx Tryz.underlying35 rfl Hsz.out ?_)
  go_wp2_with fail
  go_fit (Hnm.out w2)
  rintro e w3 ⟨rfl, hb2⟩
  have hgm5 := blk_lt hm5
  replace hx := hx.old hb2 (blk_lt hx)
  replace hres := hres.old hb2 (blk_lt hres)
  replace hm5 := hm5.old hb2 hgm5
  replace hb := bnx hb hb2
  clear hb2
  go_wp2_with fail
  go_fit (ubnamed_any C I w3)
  rintro e w4 ⟨rfl, rfl⟩
  rw [hP]
  have hr3 := (hr.up hb).more hb.size
  go_wp2_with (first | (with_reducible refine stop_loadT 35 ?_) | (with_reducible refine stop_storeT 35 ?_) | (with_reducible refine stop_loadG 35 ?_))
  refine go_ (wpList_load_row rfl _ _ rfl w.heap.size rfl _ _ _ _ hx Tryz.underlying35 rfl Hsz.out ?_)
  go_wp2_with fail
  go_fit (Hcp.out (w.heap.size + 1 + 1) w3 hr3 hm5)
  rintro e w5 ⟨a5, rfl, hm5', hr5, hf5, hb5⟩
  replace hres := hres.old hb5 (by omega)
  replace hb := hb.trans (hb5.mono (by omega))
  clear hm5 hx hr3 hb5
  have hm5 := hm5'
  clear hm5'
  go_wp2_with (first | (with_reducible refine stop_loadT 35 ?_) | (with_reducible refine stop_storeT 35 ?_) | (with_reducible refine stop_loadG 35 ?_))
  refine go_ (wpList_load_row rfl _ _ rfl (w.heap.size + 1 + 1) rfl _ _ _ _ hm5 Tryz.underlying35 rfl (ub_size UP a5 HL.out.1 HL.out.2) ?_)
  go_wp2_with (first | (with_reducible refine stop_loadT 35 ?_) | (with_reducible refine stop_storeT 35 ?_) | (with_reducible refine stop_loadG 35 ?_))
  refine go_ (wpList_store_row rfl _ _ _ rfl (w.heap.size + 1) (ubL UP a5).toArray rfl rfl _ _ hres (ub_size UP a5 HL.out.1 HL.out.2) (ub_sizes rfl rfl HL.out.1 HL.out.2) (ub_one UP a5) ?_)
  have hres2 := setRow_heap _ _ _ (ubL UP a5).toArray _ _ hres
  have haw : Aw (fun k => k = w.heap.size + 1) w5 (w5.setRow (w.heap.size + 1) (ubL UP a5).toArray) := aw_setRow20 _ _
  have hb6 := below_aw20 hb haw (fun k hk => by rw [hk]; omega) hb.size
  have hr6 := ubr_aw hr5 haw (fun p hp => by have := hf5 p hp; omega)
  generalize w5.setRow (w.heap.size + 1) (ubL UP a5).toArray = w6 at *
  go_wp2
  exact bodyPost_ret (results_cellU1 rfl _ _ (w.heap.size + 1) _ _ _ _ rfl hres2 Tryz.underlying35 rfl (ub_size UP a5 HL.out.1 HL.out.2)) rfl ⟨a5, rfl, hr6, hb6⟩

set_option maxRecDepth 10000 in
set_option maxHeartbeats 4000000 in
theorem ubPlain_4 (V : UbV) (a : UbA) (h : UbOk V) (w : World) (hr : UbR w w.heap.size V a) (hn : a.n ≤ 1000 ∧ a.n' ≤ 1000) (hk : V.k = 4) :
    Calls Tryz.prog 15 #[.agg (ubL V a).toArray] w (RetUP w (ubPlain V)) := by
  obtain ⟨UP, hUP⟩ : ∃ UP, UP = ubPlain V := ⟨_, rfl⟩
  have HL : Hid (UP.p.length = 32 ∧ UP.d.length = 8) := Lib.hid (by rw [hUP]; exact ⟨(ubPlain_ok h).pl, (ubPlain_ok h).dl⟩)
  obtain ⟨C, hC⟩ : ∃ C, C = ubC V := ⟨_, rfl⟩
  obtain ⟨I, hI⟩ : ∃ I, I = ubI V := ⟨_, rfl⟩
  have hP : ubPart (ubC V) (ubI V) = .iface 91 (.agg #[]) := by cases hy : V.y <;> simp [ubPart, ubC, ubI, ubKd, hk, hy]
  have Hnm := Lib.hid (fun w => ubnames_any V a h.pl h.dl w)
  rw [← hC, ← hI] at Hnm hP
  have Hcp := Lib.hid (fun g w hr ho => ubcopy4 V a h g w hr ho hk hn)
  rw [← hUP] at Hcp
  have hm : ∀ w : World, (method 59 91 (.agg #[]) "landfall/ubx.copy").run Tryz.prog w = .ok (158, .agg #[]) w := fun _ => by kernel_rfl
  have Hsz := Lib.hid (ub_size V a h.pl h.dl)
  have HU := Lib.hid hUP
  rw [← hUP]
  obtain ⟨x0, x1, hs, hb⟩ := al2 w (.cells (ubL V a).toArray 35) (.cells #[.int .i64 0, .int .i64 0, .int .i64 0, .int .i64 0, .int .i64 0, .int .i64 0, .int .i64 0, .int .i64 0, .int .i64 0, .int .i64 0, .int .i64 0, .int .i64 0, .int .i64 0, .int .i64 0, .int .i64 0, .int .i64 0, .int .i64 0, .int .i64 0, .int .i64 0, .int .i64 0, .int .i64 0, .int .i64 0, .int .i64 0, .int .i64 0, .int .i64 0, .int .i64 0, .int .i64 0, .int .i64 0, .int .i64 0, .int .i64 0, .int .i64 0, .int .i64 0, .int .i64 0, .int .i64 0, .slice none 0 0, .int .i64 0, .int .i64 0, .int .i64 0, .int .i64 0, .int .i64 0, .int .i64 0, .int .i64 0, .int .i64 0, .bool false, .int .i64 0, .int .i64 0, .int .i64 0, .slice none 0 0] 35)
  have hx : UbB ((w.alloc (.cells (ubL V a).toArray 35)).alloc (.cells #[.int .i64 0, .int .i64 0, .int .i64 0, .int .i64 0, .int .i64 0, .int .i64 0, .int .i64 0, .int .i64 0, .int .i64 0, .int .i64 0, .int .i64 0, .int .i64 0, .int .i64 0, .int .i64 0, .int .i64 0, .int .i64 0, .int .i64 0, .int .i64 0, .int .i64 0, .int .i64 0, .int .i64 0, .int .i64 0, .int .i64 0, .int .i64 0, .int .i64 0, .int .i64 0, .int .i64 0, .int .i64 0, .int .i64 0, .int .i64 0, .int .i64 0, .int .i64 0, .int .i64 0, .int .i64 0, .slice none 0 0, .int .i64 0, .int .i64 0, .int .i64 0, .int .i64 0, .int .i64 0, .int .i64 0, .int .i64 0, .int .i64 0, .bool false, .int .i64 0, .int .i64 0, .int .i64 0, .slice none 0 0] 35)) w.heap.size V a := x0
  have hres : UbB ((w.alloc (.cells (ubL V a).toArray 35)).alloc (.cells #[.int .i64 0, .int .i64 0, .int .i64 0, .int .i64 0, .int .i64 0, .int .i64 0, .int .i64 0, .int .i64 0, .int .i64 0, .int .i64 0, .int .i64 0, .int .i64 0, .int .i64 0, .int .i64 0, .int .i64 0, .int .i64 0, .int .i64 0, .int .i64 0, .int .i64 0, .int .i64 0, .int .i64 0, .int .i64 0, .int .i64 0, .int .i64 0, .int .i64 0, .int .i64 0, .int .i64 0, .int .i64 0, .int .i64 0, .int .i64 0, .int .i64 0, .int .i64 0, .int .i64 0, .int .i64 0, .slice none 0 0, .int .i64 0, .int .i64 0, .int .i64 0, .int .i64 0, .int .i64 0, .int .i64 0, .int .i64 0, .int .i64 0, .bool false, .int .i64 0, .int .i64 0, .int .i64 0, .slice none 0 0] 35)) (w.heap.size + 1) ub0 ua0 := x1
  have HS := Lib.hid hs
  clear hUP x0 x1 hs
  have c0 := hx.kc
  rw [hk] at c0
  clear hC hI hk h hn
  go_enter Tryz.func15, Tryz.ntmps15
  go_wp2_with (first | (with_reducible refine stop_loadT 35 ?_) | (with_reducible refine stop_storeT 35 ?_) | (with_reducible refine stop_loadG 35 ?_))
  have y1 := heap_alloc_new ((w.alloc (.cells (ubL V a).toArray 35)).alloc (.cells #[.int .i64 0, .int .i64 0, .int .i64 0, .int .i64 0, .int .i64 0, .int .i64 0, .int .i64 0, .int .i64 0, .int .i64 0, .int .i64 0, .int .i64 0, .int .i64 0, .int .i64 0, .int .i64 0, .int .i64 0, .int .i64 0, .int .i64 0, .int .i64 0, .int .i64 0, .int .i64 0, .int .i64 0, .int .i64 0, .int .i64 0, .int .i64 0, .int .i64 0, .int .i64 0, .int .i64 0, .int .i64 0, .int .i64 0, .int .i64 0, .int .i64 0, .int .i64 0, .int .i64 0, .int .i64 0, .slice none 0 0, .int .i64 0, .int .i64 0, .int .i64 0, .int .i64 0, .int .i64 0, .int .i64 0, .int .i64 0, .int .i64 0, .bool false, .int .i64 0, .int .i64 0, .int .i64 0, .slice none 0 0] 35)) (.cells #[.int .i64 0, .int .i64 0, .int .i64 0, .int .i64 0, .int .i64 0, .int .i64 0, .int .i64 0, .int .i64 0, .int .i64 0, .int .i64 0, .int .i64 0, .int .i64 0, .int .i64 0, .int .i64 0, .int .i64 0, .int .i64 0, .int .i64 0, .int .i64 0, .int .i64 0, .int .i64 0, .int .i64 0, .int .i64 0, .int .i64 0, .int .i64 0, .int .i64 0, .int .i64 0, .int .i64 0, .int .i64 0, .int .i64 0, .int .i64 0, .int .i64 0, .int .i64 0, .int .i64 0, .int .i64 0, .slice none 0 0, .int .i64 0, .int .i64 0, .int .i64 0, .int .i64 0, .int .i64 0, .int .i64 0, .int .i64 0, .int .i64 0, .bool false, .int .i64 0, .int .i64 0, .int .i64 0, .slice none 0 0] 35)
  have hb3 := (Below.refl ((w.alloc (.cells (ubL V a).toArray 35)).alloc (.cells #[.int .i64 0, .int .i64 0, .int .i64 0, .int .i64 0, .int .i64 0, .int .i64 0, .int .i64 0, .int .i64 0, .int .i64 0, .int .i64 0, .int .i64 0, .int .i64 0, .int .i64 0, .int .i64 0, .int .i64 0, .int .i64 0, .int .i64 0, .int .i64 0, .int .i64 0, .int .i64 0, .int .i64 0, .int .i64 0, .int .i64 0, .int .i64 0, .int .i64 0, .int .i64 0, .int .i64 0, .int .i64 0, .int .i64 0, .int .i64 0, .int .i64 0, .int .i64 0, .int .i64 0, .int .i64 0, .slice none 0 0, .int .i64 0, .int .i64 0, .int .i64 0, .int .i64 0, .int .i64 0, .int .i64 0, .int .i64 0, .int .i64 0, .bool false, .int .i64 0, .int .i64 0, .int .i64 0, .slice none 0 0] 35)).heap.size ((w.alloc (.cells (ubL V a).toArray 35)).alloc (.cells #[.int .i64 0, .int .i64 0, .int .i64 0, .int .i64 0, .int .i64 0, .int .i64 0, .int .i64 0, .int .i64 0, .int .i64 0, .int .i64 0, .int .i64 0, .int .i64 0, .int .i64 0, .int .i64 0, .int .i64 0, .int .i64 0, .int .i64 0, .int .i64 0, .int .i64 0, .int .i64 0, .int .i64 0, .int .i64 0, .int .i64 0, .int .i64 0, .int .i64 0, .int .i64 0, .int .i64 0, .int .i64 0, .int .i64 0, .int .i64 0, .int .i64 0, .int .i64 0, .int .i64 0, .int .i64 0, .slice none 0 0, .int .i64 0, .int .i64 0, .int .i64 0, .int .i64 0, .int .i64 0, .int .i64 0, .int .i64 0, .int .i64 0, .bool false, .int .i64 0, .int .i64 0, .int .i64 0, .slice none 0 0] 35))).alloc (Nat.le_refl _) (.cells #[.int .i64 0, .int .i64 0, .int .i64 0, .int .i64 0, .int .i64 0, .int .i64 0, .int .i64 0, .int .i64 0, .int .i64 0, .int .i64 0, .int .i64 0, .int .i64 0, .int .i64 0, .int .i64 0, .int .i64 0, .int .i64 0, .int .i64 0, .int .i64 0, .int .i64 0, .int .i64 0, .int .i64 0, .int .i64 0, .int .i64 0, .int .i64 0, .int .i64 0, .int .i64 0, .int .i64 0, .int .i64 0, .int .i64 0, .int .i64 0, .int .i64 0, .int .i64 0, .int .i64 0, .int .i64 0, .slice none 0 0, .int .i64 0, .int .i64 0, .int .i64 0, .int .i64 0, .int .i64 0, .int .i64 0, .int .i64 0, .int .i64 0, .bool false, .int .i64 0, .int .i64 0, .int .i64 0, .slice none 0 0] 35)
  have hx3 := hx.old hb3 (blk_lt hx)
  have hres3 := hres.old hb3 (blk_lt hres)
  have hgl := blk_lt hres
  have hbb := bnx hb hb3
  rw [HS.out] at y1
  clear hb hb3 hx hres c0
  generalize (((w.alloc (.cells (ubL V a).toArray 35)).alloc (.cells #[.int .i64 0, .int .i64 0, .int .i64 0, .int .i64 0, .int .i64 0, .int .i64 0, .int .i64 0, .int .i64 0, .int .i64 0, .int .i64 0, .int .i64 0, .int .i64 0, .int .i64 0, .int .i64 0, .int .i64 0, .int .i64 0, .int .i64 0, .int .i64 0, .int .i64 0, .int .i64 0, .int .i64 0, .int .i64 0, .int .i64 0, .int .i64 0, .int .i64 0, .int .i64 0, .int .i64 0, .int .i64 0, .int .i64 0, .int .i64 0, .int .i64 0, .int .i64 0, .int .i64 0, .int .i64 0, .slice none 0 0, .int .i64 0, .int .i64 0, .int .i64 0, .int .i64 0, .int .i64 0, .int .i64 0, .int .i64 0, .int .i64 0, .bool false, .int .i64 0, .int .i64 0, .int .i64 0, .slice none 0 0] 35)).alloc (.cells #[.int .i64 0, .int .i64 0, .int .i64 0, .int .i64 0, .int .i64 0, .int .i64 0, .int .i64 0, .int .i64 0, .int .i64 0, .int .i64 0, .int .i64 0, .int .i64 0, .int .i64 0, .int .i64 0, .int .i64 0, .int .i64 0, .int .i64 0, .int .i64 0, .int .i64 0, .int .i64 0, .int .i64 0, .int .i64 0, .int .i64 0, .int .i64 0, .int .i64 0, .int .i64 0, .int .i64 0, .int .i64 0, .int .i64 0, .int .i64 0, .int .i64 0, .int .i64 0, .int .i64 0, .int .i64 0, .slice none 0 0, .int .i64 0, .int .i64 0, .int .i64 0, .int .i64 0, .int .i64 0, .int .i64 0, .int .i64 0, .int .i64 0, .bool false, .int .i64 0, .int .i64 0, .int .i64 0, .slice none 0 0] 35)) = w1 at *
  refine go_ (wpList_store_row rfl _ _ _ rfl (w.heap.size + 1 + 1) (ubL { ub0 with k := 4 } ua0).toArray rfl rfl _ _ y1 (ub_size _ _ rfl rfl) (ub_sizes (V := ub0) (a := ua0) rfl rfl rfl rfl) (ub_one _ _) ?_)
  have hm5 : UbB _ (w.heap.size + 1 + 1) { ub0 with k := 4 } ua0 := setRow_heap _ _ _ (ubL { ub0 with k := 4 } ua0).toArray _ _ y1
  have haw : Aw (fun k => k = (w.heap.size + 1 + 1)) w1 (w1.setRow (w.heap.size + 1 + 1) (ubL { ub0 with k := 4 } ua0).toArray) := aw_setRow20 _ _
  have hx : UbB _ w.heap.size V a := haw.keep hx3 (by omega)
  have hres : UbB _ (w.heap.size + 1) ub0 ua0 := haw.keep hres3 (by omega)
  have hb := below_aw20 hbb haw (fun k hk => by rw [hk]; omega) hbb.size
  generalize w1.setRow (w.heap.size + 1 + 1) (ubL { ub0 with k := 4 } ua0).toArray = w2 at *
  clear haw y1 hx3 hres3 hbb
  go_wp2_with (first | (with_reducible refine stop_loadT 35 ?_) | (with_reducible refine stop_storeT 35 ?_) | (with_reducible refine stop_loadG 35 ?_))
  refine go_ (wpList_load_row rfl _ _ rfl w.heap.size rfl _ _ _ _ hx Tryz.underlying35 rfl Hsz.out ?_)
  go_wp2_with fail
  go_fit (Hnm.out w2)
  rintro e w3 ⟨rfl, hb2⟩
  have hgm5 := blk_lt hm5
  replace hx := hx.old hb2 (blk_lt hx)
  replace hres := hres.old hb2 (blk_lt hres)
  replace hm5 := hm5.old hb2 hgm5
  replace hb := bnx hb hb2
  clear hb2
  go_wp2_with fail
  go_fit (ubnamed_any C I w3)
  rintro e w4 ⟨rfl, rfl⟩
  rw [hP]
  have hr3 := (hr.up hb).more hb.size
  go_wp2_with (first | (with_reducible refine stop_loadT 35 ?_) | (with_reducible refine stop_storeT 35 ?_) | (with_reducible refine stop_loadG 35 ?_))
  refine go_ (wpList_load_row rfl _ _ rfl w.heap.size rfl _ _ _ _ hx Tryz.underlying35 rfl Hsz.out ?_)
  go_wp2_with fail
  go_fit (Hcp.out (w.heap.size + 1 + 1) w3 hr3 hm5)
  rintro e w5 ⟨a5, rfl, hm5', hr5, hf5, hb5⟩
  replace hres := hres.old hb5 (by omega)
  replace hb := hb.trans (hb5.mono (by omega))
  clear hm5 hx hr3 hb5
  have hm5 := hm5'
  clear hm5'
  go_wp2_with (first | (with_reducible refine stop_loadT 35 ?_) | (with_reducible refine stop_storeT 35 ?_) | (with_reducible refine stop_loadG 35 ?_))
  refine go_ (wpList_load_row rfl _ _ rfl (w.heap.size + 1 + 1) rfl _ _ _ _ hm5 Tryz.underlying35 rfl (ub_size UP a5 HL.out.1 HL.out.2) ?_)
  go_wp2_with (first | (with_reducible refine stop_loadT 35 ?_) | (with_reducible refine stop_storeT 35 ?_) | (with_reducible refine stop_loadG 35 ?_))
  refine go_ (wpList_store_row rfl _ _ _ rfl (w.heap.size + 1) (ubL UP a5).toArray rfl rfl _ _ hres (ub_size UP a5 HL.out.1 HL.out.2) (ub_sizes rfl rfl HL.out.1 HL.out.2) (ub_one UP a5) ?_)
  have hres2 := setRow_heap _ _ _ (ubL UP a5).toArray _ _ hres
  have haw : Aw (fun k => k = w.heap.size + 1) w5 (w5.setRow (w.heap.size + 1) (ubL UP a5).toArray) := aw_setRow20 _ _
  have hb6 := below_aw20 hb haw (fun k hk => by rw [hk]; omega) hb.size
  have hr6 := ubr_aw hr5 haw (fun p hp => by have := hf5 p hp; omega)
  generalize w5.setRow (w.heap.size + 1) (ubL UP a5).toArray = w6 at *
  go_wp2
  exact bodyPost_ret (results_cellU1 rfl _ _ (w.heap.size + 1) _ _ _ _ rfl hres2 Tryz.underlying35 rfl (ub_size UP a5 HL.out.1 HL.out.2)) rfl ⟨a5, rfl, hr6, hb6⟩

set_option maxRecDepth 10000 in
set_option maxHeartbeats 4000000 in
theorem ubPlain_5 (V : UbV) (a : UbA) (h : UbOk V) (w : World) (hr : UbR w w.heap.size V a) (hn : a.n ≤ 1000 ∧ a.n' ≤ 1000) (hk : V.k = 5) :
    Calls Tryz.prog 15 #[.agg (ubL V a).toArray] w (RetUP w (ubPlain V)) := by
  obtain ⟨UP, hUP⟩ : ∃ UP, UP = ubPlain V := ⟨_, rfl⟩
  have HL : Hid (UP.p.length = 32 ∧ UP.d.length = 8) := Lib.hid (by rw [hUP]; exact ⟨(ubPlain_ok h).pl, (ubPlain_ok h).dl⟩)
  obtain ⟨C, hC⟩ : ∃ C, C = ubC V := ⟨_, rfl⟩
  obtain ⟨I, hI⟩ : ∃ I, I = ubI V := ⟨_, rfl⟩
  have hP : ubPart (ubC V) (ubI V) = .iface 92 (.agg #[]) := by simp [ubPart, ubC, ubI, ubKd, hk]
  have Hnm := Lib.hid (fun w => ubnames_any V a h.pl h.dl w)
  rw [← hC, ← hI] at Hnm hP
  have Hcp := Lib.hid (fun g w hr ho => ubcopy5 V a h g w hr ho hk hn)
  rw [← hUP] at Hcp
  have hm : ∀ w : World, (method 59 92 (.agg #[]) "landfall/ubx.copy").run Tryz.prog w = .ok (165, .agg #[]) w := fun _ => by kernel_rfl
  have Hsz := Lib.hid (ub_size V a h.pl h.dl)
  have HU := Lib.hid hUP
  rw [← hUP]
  obtain ⟨x0, x1, hs, hb⟩ := al2 w (.cells (ubL V a).toArray 35) (.cells #[.int .i64 0, .int .i64 0, .int .i64 0, .int .i64 0, .int .i64 0, .int .i64 0, .int .i64 0, .int .i64 0, .int .i64 0, .int .i64 0, .int .i64 0, .int .i64 0, .int .i64 0, .int .i64 0, .int .i64 0, .int .i64 0, .int .i64 0, .int .i64 0, .int .i64 0, .int .i64 0, .int .i64 0, .int .i64 0, .int .i64 0, .int .i64 0, .int .i64 0, .int .i64 0, .int .i64 0, .int .i64 0, .int .i64 0, .int .i64 0, .int .i64 0, .int .i64 0, .int .i64 0, .int .i64 0, .slice none 0 0, .int .i64 0, .int .i64 0, .int .i64 0, .int .i64 0, .int .i64 0, .int .i64 0, .int .i64 0, .int .i64 0, .bool false, .int .i64 0, .int .i64 0, .int .i64 0, .slice none 0 0] 35)
  have hx : UbB ((w.alloc (.cells (ubL V a).toArray 35)).alloc (.cells #[.int .i64 0, .int .i64 0, .int .i64 0, .int .i64 0, .int .i64 0, .int .i64 0, .int .i64 0, .int .i64 0, .int .i64 0, .int .i64 0, .int .i64 0, .int .i64 0, .int .i64 0, .int .i64 0, .int .i64 0, .int .i64 0, .int .i64 0, .int .i64 0, .int .i64 0, .int .i64 0, .int .i64 0, .int .i64 0, .int .i64 0, .int .i64 0, .int .i64 0, .int .i64 0, .int .i64 0, .int .i64 0, .int .i64 0, .int .i64 0, .int .i64 0, .int .i64 0, .int .i64 0, .int .i64 0, .slice none 0 0, .int .i64 0, .int .i64 0, .int .i64 0, .int .i64 0, .int .i64 0, .int .i64 0, .int .i64 0, .int .i64 0, .bool false, .int .i64 0, .int .i64 0, .int .i64 0, .slice none 0 0] 35)) w.heap.size V a := x0
  have hres : UbB ((w.alloc (.cells (ubL V a).toArray 35)).alloc (.cells #[.int .i64 0, .int .i64 0, .int .i64 0, .int .i64 0, .int .i64 0, .int .i64 0, .int .i64 0, .int .i64 0, .int .i64 0, .int .i64 0, .int .i64 0, .int .i64 0, .int .i64 0, .int .i64 0, .int .i64 0, .int .i64 0, .int .i64 0, .int .i64 0, .int .i64 0, .int .i64 0, .int .i64 0, .int .i64 0, .int .i64 0, .int .i64 0, .int .i64 0, .int .i64 0, .int .i64 0, .int .i64 0, .int .i64 0, .int .i64 0, .int .i64 0, .int .i64 0, .int .i64 0, .int .i64 0, .slice none 0 0, .int .i64 0, .int .i64 0, .int .i64 0, .int .i64 0, .int .i64 0, .int .i64 0, .int .i64 0, .int .i64 0, .bool false, .int .i64 0, .int .i64 0, .int .i64 0, .slice none 0 0] 35)) (w.heap.size + 1) ub0 ua0 := x1
  have HS := Lib.hid hs
  clear hUP x0 x1 hs
  have c0 := hx.kc
  rw [hk] at c0
  clear hC hI hk h hn
  go_enter Tryz.func15, Tryz.ntmps15
  go_wp2_with (first | (with_reducible refine stop_loadT 35 ?_) | (with_reducible refine stop_storeT 35 ?_) | (with_reducible refine stop_loadG 35 ?_))
  have y1 := heap_alloc_new ((w.alloc (.cells (ubL V a).toArray 35)).alloc (.cells #[.int .i64 0, .int .i64 0, .int .i64 0, .int .i64 0, .int .i64 0, .int .i64 0, .int .i64 0, .int .i64 0, .int .i64 0, .int .i64 0, .int .i64 0, .int .i64 0, .int .i64 0, .int .i64 0, .int .i64 0, .int .i64 0, .int .i64 0, .int .i64 0, .int .i64 0, .int .i64 0, .int .i64 0, .int .i64 0, .int .i64 0, .int .i64 0, .int .i64 0, .int .i64 0, .int .i64 0, .int .i64 0, .int .i64 0, .int .i64 0, .int .i64 0, .int .i64 0, .int .i64 0, .int .i64 0, .slice none 0 0, .int .i64 0, .int .i64 0, .int .i64 0, .int .i64 0, .int .i64 0, .int .i64 0, .int .i64 0, .int .i64 0, .bool false, .int .i64 0, .int .i64 0, .int .i64 0, .slice none 0 0] 35)) (.cells #[.int .i64 0, .int .i64 0, .int .i64 0, .int .i64 0, .int .i64 0, .int .i64 0, .int .i64 0, .int .i64 0, .int .i64 0, .int .i64 0, .int .i64 0, .int .i64 0, .int .i64 0, .int .i64 0, .int .i64 0, .int .i64 0, .int .i64 0, .int .i64 0, .int .i64 0, .int .i64 0, .int .i64 0, .int .i64 0, .int .i64 0, .int .i64 0, .int .i64 0, .int .i64 0, .int .i64 0, .int .i64 0, .int .i64 0, .int .i64 0, .int .i64 0, .int .i64 0, .int .i64 0, .int .i64 0, .slice none 0 0, .int .i64 0, .int .i64 0, .int .i64 0, .int .i64 0, .int .i64 0, .int .i64 0, .int .i64 0, .int .i64 0, .bool false, .int .i64 0, .int .i64 0, .int .i64 0, .slice none 0 0] 35)
  have hb3 := (Below.refl ((w.alloc (.cells (ubL V a).toArray 35)).alloc (.cells #[.int .i64 0, .int .i64 0, .int .i64 0, .int .i64 0, .int .i64 0, .int .i64 0, .int .i64 0, .int .i64 0, .int .i64 0, .int .i64 0, .int .i64 0, .int .i64 0, .int .i64 0, .int .i64 0, .int .i64 0, .int .i64 0, .int .i64 0, .int .i64 0, .int .i64 0, .int .i64 0, .int .i64 0, .int .i64 0, .int .i64 0, .int .i64 0, .int .i64 0, .int .i64 0, .int .i64 0, .int .i64 0, .int .i64 0, .int .i64 0, .int .i64 0, .int .i64 0, .int .i64 0, .int .i64 0, .slice none 0 0, .int .i64 0, .int .i64 0, .int .i64 0, .int .i64 0, .int .i64 0, .int .i64 0, .int .i64 0, .int .i64 0, .bool false, .int .i64 0, .int .i64 0, .int .i64 0, .slice none 0 0] 35)).heap.size ((w.alloc (.cells (ubL V a).toArray 35)).alloc (.cells #[.int .i64 0, .int .i64 0, .int .i64 0, .int .i64 0, .int .i64 0, .int .i64 0, .int .i64 0, .int .i64 0, .int .i64 0, .int .i64 0, .int .i64 0, .int .i64 0, .int .i64 0, .int .i64 0, .int .i64 0, .int .i64 0, .int .i64 0, .int .i64 0, .int .i64 0, .int .i64 0, .int .i64 0, .int .i64 0, .int .i64 0, .int .i64 0, .int .i64 0, .int .i64 0, .int .i64 0, .int .i64 0, .int .i64 0, .int .i64 0, .int .i64 0, .int .i64 0, .int .i64 0, .int .i64 0, .slice none 0 0, .int .i64 0, .int .i64 0, .int .i64 0, .int .i64 0, .int .i64 0, .int .i64 0, .int .i64 0, .int .i64 0, .bool false, .int .i64 0, .int .i64 0, .int .i64 0, .slice none 0 0] 35))).alloc (Nat.le_refl _) (.cells #[.int .i64 0, .int .i64 0, .int .i64 0, .int .i64 0, .int .i64 0, .int .i64 0, .int .i64 0, .int .i64 0, .int .i64 0, .int .i64 0, .int .i64 0, .int .i64 0, .int .i64 0, .int .i64 0, .int .i64 0, .int .i64 0, .int .i64 0, .int .i64 0, .int .i64 0, .int .i64 0, .int .i64 0, .int .i64 0, .int .i64 0, .int .i64 0, .int .i64 0, .int .i64 0, .int .i64 0, .int .i64 0, .int .i64 0, .int .i64 0, .int .i64 0, .int .i64 0, .int .i64 0, .int .i64 0, .slice none 0 0, .int .i64 0, .int .i64 0, .int .i64 0, .int .i64 0, .int .i64 0, .int .i64 0, .int .i64 0, .int .i64 0, .bool false, .int .i64 0, .int .i64 0, .int .i64 0, .slice none 0 0] 35)
  have hx3 := hx.old hb3 (blk_lt hx)
  have hres3 := hres.old hb3 (blk_lt hres)
  have hgl := blk_lt hres
  have hbb := bnx hb hb3
  rw [HS.out] at y1
  clear hb hb3 hx hres c0
  generalize (((w.alloc (.cells (ubL V a).toArray 35)).alloc (.cells #[.int .i64 0, .int .i64 0, .int .i64 0, .int .i64 0, .int .i64 0, .int .i64 0, .int .i64 0, .int .i64 0, .int .i64 0, .int .i64 0, .int .i64 0, .int .i64 0, .int .i64 0, .int .i64 0, .int .i64 0, .int .i64 0, .int .i64 0, .int .i64 0, .int .i64 0, .int .i64 0, .int .i64 0, .int .i64 0, .int .i64 0, .int .i64 0, .int .i64 0, .int .i64 0, .int .i64 0, .int .i64 0, .int .i64 0, .int .i64 0, .int .i64 0, .int .i64 0, .int .i64 0, .int .i64 0, .slice none 0 0, .int .i64 0, .int .i64 0, .int .i64 0, .int .i64 0, .int .i64 0, .int .i64 0, .int .i64 0, .int .i64 0, .bool false, .int .i64 0, .int .i64 0, .int .i64 0, .slice none 0 0] 35)).alloc (.cells #[.int .i64 0, .int .i64 0, .int .i64 0, .int .i64 0, .int .i64 0, .int .i64 0, .int .i64 0, .int .i64 0, .int .i64 0, .int .i64 0, .int .i64 0, .int .i64 0, .int .i64 0, .int .i64 0, .int .i64 0, .int .i64 0, .int .i64 0, .int .i64 0, .int .i64 0, .int .i64 0, .int .i64 0, .int .i64 0, .int .i64 0, .int .i64 0, .int .i64 0, .int .i64 0, .int .i64 0, .int .i64 0, .int .i64 0, .int .i64 0, .int .i64 0, .int .i64 0, .int .i64 0, .int .i64 0, .slice none 0 0, .int .i64 0, .int .i64 0, .int .i64 0, .int .i64 0, .int .i64 0, .int .i64 0, .int .i64 0, .int .i64 0, .bool false, .int .i64 0, .int .i64 0, .int .i64 0, .slice none 0 0] 35)) = w1 at *
  refine go_ (wpList_store_row rfl _ _ _ rfl (w.heap.size + 1 + 1) (ubL { ub0 with k := 5 } ua0).toArray rfl rfl _ _ y1 (ub_size _ _ rfl rfl) (ub_sizes (V := ub0) (a := ua0) rfl rfl rfl rfl) (ub_one _ _) ?_)
  have hm5 : UbB _ (w.heap.size + 1 + 1) { ub0 with k := 5 } ua0 := setRow_heap _ _ _ (ubL { ub0 with k := 5 } ua0).toArray _ _ y1
  have haw : Aw (fun k => k = (w.heap.size + 1 + 1)) w1 (w1.setRow (w.heap.size + 1 + 1) (ubL { ub0 with k := 5 } ua0).toArray) := aw_setRow20 _ _
  have hx : UbB _ w.heap.size V a := haw.keep hx3 (by omega)
  have hres : UbB _ (w.heap.size + 1) ub0 ua0 := haw.keep hres3 (by omega)
  have hb := below_aw20 hbb haw (fun k hk => by rw [hk]; omega) hbb.size
  generalize w1.setRow (w.heap.size + 1 + 1) (ubL { ub0 with k := 5 } ua0).toArray = w2 at *
  clear haw y1 hx3 hres3 hbb
  go_wp2_with (first | (with_reducible refine stop_loadT 35 ?_) | (with_reducible refine stop_storeT 35 ?_) | (with_reducible refine stop_loadG 35 ?_))
  refine go_ (wpList_load_row rfl _ _ rfl w.heap.size rfl _ _ _ _ hx Tryz.underlying35 rfl Hsz.out ?_)
  go_wp2_with fail
  go_fit (Hnm.out w2)
  rintro e w3 ⟨rfl, hb2⟩
  have hgm5 := blk_lt hm5
  replace hx := hx.old hb2 (blk_lt hx)
  replace hres := hres.old hb2 (blk_lt hres)
  replace hm5 := hm5.old hb2 hgm5
  replace hb := bnx hb hb2
  clear hb2
  go_wp2_with fail
  go_fit (ubnamed_any C I w3)
  rintro e w4 ⟨rfl, rfl⟩
  rw [hP]
  have hr3 := (hr.up hb).more hb.size
  go_wp2_with (first | (with_reducible refine stop_loadT 35 ?_) | (with_reducible refine stop_storeT 35 ?_) | (with_reducible refine stop_loadG 35 ?_))
  refine go_ (wpList_load_row rfl _ _ rfl w.heap.size rfl _ _ _ _ hx Tryz.underlying35 rfl Hsz.out ?_)
  go_wp2_with fail
  go_fit (Hcp.out (w.heap.size + 1 + 1) w3 hr3 hm5)
  rintro e w5 ⟨a5, rfl, hm5', hr5, hf5, hb5⟩
  replace hres := hres.old hb5 (by omega)
  replace hb := hb.trans (hb5.mono (by omega))
  clear hm5 hx hr3 hb5
  have hm5 := hm5'
  clear hm5'
  go_wp2_with (first | (with_reducible refine stop_loadT 35 ?_) | (with_reducible refine stop_storeT 35 ?_) | (with_reducible refine stop_loadG 35 ?_))
  refine go_ (wpList_load_row rfl _ _ rfl (w.heap.size + 1 + 1) rfl _ _ _ _ hm5 Tryz.underlying35 rfl (ub_size UP a5 HL.out.1 HL.out.2) ?_)
  go_wp2_with (first | (with_reducible refine stop_loadT 35 ?_) | (with_reducible refine stop_storeT 35 ?_) | (with_reducible refine stop_loadG 35 ?_))
  refine go_ (wpList_store_row rfl _ _ _ rfl (w.heap.size + 1) (ubL UP a5).toArray rfl rfl _ _ hres (ub_size UP a5 HL.out.1 HL.out.2) (ub_sizes rfl rfl HL.out.1 HL.out.2) (ub_one UP a5) ?_)
  have hres2 := setRow_heap _ _ _ (ubL UP a5).toArray _ _ hres
  have haw : Aw (fun k => k = w.heap.size + 1) w5 (w5.setRow (w.heap.size + 1) (ubL UP a5).toArray) := aw_setRow20 _ _
  have hb6 := below_aw20 hb haw (fun k hk => by rw [hk]; omega) hb.size
  have hr6 := ubr_aw hr5 haw (fun p hp => by have := hf5 p hp; omega)
  generalize w5.setRow (w.heap.size + 1) (ubL UP a5).toArray = w6 at *
  go_wp2
  exact bodyPost_ret (results_cellU1 rfl _ _ (w.heap.size + 1) _ _ _ _ rfl hres2 Tryz.underlying35 rfl (ub_size UP a5 HL.out.1 HL.out.2)) rfl ⟨a5, rfl, hr6, hb6⟩

set_option maxRecDepth 10000 in
set_option maxHeartbeats 4000000 in
theorem ubPlain_0 (V : UbV) (a : UbA) (h : UbOk V) (w : World) (hr : UbR w w.heap.size V a) (hn : a.n ≤ 1000 ∧ a.n' ≤ 1000) (hk : V.k ≠ 1 ∧ V.k ≠ 2 ∧ V.k ≠ 3 ∧ V.k ≠ 4 ∧ V.k ≠ 5) :
    Calls Tryz.prog 15 #[.agg (ubL V a).toArray] w (RetUP w (ubPlain V)) := by
  obtain ⟨UP, hUP⟩ : ∃ UP, UP = ubPlain V := ⟨_, rfl⟩
  have HL : Hid (UP.p.length = 32 ∧ UP.d.length = 8) := Lib.hid (by rw [hUP]; exact ⟨(ubPlain_ok h).pl, (ubPlain_ok h).dl⟩)
  obtain ⟨C, hC⟩ : ∃ C, C = ubC V := ⟨_, rfl⟩
  obtain ⟨I, hI⟩ : ∃ I, I = ubI V := ⟨_, rfl⟩
  have hP : ubPart (ubC V) (ubI V) = .nilIface := by obtain ⟨k1, k2, k3, k4, k5⟩ := hk; simp [ubPart, ubC, ubI, ubKd, k1, k2, k3, k4, k5]
  have Hnm := Lib.hid (fun w => ubnames_any V a h.pl h.dl w)
  rw [← hC, ← hI] at Hnm hP
  have hU0 : UP = { ub0 with k := V.k } := by obtain ⟨k1, k2, k3, k4, k5⟩ := hk; rw [hUP]; simp [ubPlain, k1, k2, k3, k4, k5]
  have HU0 := Lib.hid hU0
  clear hU0
  have Hsz := Lib.hid (ub_size V a h.pl h.dl)
  have HU := Lib.hid hUP
  rw [← hUP]
  obtain ⟨x0, x1, hs, hb⟩ := al2 w (.cells (ubL V a).toArray 35) (.cells #[.int .i64 0, .int .i64 0, .int .i64 0, .int .i64 0, .int .i64 0, .int .i64 0, .int .i64 0, .int .i64 0, .int .i64 0, .int .i64 0, .int .i64 0, .int .i64 0, .int .i64 0, .int .i64 0, .int .i64 0, .int .i64 0, .int .i64 0, .int .i64 0, .int .i64 0, .int .i64 0, .int .i64 0, .int .i64 0, .int .i64 0, .int .i64 0, .int .i64 0, .int .i64 0, .int .i64 0, .int .i64 0, .int .i64 0, .int .i64 0, .int .i64 0, .int .i64 0, .int .i64 0, .int .i64 0, .slice none 0 0, .int .i64 0, .int .i64 0, .int .i64 0, .int .i64 0, .int .i64 0, .int .i64 0, .int .i64 0, .int .i64 0, .bool false, .int .i64 0, .int .i64 0, .int .i64 0, .slice none 0 0] 35)
  have hx : UbB ((w.alloc (.cells (ubL V a).toArray 35)).alloc (.cells #[.int .i64 0, .int .i64 0, .int .i64 0, .int .i64 0, .int .i64 0, .int .i64 0, .int .i64 0, .int .i64 0, .int .i64 0, .int .i64 0, .int .i64 0, .int .i64 0, .int .i64 0, .int .i64 0, .int .i64 0, .int .i64 0, .int .i64 0, .int .i64 0, .int .i64 0, .int .i64 0, .int .i64 0, .int .i64 0, .int .i64 0, .int .i64 0, .int .i64 0, .int .i64 0, .int .i64 0, .int .i64 0, .int .i64 0, .int .i64 0, .int .i64 0, .int .i64 0, .int .i64 0, .int .i64 0, .slice none 0 0, .int .i64 0, .int .i64 0, .int .i64 0, .int .i64 0, .int .i64 0, .int .i64 0, .int .i64 0, .int .i64 0, .bool false, .int .i64 0, .int .i64 0, .int .i64 0, .slice none 0 0] 35)) w.heap.size V a := x0
  have hres : UbB ((w.alloc (.cells (ubL V a).toArray 35)).alloc (.cells #[.int .i64 0, .int .i64 0, .int .i64 0, .int .i64 0, .int .i64 0, .int .i64 0, .int .i64 0, .int .i64 0, .int .i64 0, .int .i64 0, .int .i64 0, .int .i64 0, .int .i64 0, .int .i64 0, .int .i64 0, .int .i64 0, .int .i64 0, .int .i64 0, .int .i64 0, .int .i64 0, .int .i64 0, .int .i64 0, .int .i64 0, .int .i64 0, .int .i64 0, .int .i64 0, .int .i64 0, .int .i64 0, .int .i64 0, .int .i64 0, .int .i64 0, .int .i64 0, .int .i64 0, .int .i64 0, .slice none 0 0, .int .i64 0, .int .i64 0, .int .i64 0, .int .i64 0, .int .i64 0, .int .i64 0, .int .i64 0, .int .i64 0, .bool false, .int .i64 0, .int .i64 0, .int .i64 0, .slice none 0 0] 35)) (w.heap.size + 1) ub0 ua0 := x1
  have HS := Lib.hid hs
  clear hUP x0 x1 hs
  have c0 := hx.kc
  obtain ⟨kk, hkk⟩ : ∃ kk, kk = V.k := ⟨_, rfl⟩
  rw [← hkk] at c0
  have Hkk := Lib.hid hkk
  clear hkk
  clear hC hI hk h
  go_enter Tryz.func15, Tryz.ntmps15
  go_wp2_with (first | (with_reducible refine stop_loadT 35 ?_) | (with_reducible refine stop_storeT 35 ?_) | (with_reducible refine stop_loadG 35 ?_))
  have y1 := heap_alloc_new ((w.alloc (.cells (ubL V a).toArray 35)).alloc (.cells #[.int .i64 0, .int .i64 0, .int .i64 0, .int .i64 0, .int .i64 0, .int .i64 0, .int .i64 0, .int .i64 0, .int .i64 0, .int .i64 0, .int .i64 0, .int .i64 0, .int .i64 0, .int .i64 0, .int .i64 0, .int .i64 0, .int .i64 0, .int .i64 0, .int .i64 0, .int .i64 0, .int .i64 0, .int .i64 0, .int .i64 0, .int .i64 0, .int .i64 0, .int .i64 0, .int .i64 0, .int .i64 0, .int .i64 0, .int .i64 0, .int .i64 0, .int .i64 0, .int .i64 0, .int .i64 0, .slice none 0 0, .int .i64 0, .int .i64 0, .int .i64 0, .int .i64 0, .int .i64 0, .int .i64 0, .int .i64 0, .int .i64 0, .bool false, .int .i64 0, .int .i64 0, .int .i64 0, .slice none 0 0] 35)) (.cells #[.int .i64 0, .int .i64 0, .int .i64 0, .int .i64 0, .int .i64 0, .int .i64 0, .int .i64 0, .int .i64 0, .int .i64 0, .int .i64 0, .int .i64 0, .int .i64 0, .int .i64 0, .int .i64 0, .int .i64 0, .int .i64 0, .int .i64 0, .int .i64 0, .int .i64 0, .int .i64 0, .int .i64 0, .int .i64 0, .int .i64 0, .int .i64 0, .int .i64 0, .int .i64 0, .int .i64 0, .int .i64 0, .int .i64 0, .int .i64 0, .int .i64 0, .int .i64 0, .int .i64 0, .int .i64 0, .slice none 0 0, .int .i64 0, .int .i64 0, .int .i64 0, .int .i64 0, .int .i64 0, .int .i64 0, .int .i64 0, .int .i64 0, .bool false, .int .i64 0, .int .i64 0, .int .i64 0, .slice none 0 0] 35)
  have hb3 := (Below.refl ((w.alloc (.cells (ubL V a).toArray 35)).alloc (.cells #[.int .i64 0, .int .i64 0, .int .i64 0, .int .i64 0, .int .i64 0, .int .i64 0, .int .i64 0, .int .i64 0, .int .i64 0, .int .i64 0, .int .i64 0, .int .i64 0, .int .i64 0, .int .i64 0, .int .i64 0, .int .i64 0, .int .i64 0, .int .i64 0, .int .i64 0, .int .i64 0, .int .i64 0, .int .i64 0, .int .i64 0, .int .i64 0, .int .i64 0, .int .i64 0, .int .i64 0, .int .i64 0, .int .i64 0, .int .i64 0, .int .i64 0, .int .i64 0, .int .i64 0, .int .i64 0, .slice none 0 0, .int .i64 0, .int .i64 0, .int .i64 0, .int .i64 0, .int .i64 0, .int .i64 0, .int .i64 0, .int .i64 0, .bool false, .int .i64 0, .int .i64 0, .int .i64 0, .slice none 0 0] 35)).heap.size ((w.alloc (.cells (ubL V a).toArray 35)).alloc (.cells #[.int .i64 0, .int .i64 0, .int .i64 0, .int .i64 0, .int .i64 0, .int .i64 0, .int .i64 0, .int .i64 0, .int .i64 0, .int .i64 0, .int .i64 0, .int .i64 0, .int .i64 0, .int .i64 0, .int .i64 0, .int .i64 0, .int .i64 0, .int .i64 0, .int .i64 0, .int .i64 0, .int .i64 0, .int .i64 0, .int .i64 0, .int .i64 0, .int .i64 0, .int .i64 0, .int .i64 0, .int .i64 0, .int .i64 0, .int .i64 0, .int .i64 0, .int .i64 0, .int .i64 0, .int .i64 0, .slice none 0 0, .int .i64 0, .int .i64 0, .int .i64 0, .int .i64 0, .int .i64 0, .int .i64 0, .int .i64 0, .int .i64 0, .bool false, .int .i64 0, .int .i64 0, .int .i64 0, .slice none 0 0] 35))).alloc (Nat.le_refl _) (.cells #[.int .i64 0, .int .i64 0, .int .i64 0, .int .i64 0, .int .i64 0, .int .i64 0, .int .i64 0, .int .i64 0, .int .i64 0, .int .i64 0, .int .i64 0, .int .i64 0, .int .i64 0, .int .i64 0, .int .i64 0, .int .i64 0, .int .i64 0, .int .i64 0, .int .i64 0, .int .i64 0, .int .i64 0, .int .i64 0, .int .i64 0, .int .i64 0, .int .i64 0, .int .i64 0, .int .i64 0, .int .i64 0, .int .i64 0, .int .i64 0, .int .i64 0, .int .i64 0, .int .i64 0, .int .i64 0, .slice none 0 0, .int .i64 0, .int .i64 0, .int .i64 0, .int .i64 0, .int .i64 0, .int .i64 0, .int .i64 0, .int .i64 0, .bool false, .int .i64 0, .int .i64 0, .int .i64 0, .slice none 0 0] 35)
  have hx3 := hx.old hb3 (blk_lt hx)
  have hres3 := hres.old hb3 (blk_lt hres)
  have hgl := blk_lt hres
  have hbb := bnx hb hb3
  rw [HS.out] at y1
  clear hb hb3 hx hres c0
  generalize (((w.alloc (.cells (ubL V a).toArray 35)).alloc (.cells #[.int .i64 0, .int .i64 0, .int .i64 0, .int .i64 0, .int .i64 0, .int .i64 0, .int .i64 0, .int .i64 0, .int .i64 0, .int .i64 0, .int .i64 0, .int .i64 0, .int .i64 0, .int .i64 0, .int .i64 0, .int .i64 0, .int .i64 0, .int .i64 0, .int .i64 0, .int .i64 0, .int .i64 0, .int .i64 0, .int .i64 0, .int .i64 0, .int .i64 0, .int .i64 0, .int .i64 0, .int .i64 0, .int .i64 0, .int .i64 0, .int .i64 0, .int .i64 0, .int .i64 0, .int .i64 0, .slice none 0 0, .int .i64 0, .int .i64 0, .int .i64 0, .int .i64 0, .int .i64 0, .int .i64 0, .int .i64 0, .int .i64 0, .bool false, .int .i64 0, .int .i64 0, .int .i64 0, .slice none 0 0] 35)).alloc (.cells #[.int .i64 0, .int .i64 0, .int .i64 0, .int .i64 0, .int .i64 0, .int .i64 0, .int .i64 0, .int .i64 0, .int .i64 0, .int .i64 0, .int .i64 0, .int .i64 0, .int .i64 0, .int .i64 0, .int .i64 0, .int .i64 0, .int .i64 0, .int .i64 0, .int .i64 0, .int .i64 0, .int .i64 0, .int .i64 0, .int .i64 0, .int .i64 0, .int .i64 0, .int .i64 0, .int .i64 0, .int .i64 0, .int .i64 0, .int .i64 0, .int .i64 0, .int .i64 0, .int .i64 0, .int .i64 0, .slice none 0 0, .int .i64 0, .int .i64 0, .int .i64 0, .int .i64 0, .int .i64 0, .int .i64 0, .int .i64 0, .int .i64 0, .bool false, .int .i64 0, .int .i64 0, .int .i64 0, .slice none 0 0] 35)) = w1 at *
  refine go_ (wpList_store_row rfl _ _ _ rfl (w.heap.size + 1 + 1) (ubL { ub0 with k := kk } ua0).toArray rfl rfl _ _ y1 (ub_size _ _ rfl rfl) (ub_sizes (V := ub0) (a := ua0) rfl rfl rfl rfl) (ub_one _ _) ?_)
  have hm5 : UbB _ (w.heap.size + 1 + 1) { ub0 with k := kk } ua0 := setRow_heap _ _ _ (ubL { ub0 with k := kk } ua0).toArray _ _ y1
  have haw : Aw (fun k => k = (w.heap.size + 1 + 1)) w1 (w1.setRow (w.heap.size + 1 + 1) (ubL { ub0 with k := kk } ua0).toArray) := aw_setRow20 _ _
  have hx : UbB _ w.heap.size V a := haw.keep hx3 (by omega)
  have hres : UbB _ (w.heap.size + 1) ub0 ua0 := haw.keep hres3 (by omega)
  have hb := below_aw20 hbb haw (fun k hk => by rw [hk]; omega) hbb.size
  generalize w1.setRow (w.heap.size + 1 + 1) (ubL { ub0 with k := kk } ua0).toArray = w2 at *
  clear haw y1 hx3 hres3 hbb
  go_wp2_with (first | (with_reducible refine stop_loadT 35 ?_) | (with_reducible refine stop_storeT 35 ?_) | (with_reducible refine stop_loadG 35 ?_))
  refine go_ (wpList_load_row rfl _ _ rfl w.heap.size rfl _ _ _ _ hx Tryz.underlying35 rfl Hsz.out ?_)
  go_wp2_with fail
  go_fit (Hnm.out w2)
  rintro e w3 ⟨rfl, hb2⟩
  have hgm5 := blk_lt hm5
  replace hx := hx.old hb2 (blk_lt hx)
  replace hres := hres.old hb2 (blk_lt hres)
  replace hm5 := hm5.old hb2 hgm5
  replace hb := bnx hb hb2
  clear hb2
  go_wp2_with fail
  go_fit (ubnamed_any C I w3)
  rintro e w4 ⟨rfl, rfl⟩
  rw [hP]
  have hr5 : UbR w3 w3.heap.size UP ua0 := by rw [HU0.out]; exact UbR.nil _ _ _ rfl rfl
  have hf5 : ∀ p, ua0.A = some p ∨ ua0.A' = some p → (w.heap.size + 1 + 1) < p.block := fun p hp => by rcases hp with hp | hp <;> cases hp
  rw [Hkk.out, ← HU0.out] at hm5
  generalize hw5 : w3 = w5 at *
  generalize ua0 = a5 at hm5 hr5 hf5
  go_wp2_with (first | (with_reducible refine stop_loadT 35 ?_) | (with_reducible refine stop_storeT 35 ?_) | (with_reducible refine stop_loadG 35 ?_))
  refine go_ (wpList_load_row rfl _ _ rfl (w.heap.size + 1 + 1) rfl _ _ _ _ hm5 Tryz.underlying35 rfl (ub_size UP a5 HL.out.1 HL.out.2) ?_)
  go_wp2_with (first | (with_reducible refine stop_loadT 35 ?_) | (with_reducible refine stop_storeT 35 ?_) | (with_reducible refine stop_loadG 35 ?_))
  refine go_ (wpList_store_row rfl _ _ _ rfl (w.heap.size + 1) (ubL UP a5).toArray rfl rfl _ _ hres (ub_size UP a5 HL.out.1 HL.out.2) (ub_sizes rfl rfl HL.out.1 HL.out.2) (ub_one UP a5) ?_)
  have hres2 := setRow_heap _ _ _ (ubL UP a5).toArray _ _ hres
  have haw : Aw (fun k => k = w.heap.size + 1) w5 (w5.setRow (w.heap.size + 1) (ubL UP a5).toArray) := aw_setRow20 _ _
  have hb6 := below_aw20 hb haw (fun k hk => by rw [hk]; omega) hb.size
  have hr6 := ubr_aw hr5 haw (fun p hp => by have := hf5 p hp; omega)
  generalize w5.setRow (w.heap.size + 1) (ubL UP a5).toArray = w6 at *
  go_wp2
  exact bodyPost_ret (results_cellU1 rfl _ _ (w.heap.size + 1) _ _ _ _ rfl hres2 Tryz.underlying35 rfl (ub_size UP a5 HL.out.1 HL.out.2)) rfl ⟨a5, rfl, hr6, hb6⟩

theorem ubPlain_any (V : UbV) (a : UbA) (h : UbOk V) (w : World) (hr : UbR w w.heap.size V a) (hn : a.n ≤ 1000 ∧ a.n' ≤ 1000) :
    Calls Tryz.prog 15 #[.agg (ubL V a).toArray] w (RetUP w (ubPlain V)) := by
  rcases ub_kinds V with hk | hk | hk | hk | hk | hk
  · exact ubPlain_1 V a h w hr hn hk
  · exact ubPlain_2 V a h w hr hn hk
  · exact ubPlain_3 V a h w hr hn hk
  · exact ubPlain_4 V a h w hr hn hk
  · exact ubPlain_5 V a h w hr hn hk
  · exact ubPlain_0 V a h w hr hn hk

end Go.Proofs.YtmkidihcdljkiaaGreat
