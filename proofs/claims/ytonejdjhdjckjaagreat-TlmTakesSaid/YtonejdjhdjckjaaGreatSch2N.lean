/-
  the forms of sensed walked (printed by gen_sch3.py).
-/
import Derived.Test.YtonejdjhdjckjaaGreatSch2
set_option linter.unusedSimpArgs false
set_option linter.unusedVariables false
namespace Go.Proofs.YtonejdjhdjckjaaGreat
open Go.RowKit NumLaw
attribute [local go_sem] Addr.add_mid

set_option maxRecDepth 20000 in
set_option maxHeartbeats 4000000 in
theorem sensed_24 (w : World) : Calls Tryz.prog 50 #[.int .i64 24] w (RetFm fm24 w) := by
  have a0 := heap_alloc_new w (.cells #[.string ⟨#[]⟩, .slice none 0 0] 57)
  have hb : Below w.heap.size w (w.alloc (.cells #[.string ⟨#[]⟩, .slice none 0 0] 57)) := (Below.refl _ _).alloc (Nat.le_refl _) _
  have hz : (w.alloc (.cells #[.string ⟨#[]⟩, .slice none 0 0] 57)).heap.size = w.heap.size + 1 := World.size_alloc _ _
  have Hz := Lib.hid hz
  clear hz
  go_enter Tryz.func50, Tryz.ntmps50
  have hS := strs_lit (w.alloc (.cells #[.string ⟨#[]⟩, .slice none 0 0] 57)) [⟨#[116, 105, 109, 101, 95, 117, 115, 101, 99]⟩] #[.string ⟨#[116, 105, 109, 101, 95, 117, 115, 101, 99]⟩] rfl 1 rfl (by omega)
  have hbs := (Below.refl (w.alloc (.cells #[.string ⟨#[]⟩, .slice none 0 0] 57)).heap.size (w.alloc (.cells #[.string ⟨#[]⟩, .slice none 0 0] 57))).alloc (Nat.le_refl _) (.cells #[.string ⟨#[116, 105, 109, 101, 95, 117, 115, 101, 99]⟩] 9)
  rw [Hz.out] at hS
  have HS := Lib.hid hS
  clear hS
  go_wp2_with fail
  go_fit (u64_any (some ⟨w.heap.size + 1, 0, none⟩) 1 1 [⟨#[116, 105, 109, 101, 95, 117, 115, 101, 99]⟩] _ HS.out (by omega))
  unfold RetP
  rintro e u0 ⟨A0, n0, c0, rfl, hl, own, hbx⟩
  obtain rfl : n0 = 1 := hl
  have hbq := bnx hbs hbx
  replace a0 := blk_old a0 hbq (blk_lt a0)
  replace hb := bnx hb hbq
  have hr0 : RdP u0 u0.heap.size A0 1 c0 (mkP 8 false [⟨#[116, 105, 109, 101, 95, 117, 115, 101, 99]⟩]) := RdP.own own rfl
  clear own hbx hbq HS hbs
  have hS := strs_lit u0 [⟨#[102, 105, 120, 95, 116, 121, 112, 101]⟩] #[.string ⟨#[102, 105, 120, 95, 116, 121, 112, 101]⟩] rfl 1 rfl (by omega)
  have hbs := (Below.refl u0.heap.size u0).alloc (Nat.le_refl _) (.cells #[.string ⟨#[102, 105, 120, 95, 116, 121, 112, 101]⟩] 9)
  have HS := Lib.hid hS
  clear hS
  go_wp2_with fail
  go_fit (u8_any (some ⟨u0.heap.size, 0, none⟩) 1 1 [⟨#[102, 105, 120, 95, 116, 121, 112, 101]⟩] _ HS.out (by omega))
  unfold RetP
  rintro e u1 ⟨A1, n1, c1, rfl, hl, own, hbx⟩
  obtain rfl : n1 = 1 := hl
  have hbq := bnx hbs hbx
  replace a0 := blk_old a0 hbq (blk_lt a0)
  replace hb := bnx hb hbq
  replace hr0 : RdP _ _ A0 1 c0 _ := RdR.nx hr0 hbq
  have hr1 : RdP u1 u1.heap.size A1 1 c1 (mkP 1 false [⟨#[102, 105, 120, 95, 116, 121, 112, 101]⟩]) := RdP.own own rfl
  clear own hbx hbq HS hbs
  have hS := strs_lit u1 [⟨#[108, 97, 116]⟩, ⟨#[108, 111, 110]⟩, ⟨#[97, 108, 116]⟩] #[.string ⟨#[108, 97, 116]⟩, .string ⟨#[108, 111, 110]⟩, .string ⟨#[97, 108, 116]⟩] rfl 3 rfl (by omega)
  have hbs := (Below.refl u1.heap.size u1).alloc (Nat.le_refl _) (.cells #[.string ⟨#[108, 97, 116]⟩, .string ⟨#[108, 111, 110]⟩, .string ⟨#[97, 108, 116]⟩] 9)
  have HS := Lib.hid hS
  clear hS
  go_wp2_with fail
  go_fit (i32_any (some ⟨u1.heap.size, 0, none⟩) 3 3 [⟨#[108, 97, 116]⟩, ⟨#[108, 111, 110]⟩, ⟨#[97, 108, 116]⟩] _ HS.out (by omega))
  unfold RetP
  rintro e u2 ⟨A2, n2, c2, rfl, hl, own, hbx⟩
  obtain rfl : n2 = 3 := hl
  have hbq := bnx hbs hbx
  replace a0 := blk_old a0 hbq (blk_lt a0)
  replace hb := bnx hb hbq
  replace hr0 : RdP _ _ A0 1 c0 _ := RdR.nx hr0 hbq
  replace hr1 : RdP _ _ A1 1 c1 _ := RdR.nx hr1 hbq
  have hr2 : RdP u2 u2.heap.size A2 3 c2 (mkP 4 true [⟨#[108, 97, 116]⟩, ⟨#[108, 111, 110]⟩, ⟨#[97, 108, 116]⟩]) := RdP.own own rfl
  clear own hbx hbq HS hbs
  have hS := strs_lit u2 [⟨#[101, 112, 104]⟩, ⟨#[101, 112, 118]⟩, ⟨#[118, 101, 108]⟩, ⟨#[99, 111, 103]⟩] #[.string ⟨#[101, 112, 104]⟩, .string ⟨#[101, 112, 118]⟩, .string ⟨#[118, 101, 108]⟩, .string ⟨#[99, 111, 103]⟩] rfl 4 rfl (by omega)
  have hbs := (Below.refl u2.heap.size u2).alloc (Nat.le_refl _) (.cells #[.string ⟨#[101, 112, 104]⟩, .string ⟨#[101, 112, 118]⟩, .string ⟨#[118, 101, 108]⟩, .string ⟨#[99, 111, 103]⟩] 9)
  have HS := Lib.hid hS
  clear hS
  go_wp2_with fail
  go_fit (u16_any (some ⟨u2.heap.size, 0, none⟩) 4 4 [⟨#[101, 112, 104]⟩, ⟨#[101, 112, 118]⟩, ⟨#[118, 101, 108]⟩, ⟨#[99, 111, 103]⟩] _ HS.out (by omega))
  unfold RetP
  rintro e u3 ⟨A3, n3, c3, rfl, hl, own, hbx⟩
  obtain rfl : n3 = 4 := hl
  have hbq := bnx hbs hbx
  replace a0 := blk_old a0 hbq (blk_lt a0)
  replace hb := bnx hb hbq
  replace hr0 : RdP _ _ A0 1 c0 _ := RdR.nx hr0 hbq
  replace hr1 : RdP _ _ A1 1 c1 _ := RdR.nx hr1 hbq
  replace hr2 : RdP _ _ A2 3 c2 _ := RdR.nx hr2 hbq
  have hr3 : RdP u3 u3.heap.size A3 4 c3 (mkP 2 false [⟨#[101, 112, 104]⟩, ⟨#[101, 112, 118]⟩, ⟨#[118, 101, 108]⟩, ⟨#[99, 111, 103]⟩]) := RdP.own own rfl
  clear own hbx hbq HS hbs
  have hS := strs_lit u3 [⟨#[115, 97, 116, 101, 108, 108, 105, 116, 101, 115, 95, 118, 105, 115, 105, 98, 108, 101]⟩] #[.string ⟨#[115, 97, 116, 101, 108, 108, 105, 116, 101, 115, 95, 118, 105, 115, 105, 98, 108, 101]⟩] rfl 1 rfl (by omega)
  have hbs := (Below.refl u3.heap.size u3).alloc (Nat.le_refl _) (.cells #[.string ⟨#[115, 97, 116, 101, 108, 108, 105, 116, 101, 115, 95, 118, 105, 115, 105, 98, 108, 101]⟩] 9)
  have HS := Lib.hid hS
  clear hS
  go_wp2_with fail
  go_fit (u8_any (some ⟨u3.heap.size, 0, none⟩) 1 1 [⟨#[115, 97, 116, 101, 108, 108, 105, 116, 101, 115, 95, 118, 105, 115, 105, 98, 108, 101]⟩] _ HS.out (by omega))
  unfold RetP
  rintro e u4 ⟨A4, n4, c4, rfl, hl, own, hbx⟩
  obtain rfl : n4 = 1 := hl
  have hbq := bnx hbs hbx
  replace a0 := blk_old a0 hbq (blk_lt a0)
  replace hb := bnx hb hbq
  replace hr0 : RdP _ _ A0 1 c0 _ := RdR.nx hr0 hbq
  replace hr1 : RdP _ _ A1 1 c1 _ := RdR.nx hr1 hbq
  replace hr2 : RdP _ _ A2 3 c2 _ := RdR.nx hr2 hbq
  replace hr3 : RdP _ _ A3 4 c3 _ := RdR.nx hr3 hbq
  have hr4 : RdP u4 u4.heap.size A4 1 c4 (mkP 1 false [⟨#[115, 97, 116, 101, 108, 108, 105, 116, 101, 115, 95, 118, 105, 115, 105, 98, 108, 101]⟩]) := RdP.own own rfl
  clear own hbx hbq HS hbs
  have hbs := (Below.refl u4.heap.size u4).alloc (Nat.le_refl _) (.cells #[.slice A0 1 c0, .slice A1 1 c1, .slice A2 3 c2, .slice A3 4 c3, .slice A4 1 c4] 55)
  replace hr0 : RdP _ _ A0 1 c0 _ := RdR.nx hr0 hbs
  replace hr1 : RdP _ _ A1 1 c1 _ := RdR.nx hr1 hbs
  replace hr2 : RdP _ _ A2 3 c2 _ := RdR.nx hr2 hbs
  replace hr3 : RdP _ _ A3 4 c3 _ := RdR.nx hr3 hbs
  replace hr4 : RdP _ _ A4 1 c4 _ := RdR.nx hr4 hbs
  have hsz : (u4.alloc (.cells #[.slice A0 1 c0, .slice A1 1 c1, .slice A2 3 c2, .slice A3 4 c3, .slice A4 1 c4] 55)).heap.size = u4.heap.size + 1 := World.size_alloc _ _
  have hlit := RdR.lit (size := 1) (e := 55) u4 [[.slice A0 1 c0], [.slice A1 1 c1], [.slice A2 3 c2], [.slice A3 4 c3], [.slice A4 1 c4]] #[.slice A0 1 c0, .slice A1 1 c1, .slice A2 3 c2, .slice A3 4 c3, .slice A4 1 c4] rfl (by intro r hr; simp only [List.mem_cons, List.not_mem_nil, or_false] at hr; rcases hr with rfl | rfl | rfl | rfl | rfl <;> rfl) (by simp [maxLen]) 5 rfl
  rw [← hsz] at hlit
  have hof := of_any ⟨#[71, 80, 83, 95, 82, 65, 87, 95, 73, 78, 84]⟩ (some ⟨u4.heap.size, 0, none⟩) 5 5 [⟨A0, 1, c0, (mkP 8 false [⟨#[116, 105, 109, 101, 95, 117, 115, 101, 99]⟩])⟩, ⟨A1, 1, c1, (mkP 1 false [⟨#[102, 105, 120, 95, 116, 121, 112, 101]⟩])⟩, ⟨A2, 3, c2, (mkP 4 true [⟨#[108, 97, 116]⟩, ⟨#[108, 111, 110]⟩, ⟨#[97, 108, 116]⟩])⟩, ⟨A3, 4, c3, (mkP 2 false [⟨#[101, 112, 104]⟩, ⟨#[101, 112, 118]⟩, ⟨#[118, 101, 108]⟩, ⟨#[99, 111, 103]⟩])⟩, ⟨A4, 1, c4, (mkP 1 false [⟨#[115, 97, 116, 101, 108, 108, 105, 116, 101, 115, 95, 118, 105, 115, 105, 98, 108, 101]⟩])⟩] (u4.alloc (.cells #[.slice A0 1 c0, .slice A1 1 c1, .slice A2 3 c2, .slice A3 4 c3, .slice A4 1 c4] 55)) ⟨hlit, by intro r hr; simp only [List.mem_cons, List.not_mem_nil, or_false] at hr; rcases hr with rfl | rfl | rfl | rfl | rfl <;> first | exact ⟨hr0, by show 1 ≤ 100; omega⟩ | exact ⟨hr1, by show 1 ≤ 100; omega⟩ | exact ⟨hr2, by show 3 ≤ 100; omega⟩ | exact ⟨hr3, by show 4 ≤ 100; omega⟩ | exact ⟨hr4, by show 1 ≤ 100; omega⟩⟩ (by omega)
  have Hof := Lib.hid hof
  clear hof hlit hsz hr0 hr1 hr2 hr3 hr4
  replace a0 := blk_old a0 hbs (blk_lt a0)
  replace hb := bnx hb hbs
  clear hbs
  go_wp2_with fail
  go_fit Hof.out
  unfold RetFm
  rintro e v ⟨A, n, c, rfl, hr, hbx⟩
  replace a0 := blk_old a0 hbx (blk_lt a0)
  replace hb := bnx hb hbx
  clear hbx Hof
  have hb' := below_setRow hb (Nat.le_refl _) (#[.string ⟨#[71, 80, 83, 95, 82, 65, 87, 95, 73, 78, 84]⟩, .slice A n c] : Array Value)
  have b0 := setRow_heap _ _ _ (#[.string ⟨#[71, 80, 83, 95, 82, 65, 87, 95, 73, 78, 84]⟩, .slice A n c] : Array Value) _ _ a0
  have hrq : RdP (v.setRow w.heap.size #[.string ⟨#[71, 80, 83, 95, 82, 65, 87, 95, 73, 78, 84]⟩, .slice A n c]) (v.setRow w.heap.size #[.string ⟨#[71, 80, 83, 95, 82, 65, 87, 95, 73, 78, 84]⟩, .slice A n c]).heap.size A n c fm24.2 := rdP_set hr a0 (#[.string ⟨#[71, 80, 83, 95, 82, 65, 87, 95, 73, 78, 84]⟩, .slice A n c] : Array Value)
  go_wp2_with (first | (with_reducible refine stop_storeT 57 ?_))
  refine go_ (wpList_store_row rfl _ _ _ rfl w.heap.size #[.string ⟨#[71, 80, 83, 95, 82, 65, 87, 95, 73, 78, 84]⟩, .slice A n c] rfl rfl _ _ a0 (by kernel_rfl) rfl (by kernel_rfl) ?_)
  generalize (v.setRow w.heap.size #[.string ⟨#[71, 80, 83, 95, 82, 65, 87, 95, 73, 78, 84]⟩, .slice A n c]) = w9 at *
  have e0 := blk_cell (i := 0) (v := .string ⟨#[71, 80, 83, 95, 82, 65, 87, 95, 73, 78, 84]⟩) b0 rfl
  have e1 := blk_cell (i := 1) (v := .slice A n c) b0 rfl
  clear hr a0 b0 hb
  go_wp2
  exact bodyPost_ret (v := .agg #[.string ⟨#[71, 80, 83, 95, 82, 65, 87, 95, 73, 78, 84]⟩, .slice A n c]) (by simp [results, go_sem, e0, e1]) rfl ⟨A, n, c, rfl, hrq, hb'⟩
set_option maxRecDepth 20000 in
set_option maxHeartbeats 4000000 in
theorem sensed_25 (w : World) : Calls Tryz.prog 50 #[.int .i64 25] w (RetFm fm25 w) := by
  have a0 := heap_alloc_new w (.cells #[.string ⟨#[]⟩, .slice none 0 0] 57)
  have hb : Below w.heap.size w (w.alloc (.cells #[.string ⟨#[]⟩, .slice none 0 0] 57)) := (Below.refl _ _).alloc (Nat.le_refl _) _
  have hz : (w.alloc (.cells #[.string ⟨#[]⟩, .slice none 0 0] 57)).heap.size = w.heap.size + 1 := World.size_alloc _ _
  have Hz := Lib.hid hz
  clear hz
  go_enter Tryz.func50, Tryz.ntmps50
  have hS := strs_lit (w.alloc (.cells #[.string ⟨#[]⟩, .slice none 0 0] 57)) [⟨#[115, 97, 116, 101, 108, 108, 105, 116, 101, 115, 95, 118, 105, 115, 105, 98, 108, 101]⟩] #[.string ⟨#[115, 97, 116, 101, 108, 108, 105, 116, 101, 115, 95, 118, 105, 115, 105, 98, 108, 101]⟩] rfl 1 rfl (by omega)
  have hbs := (Below.refl (w.alloc (.cells #[.string ⟨#[]⟩, .slice none 0 0] 57)).heap.size (w.alloc (.cells #[.string ⟨#[]⟩, .slice none 0 0] 57))).alloc (Nat.le_refl _) (.cells #[.string ⟨#[115, 97, 116, 101, 108, 108, 105, 116, 101, 115, 95, 118, 105, 115, 105, 98, 108, 101]⟩] 9)
  rw [Hz.out] at hS
  have HS := Lib.hid hS
  clear hS
  go_wp2_with fail
  go_fit (u8_any (some ⟨w.heap.size + 1, 0, none⟩) 1 1 [⟨#[115, 97, 116, 101, 108, 108, 105, 116, 101, 115, 95, 118, 105, 115, 105, 98, 108, 101]⟩] _ HS.out (by omega))
  unfold RetP
  rintro e u0 ⟨A0, n0, c0, rfl, hl, own, hbx⟩
  obtain rfl : n0 = 1 := hl
  have hbq := bnx hbs hbx
  replace a0 := blk_old a0 hbq (blk_lt a0)
  replace hb := bnx hb hbq
  have hr0 : RdP u0 u0.heap.size A0 1 c0 (mkP 1 false [⟨#[115, 97, 116, 101, 108, 108, 105, 116, 101, 115, 95, 118, 105, 115, 105, 98, 108, 101]⟩]) := RdP.own own rfl
  clear own hbx hbq HS hbs
  have hS := strs_lit u0 [⟨#[115, 97, 116, 101, 108, 108, 105, 116, 101, 95, 112, 114, 110]⟩, ⟨#[115, 97, 116, 101, 108, 108, 105, 116, 101, 95, 117, 115, 101, 100]⟩, ⟨#[115, 97, 116, 101, 108, 108, 105, 116, 101, 95, 101, 108, 101, 118, 97, 116, 105, 111, 110]⟩, ⟨#[115, 97, 116, 101, 108, 108, 105, 116, 101, 95, 97, 122, 105, 109, 117, 116, 104]⟩, ⟨#[115, 97, 116, 101, 108, 108, 105, 116, 101, 95, 115, 110, 114]⟩] #[.string ⟨#[115, 97, 116, 101, 108, 108, 105, 116, 101, 95, 112, 114, 110]⟩, .string ⟨#[115, 97, 116, 101, 108, 108, 105, 116, 101, 95, 117, 115, 101, 100]⟩, .string ⟨#[115, 97, 116, 101, 108, 108, 105, 116, 101, 95, 101, 108, 101, 118, 97, 116, 105, 111, 110]⟩, .string ⟨#[115, 97, 116, 101, 108, 108, 105, 116, 101, 95, 97, 122, 105, 109, 117, 116, 104]⟩, .string ⟨#[115, 97, 116, 101, 108, 108, 105, 116, 101, 95, 115, 110, 114]⟩] rfl 5 rfl (by omega)
  have hbs := (Below.refl u0.heap.size u0).alloc (Nat.le_refl _) (.cells #[.string ⟨#[115, 97, 116, 101, 108, 108, 105, 116, 101, 95, 112, 114, 110]⟩, .string ⟨#[115, 97, 116, 101, 108, 108, 105, 116, 101, 95, 117, 115, 101, 100]⟩, .string ⟨#[115, 97, 116, 101, 108, 108, 105, 116, 101, 95, 101, 108, 101, 118, 97, 116, 105, 111, 110]⟩, .string ⟨#[115, 97, 116, 101, 108, 108, 105, 116, 101, 95, 97, 122, 105, 109, 117, 116, 104]⟩, .string ⟨#[115, 97, 116, 101, 108, 108, 105, 116, 101, 95, 115, 110, 114]⟩] 9)
  have HS := Lib.hid hS
  clear hS
  go_wp2_with fail
  go_fit (array_any 20 (some ⟨u0.heap.size, 0, none⟩) 5 5 [⟨#[115, 97, 116, 101, 108, 108, 105, 116, 101, 95, 112, 114, 110]⟩, ⟨#[115, 97, 116, 101, 108, 108, 105, 116, 101, 95, 117, 115, 101, 100]⟩, ⟨#[115, 97, 116, 101, 108, 108, 105, 116, 101, 95, 101, 108, 101, 118, 97, 116, 105, 111, 110]⟩, ⟨#[115, 97, 116, 101, 108, 108, 105, 116, 101, 95, 97, 122, 105, 109, 117, 116, 104]⟩, ⟨#[115, 97, 116, 101, 108, 108, 105, 116, 101, 95, 115, 110, 114]⟩] _ HS.out (by omega))
  unfold RetP
  rintro e u1 ⟨A1, n1, c1, rfl, hl, own, hbx⟩
  obtain rfl : n1 = 5 := hl
  have hbq := bnx hbs hbx
  replace a0 := blk_old a0 hbq (blk_lt a0)
  replace hb := bnx hb hbq
  replace hr0 : RdP _ _ A0 1 c0 _ := RdR.nx hr0 hbq
  have hr1 : RdP u1 u1.heap.size A1 5 c1 ((mkP 1 false [⟨#[115, 97, 116, 101, 108, 108, 105, 116, 101, 95, 112, 114, 110]⟩, ⟨#[115, 97, 116, 101, 108, 108, 105, 116, 101, 95, 117, 115, 101, 100]⟩, ⟨#[115, 97, 116, 101, 108, 108, 105, 116, 101, 95, 101, 108, 101, 118, 97, 116, 105, 111, 110]⟩, ⟨#[115, 97, 116, 101, 108, 108, 105, 116, 101, 95, 97, 122, 105, 109, 117, 116, 104]⟩, ⟨#[115, 97, 116, 101, 108, 108, 105, 116, 101, 95, 115, 110, 114]⟩]).map (setM 20)) := RdP.own own rfl
  clear own hbx hbq HS hbs
  have hbs := (Below.refl u1.heap.size u1).alloc (Nat.le_refl _) (.cells #[.slice A0 1 c0, .slice A1 5 c1] 55)
  replace hr0 : RdP _ _ A0 1 c0 _ := RdR.nx hr0 hbs
  replace hr1 : RdP _ _ A1 5 c1 _ := RdR.nx hr1 hbs
  have hsz : (u1.alloc (.cells #[.slice A0 1 c0, .slice A1 5 c1] 55)).heap.size = u1.heap.size + 1 := World.size_alloc _ _
  have hlit := RdR.lit (size := 1) (e := 55) u1 [[.slice A0 1 c0], [.slice A1 5 c1]] #[.slice A0 1 c0, .slice A1 5 c1] rfl (by intro r hr; simp only [List.mem_cons, List.not_mem_nil, or_false] at hr; rcases hr with rfl | rfl <;> rfl) (by simp [maxLen]) 2 rfl
  rw [← hsz] at hlit
  have hof := of_any ⟨#[71, 80, 83, 95, 83, 84, 65, 84, 85, 83]⟩ (some ⟨u1.heap.size, 0, none⟩) 2 2 [⟨A0, 1, c0, (mkP 1 false [⟨#[115, 97, 116, 101, 108, 108, 105, 116, 101, 115, 95, 118, 105, 115, 105, 98, 108, 101]⟩])⟩, ⟨A1, 5, c1, ((mkP 1 false [⟨#[115, 97, 116, 101, 108, 108, 105, 116, 101, 95, 112, 114, 110]⟩, ⟨#[115, 97, 116, 101, 108, 108, 105, 116, 101, 95, 117, 115, 101, 100]⟩, ⟨#[115, 97, 116, 101, 108, 108, 105, 116, 101, 95, 101, 108, 101, 118, 97, 116, 105, 111, 110]⟩, ⟨#[115, 97, 116, 101, 108, 108, 105, 116, 101, 95, 97, 122, 105, 109, 117, 116, 104]⟩, ⟨#[115, 97, 116, 101, 108, 108, 105, 116, 101, 95, 115, 110, 114]⟩]).map (setM 20))⟩] (u1.alloc (.cells #[.slice A0 1 c0, .slice A1 5 c1] 55)) ⟨hlit, by intro r hr; simp only [List.mem_cons, List.not_mem_nil, or_false] at hr; rcases hr with rfl | rfl <;> first | exact ⟨hr0, by show 1 ≤ 100; omega⟩ | exact ⟨hr1, by show 5 ≤ 100; omega⟩⟩ (by omega)
  have Hof := Lib.hid hof
  clear hof hlit hsz hr0 hr1
  replace a0 := blk_old a0 hbs (blk_lt a0)
  replace hb := bnx hb hbs
  clear hbs
  go_wp2_with fail
  go_fit Hof.out
  unfold RetFm
  rintro e v ⟨A, n, c, rfl, hr, hbx⟩
  replace a0 := blk_old a0 hbx (blk_lt a0)
  replace hb := bnx hb hbx
  clear hbx Hof
  have hb' := below_setRow hb (Nat.le_refl _) (#[.string ⟨#[71, 80, 83, 95, 83, 84, 65, 84, 85, 83]⟩, .slice A n c] : Array Value)
  have b0 := setRow_heap _ _ _ (#[.string ⟨#[71, 80, 83, 95, 83, 84, 65, 84, 85, 83]⟩, .slice A n c] : Array Value) _ _ a0
  have hrq : RdP (v.setRow w.heap.size #[.string ⟨#[71, 80, 83, 95, 83, 84, 65, 84, 85, 83]⟩, .slice A n c]) (v.setRow w.heap.size #[.string ⟨#[71, 80, 83, 95, 83, 84, 65, 84, 85, 83]⟩, .slice A n c]).heap.size A n c fm25.2 := rdP_set hr a0 (#[.string ⟨#[71, 80, 83, 95, 83, 84, 65, 84, 85, 83]⟩, .slice A n c] : Array Value)
  go_wp2_with (first | (with_reducible refine stop_storeT 57 ?_))
  refine go_ (wpList_store_row rfl _ _ _ rfl w.heap.size #[.string ⟨#[71, 80, 83, 95, 83, 84, 65, 84, 85, 83]⟩, .slice A n c] rfl rfl _ _ a0 (by kernel_rfl) rfl (by kernel_rfl) ?_)
  generalize (v.setRow w.heap.size #[.string ⟨#[71, 80, 83, 95, 83, 84, 65, 84, 85, 83]⟩, .slice A n c]) = w9 at *
  have e0 := blk_cell (i := 0) (v := .string ⟨#[71, 80, 83, 95, 83, 84, 65, 84, 85, 83]⟩) b0 rfl
  have e1 := blk_cell (i := 1) (v := .slice A n c) b0 rfl
  clear hr a0 b0 hb
  go_wp2
  exact bodyPost_ret (v := .agg #[.string ⟨#[71, 80, 83, 95, 83, 84, 65, 84, 85, 83]⟩, .slice A n c]) (by simp [results, go_sem, e0, e1]) rfl ⟨A, n, c, rfl, hrq, hb'⟩
set_option maxRecDepth 20000 in
set_option maxHeartbeats 4000000 in
theorem sensed_26 (w : World) : Calls Tryz.prog 50 #[.int .i64 26] w (RetFm fm26 w) := by
  have a0 := heap_alloc_new w (.cells #[.string ⟨#[]⟩, .slice none 0 0] 57)
  have hb : Below w.heap.size w (w.alloc (.cells #[.string ⟨#[]⟩, .slice none 0 0] 57)) := (Below.refl _ _).alloc (Nat.le_refl _) _
  have hz : (w.alloc (.cells #[.string ⟨#[]⟩, .slice none 0 0] 57)).heap.size = w.heap.size + 1 := World.size_alloc _ _
  have Hz := Lib.hid hz
  clear hz
  go_enter Tryz.func50, Tryz.ntmps50
  have hS := strs_lit (w.alloc (.cells #[.string ⟨#[]⟩, .slice none 0 0] 57)) [⟨#[116, 105, 109, 101, 95, 98, 111, 111, 116, 95, 109, 115]⟩] #[.string ⟨#[116, 105, 109, 101, 95, 98, 111, 111, 116, 95, 109, 115]⟩] rfl 1 rfl (by omega)
  have hbs := (Below.refl (w.alloc (.cells #[.string ⟨#[]⟩, .slice none 0 0] 57)).heap.size (w.alloc (.cells #[.string ⟨#[]⟩, .slice none 0 0] 57))).alloc (Nat.le_refl _) (.cells #[.string ⟨#[116, 105, 109, 101, 95, 98, 111, 111, 116, 95, 109, 115]⟩] 9)
  rw [Hz.out] at hS
  have HS := Lib.hid hS
  clear hS
  go_wp2_with fail
  go_fit (u32_any (some ⟨w.heap.size + 1, 0, none⟩) 1 1 [⟨#[116, 105, 109, 101, 95, 98, 111, 111, 116, 95, 109, 115]⟩] _ HS.out (by omega))
  unfold RetP
  rintro e u0 ⟨A0, n0, c0, rfl, hl, own, hbx⟩
  obtain rfl : n0 = 1 := hl
  have hbq := bnx hbs hbx
  replace a0 := blk_old a0 hbq (blk_lt a0)
  replace hb := bnx hb hbq
  have hr0 : RdP u0 u0.heap.size A0 1 c0 (mkP 4 false [⟨#[116, 105, 109, 101, 95, 98, 111, 111, 116, 95, 109, 115]⟩]) := RdP.own own rfl
  clear own hbx hbq HS hbs
  go_wp2_with fail
  go_fit (inertial_any _)
  unfold RetP
  rintro e u1 ⟨A1, n1, c1, rfl, hl, own, hbx⟩
  obtain rfl : n1 = 9 := hl
  have hbq := hbx
  replace a0 := blk_old a0 hbq (blk_lt a0)
  replace hb := bnx hb hbq
  replace hr0 : RdP _ _ A0 1 c0 _ := RdR.nx hr0 hbq
  have hr1 : RdP u1 u1.heap.size A1 9 c1 (mkP 2 true [⟨#[120, 97, 99, 99]⟩, ⟨#[121, 97, 99, 99]⟩, ⟨#[122, 97, 99, 99]⟩, ⟨#[120, 103, 121, 114, 111]⟩, ⟨#[121, 103, 121, 114, 111]⟩, ⟨#[122, 103, 121, 114, 111]⟩, ⟨#[120, 109, 97, 103]⟩, ⟨#[121, 109, 97, 103]⟩, ⟨#[122, 109, 97, 103]⟩]) := RdP.own own rfl
  clear own hbx hbq
  have hbs := (Below.refl u1.heap.size u1).alloc (Nat.le_refl _) (.cells #[.slice A0 1 c0, .slice A1 9 c1] 55)
  replace hr0 : RdP _ _ A0 1 c0 _ := RdR.nx hr0 hbs
  replace hr1 : RdP _ _ A1 9 c1 _ := RdR.nx hr1 hbs
  have hsz : (u1.alloc (.cells #[.slice A0 1 c0, .slice A1 9 c1] 55)).heap.size = u1.heap.size + 1 := World.size_alloc _ _
  have hlit := RdR.lit (size := 1) (e := 55) u1 [[.slice A0 1 c0], [.slice A1 9 c1]] #[.slice A0 1 c0, .slice A1 9 c1] rfl (by intro r hr; simp only [List.mem_cons, List.not_mem_nil, or_false] at hr; rcases hr with rfl | rfl <;> rfl) (by simp [maxLen]) 2 rfl
  rw [← hsz] at hlit
  have hof := of_any ⟨#[83, 67, 65, 76, 69, 68, 95, 73, 77, 85]⟩ (some ⟨u1.heap.size, 0, none⟩) 2 2 [⟨A0, 1, c0, (mkP 4 false [⟨#[116, 105, 109, 101, 95, 98, 111, 111, 116, 95, 109, 115]⟩])⟩, ⟨A1, 9, c1, (mkP 2 true [⟨#[120, 97, 99, 99]⟩, ⟨#[121, 97, 99, 99]⟩, ⟨#[122, 97, 99, 99]⟩, ⟨#[120, 103, 121, 114, 111]⟩, ⟨#[121, 103, 121, 114, 111]⟩, ⟨#[122, 103, 121, 114, 111]⟩, ⟨#[120, 109, 97, 103]⟩, ⟨#[121, 109, 97, 103]⟩, ⟨#[122, 109, 97, 103]⟩])⟩] (u1.alloc (.cells #[.slice A0 1 c0, .slice A1 9 c1] 55)) ⟨hlit, by intro r hr; simp only [List.mem_cons, List.not_mem_nil, or_false] at hr; rcases hr with rfl | rfl <;> first | exact ⟨hr0, by show 1 ≤ 100; omega⟩ | exact ⟨hr1, by show 9 ≤ 100; omega⟩⟩ (by omega)
  have Hof := Lib.hid hof
  clear hof hlit hsz hr0 hr1
  replace a0 := blk_old a0 hbs (blk_lt a0)
  replace hb := bnx hb hbs
  clear hbs
  go_wp2_with fail
  go_fit Hof.out
  unfold RetFm
  rintro e v ⟨A, n, c, rfl, hr, hbx⟩
  replace a0 := blk_old a0 hbx (blk_lt a0)
  replace hb := bnx hb hbx
  clear hbx Hof
  have hb' := below_setRow hb (Nat.le_refl _) (#[.string ⟨#[83, 67, 65, 76, 69, 68, 95, 73, 77, 85]⟩, .slice A n c] : Array Value)
  have b0 := setRow_heap _ _ _ (#[.string ⟨#[83, 67, 65, 76, 69, 68, 95, 73, 77, 85]⟩, .slice A n c] : Array Value) _ _ a0
  have hrq : RdP (v.setRow w.heap.size #[.string ⟨#[83, 67, 65, 76, 69, 68, 95, 73, 77, 85]⟩, .slice A n c]) (v.setRow w.heap.size #[.string ⟨#[83, 67, 65, 76, 69, 68, 95, 73, 77, 85]⟩, .slice A n c]).heap.size A n c fm26.2 := rdP_set hr a0 (#[.string ⟨#[83, 67, 65, 76, 69, 68, 95, 73, 77, 85]⟩, .slice A n c] : Array Value)
  go_wp2_with (first | (with_reducible refine stop_storeT 57 ?_))
  refine go_ (wpList_store_row rfl _ _ _ rfl w.heap.size #[.string ⟨#[83, 67, 65, 76, 69, 68, 95, 73, 77, 85]⟩, .slice A n c] rfl rfl _ _ a0 (by kernel_rfl) rfl (by kernel_rfl) ?_)
  generalize (v.setRow w.heap.size #[.string ⟨#[83, 67, 65, 76, 69, 68, 95, 73, 77, 85]⟩, .slice A n c]) = w9 at *
  have e0 := blk_cell (i := 0) (v := .string ⟨#[83, 67, 65, 76, 69, 68, 95, 73, 77, 85]⟩) b0 rfl
  have e1 := blk_cell (i := 1) (v := .slice A n c) b0 rfl
  clear hr a0 b0 hb
  go_wp2
  exact bodyPost_ret (v := .agg #[.string ⟨#[83, 67, 65, 76, 69, 68, 95, 73, 77, 85]⟩, .slice A n c]) (by simp [results, go_sem, e0, e1]) rfl ⟨A, n, c, rfl, hrq, hb'⟩
set_option maxRecDepth 20000 in
set_option maxHeartbeats 4000000 in
theorem sensed_27 (w : World) : Calls Tryz.prog 50 #[.int .i64 27] w (RetFm fm27 w) := by
  have a0 := heap_alloc_new w (.cells #[.string ⟨#[]⟩, .slice none 0 0] 57)
  have hb : Below w.heap.size w (w.alloc (.cells #[.string ⟨#[]⟩, .slice none 0 0] 57)) := (Below.refl _ _).alloc (Nat.le_refl _) _
  have hz : (w.alloc (.cells #[.string ⟨#[]⟩, .slice none 0 0] 57)).heap.size = w.heap.size + 1 := World.size_alloc _ _
  have Hz := Lib.hid hz
  clear hz
  go_enter Tryz.func50, Tryz.ntmps50
  have hS := strs_lit (w.alloc (.cells #[.string ⟨#[]⟩, .slice none 0 0] 57)) [⟨#[116, 105, 109, 101, 95, 117, 115, 101, 99]⟩] #[.string ⟨#[116, 105, 109, 101, 95, 117, 115, 101, 99]⟩] rfl 1 rfl (by omega)
  have hbs := (Below.refl (w.alloc (.cells #[.string ⟨#[]⟩, .slice none 0 0] 57)).heap.size (w.alloc (.cells #[.string ⟨#[]⟩, .slice none 0 0] 57))).alloc (Nat.le_refl _) (.cells #[.string ⟨#[116, 105, 109, 101, 95, 117, 115, 101, 99]⟩] 9)
  rw [Hz.out] at hS
  have HS := Lib.hid hS
  clear hS
  go_wp2_with fail
  go_fit (u64_any (some ⟨w.heap.size + 1, 0, none⟩) 1 1 [⟨#[116, 105, 109, 101, 95, 117, 115, 101, 99]⟩] _ HS.out (by omega))
  unfold RetP
  rintro e u0 ⟨A0, n0, c0, rfl, hl, own, hbx⟩
  obtain rfl : n0 = 1 := hl
  have hbq := bnx hbs hbx
  replace a0 := blk_old a0 hbq (blk_lt a0)
  replace hb := bnx hb hbq
  have hr0 : RdP u0 u0.heap.size A0 1 c0 (mkP 8 false [⟨#[116, 105, 109, 101, 95, 117, 115, 101, 99]⟩]) := RdP.own own rfl
  clear own hbx hbq HS hbs
  go_wp2_with fail
  go_fit (inertial_any _)
  unfold RetP
  rintro e u1 ⟨A1, n1, c1, rfl, hl, own, hbx⟩
  obtain rfl : n1 = 9 := hl
  have hbq := hbx
  replace a0 := blk_old a0 hbq (blk_lt a0)
  replace hb := bnx hb hbq
  replace hr0 : RdP _ _ A0 1 c0 _ := RdR.nx hr0 hbq
  have hr1 : RdP u1 u1.heap.size A1 9 c1 (mkP 2 true [⟨#[120, 97, 99, 99]⟩, ⟨#[121, 97, 99, 99]⟩, ⟨#[122, 97, 99, 99]⟩, ⟨#[120, 103, 121, 114, 111]⟩, ⟨#[121, 103, 121, 114, 111]⟩, ⟨#[122, 103, 121, 114, 111]⟩, ⟨#[120, 109, 97, 103]⟩, ⟨#[121, 109, 97, 103]⟩, ⟨#[122, 109, 97, 103]⟩]) := RdP.own own rfl
  clear own hbx hbq
  have hbs := (Below.refl u1.heap.size u1).alloc (Nat.le_refl _) (.cells #[.slice A0 1 c0, .slice A1 9 c1] 55)
  replace hr0 : RdP _ _ A0 1 c0 _ := RdR.nx hr0 hbs
  replace hr1 : RdP _ _ A1 9 c1 _ := RdR.nx hr1 hbs
  have hsz : (u1.alloc (.cells #[.slice A0 1 c0, .slice A1 9 c1] 55)).heap.size = u1.heap.size + 1 := World.size_alloc _ _
  have hlit := RdR.lit (size := 1) (e := 55) u1 [[.slice A0 1 c0], [.slice A1 9 c1]] #[.slice A0 1 c0, .slice A1 9 c1] rfl (by intro r hr; simp only [List.mem_cons, List.not_mem_nil, or_false] at hr; rcases hr with rfl | rfl <;> rfl) (by simp [maxLen]) 2 rfl
  rw [← hsz] at hlit
  have hof := of_any ⟨#[82, 65, 87, 95, 73, 77, 85]⟩ (some ⟨u1.heap.size, 0, none⟩) 2 2 [⟨A0, 1, c0, (mkP 8 false [⟨#[116, 105, 109, 101, 95, 117, 115, 101, 99]⟩])⟩, ⟨A1, 9, c1, (mkP 2 true [⟨#[120, 97, 99, 99]⟩, ⟨#[121, 97, 99, 99]⟩, ⟨#[122, 97, 99, 99]⟩, ⟨#[120, 103, 121, 114, 111]⟩, ⟨#[121, 103, 121, 114, 111]⟩, ⟨#[122, 103, 121, 114, 111]⟩, ⟨#[120, 109, 97, 103]⟩, ⟨#[121, 109, 97, 103]⟩, ⟨#[122, 109, 97, 103]⟩])⟩] (u1.alloc (.cells #[.slice A0 1 c0, .slice A1 9 c1] 55)) ⟨hlit, by intro r hr; simp only [List.mem_cons, List.not_mem_nil, or_false] at hr; rcases hr with rfl | rfl <;> first | exact ⟨hr0, by show 1 ≤ 100; omega⟩ | exact ⟨hr1, by show 9 ≤ 100; omega⟩⟩ (by omega)
  have Hof := Lib.hid hof
  clear hof hlit hsz hr0 hr1
  replace a0 := blk_old a0 hbs (blk_lt a0)
  replace hb := bnx hb hbs
  clear hbs
  go_wp2_with fail
  go_fit Hof.out
  unfold RetFm
  rintro e v ⟨A, n, c, rfl, hr, hbx⟩
  replace a0 := blk_old a0 hbx (blk_lt a0)
  replace hb := bnx hb hbx
  clear hbx Hof
  have hb' := below_setRow hb (Nat.le_refl _) (#[.string ⟨#[82, 65, 87, 95, 73, 77, 85]⟩, .slice A n c] : Array Value)
  have b0 := setRow_heap _ _ _ (#[.string ⟨#[82, 65, 87, 95, 73, 77, 85]⟩, .slice A n c] : Array Value) _ _ a0
  have hrq : RdP (v.setRow w.heap.size #[.string ⟨#[82, 65, 87, 95, 73, 77, 85]⟩, .slice A n c]) (v.setRow w.heap.size #[.string ⟨#[82, 65, 87, 95, 73, 77, 85]⟩, .slice A n c]).heap.size A n c fm27.2 := rdP_set hr a0 (#[.string ⟨#[82, 65, 87, 95, 73, 77, 85]⟩, .slice A n c] : Array Value)
  go_wp2_with (first | (with_reducible refine stop_storeT 57 ?_))
  refine go_ (wpList_store_row rfl _ _ _ rfl w.heap.size #[.string ⟨#[82, 65, 87, 95, 73, 77, 85]⟩, .slice A n c] rfl rfl _ _ a0 (by kernel_rfl) rfl (by kernel_rfl) ?_)
  generalize (v.setRow w.heap.size #[.string ⟨#[82, 65, 87, 95, 73, 77, 85]⟩, .slice A n c]) = w9 at *
  have e0 := blk_cell (i := 0) (v := .string ⟨#[82, 65, 87, 95, 73, 77, 85]⟩) b0 rfl
  have e1 := blk_cell (i := 1) (v := .slice A n c) b0 rfl
  clear hr a0 b0 hb
  go_wp2
  exact bodyPost_ret (v := .agg #[.string ⟨#[82, 65, 87, 95, 73, 77, 85]⟩, .slice A n c]) (by simp [results, go_sem, e0, e1]) rfl ⟨A, n, c, rfl, hrq, hb'⟩
set_option maxRecDepth 20000 in
set_option maxHeartbeats 4000000 in
theorem sensed_28 (w : World) : Calls Tryz.prog 50 #[.int .i64 28] w (RetFm fm28 w) := by
  have a0 := heap_alloc_new w (.cells #[.string ⟨#[]⟩, .slice none 0 0] 57)
  have hb : Below w.heap.size w (w.alloc (.cells #[.string ⟨#[]⟩, .slice none 0 0] 57)) := (Below.refl _ _).alloc (Nat.le_refl _) _
  have hz : (w.alloc (.cells #[.string ⟨#[]⟩, .slice none 0 0] 57)).heap.size = w.heap.size + 1 := World.size_alloc _ _
  have Hz := Lib.hid hz
  clear hz
  go_enter Tryz.func50, Tryz.ntmps50
  have hS := strs_lit (w.alloc (.cells #[.string ⟨#[]⟩, .slice none 0 0] 57)) [⟨#[116, 105, 109, 101, 95, 117, 115, 101, 99]⟩] #[.string ⟨#[116, 105, 109, 101, 95, 117, 115, 101, 99]⟩] rfl 1 rfl (by omega)
  have hbs := (Below.refl (w.alloc (.cells #[.string ⟨#[]⟩, .slice none 0 0] 57)).heap.size (w.alloc (.cells #[.string ⟨#[]⟩, .slice none 0 0] 57))).alloc (Nat.le_refl _) (.cells #[.string ⟨#[116, 105, 109, 101, 95, 117, 115, 101, 99]⟩] 9)
  rw [Hz.out] at hS
  have HS := Lib.hid hS
  clear hS
  go_wp2_with fail
  go_fit (u64_any (some ⟨w.heap.size + 1, 0, none⟩) 1 1 [⟨#[116, 105, 109, 101, 95, 117, 115, 101, 99]⟩] _ HS.out (by omega))
  unfold RetP
  rintro e u0 ⟨A0, n0, c0, rfl, hl, own, hbx⟩
  obtain rfl : n0 = 1 := hl
  have hbq := bnx hbs hbx
  replace a0 := blk_old a0 hbq (blk_lt a0)
  replace hb := bnx hb hbq
  have hr0 : RdP u0 u0.heap.size A0 1 c0 (mkP 8 false [⟨#[116, 105, 109, 101, 95, 117, 115, 101, 99]⟩]) := RdP.own own rfl
  clear own hbx hbq HS hbs
  have hS := strs_lit u0 [⟨#[112, 114, 101, 115, 115, 95, 97, 98, 115]⟩, ⟨#[112, 114, 101, 115, 115, 95, 100, 105, 102, 102, 49]⟩, ⟨#[112, 114, 101, 115, 115, 95, 100, 105, 102, 102, 50]⟩, ⟨#[116, 101, 109, 112, 101, 114, 97, 116, 117, 114, 101]⟩] #[.string ⟨#[112, 114, 101, 115, 115, 95, 97, 98, 115]⟩, .string ⟨#[112, 114, 101, 115, 115, 95, 100, 105, 102, 102, 49]⟩, .string ⟨#[112, 114, 101, 115, 115, 95, 100, 105, 102, 102, 50]⟩, .string ⟨#[116, 101, 109, 112, 101, 114, 97, 116, 117, 114, 101]⟩] rfl 4 rfl (by omega)
  have hbs := (Below.refl u0.heap.size u0).alloc (Nat.le_refl _) (.cells #[.string ⟨#[112, 114, 101, 115, 115, 95, 97, 98, 115]⟩, .string ⟨#[112, 114, 101, 115, 115, 95, 100, 105, 102, 102, 49]⟩, .string ⟨#[112, 114, 101, 115, 115, 95, 100, 105, 102, 102, 50]⟩, .string ⟨#[116, 101, 109, 112, 101, 114, 97, 116, 117, 114, 101]⟩] 9)
  have HS := Lib.hid hS
  clear hS
  go_wp2_with fail
  go_fit (i16_any (some ⟨u0.heap.size, 0, none⟩) 4 4 [⟨#[112, 114, 101, 115, 115, 95, 97, 98, 115]⟩, ⟨#[112, 114, 101, 115, 115, 95, 100, 105, 102, 102, 49]⟩, ⟨#[112, 114, 101, 115, 115, 95, 100, 105, 102, 102, 50]⟩, ⟨#[116, 101, 109, 112, 101, 114, 97, 116, 117, 114, 101]⟩] _ HS.out (by omega))
  unfold RetP
  rintro e u1 ⟨A1, n1, c1, rfl, hl, own, hbx⟩
  obtain rfl : n1 = 4 := hl
  have hbq := bnx hbs hbx
  replace a0 := blk_old a0 hbq (blk_lt a0)
  replace hb := bnx hb hbq
  replace hr0 : RdP _ _ A0 1 c0 _ := RdR.nx hr0 hbq
  have hr1 : RdP u1 u1.heap.size A1 4 c1 (mkP 2 true [⟨#[112, 114, 101, 115, 115, 95, 97, 98, 115]⟩, ⟨#[112, 114, 101, 115, 115, 95, 100, 105, 102, 102, 49]⟩, ⟨#[112, 114, 101, 115, 115, 95, 100, 105, 102, 102, 50]⟩, ⟨#[116, 101, 109, 112, 101, 114, 97, 116, 117, 114, 101]⟩]) := RdP.own own rfl
  clear own hbx hbq HS hbs
  have hbs := (Below.refl u1.heap.size u1).alloc (Nat.le_refl _) (.cells #[.slice A0 1 c0, .slice A1 4 c1] 55)
  replace hr0 : RdP _ _ A0 1 c0 _ := RdR.nx hr0 hbs
  replace hr1 : RdP _ _ A1 4 c1 _ := RdR.nx hr1 hbs
  have hsz : (u1.alloc (.cells #[.slice A0 1 c0, .slice A1 4 c1] 55)).heap.size = u1.heap.size + 1 := World.size_alloc _ _
  have hlit := RdR.lit (size := 1) (e := 55) u1 [[.slice A0 1 c0], [.slice A1 4 c1]] #[.slice A0 1 c0, .slice A1 4 c1] rfl (by intro r hr; simp only [List.mem_cons, List.not_mem_nil, or_false] at hr; rcases hr with rfl | rfl <;> rfl) (by simp [maxLen]) 2 rfl
  rw [← hsz] at hlit
  have hof := of_any ⟨#[82, 65, 87, 95, 80, 82, 69, 83, 83, 85, 82, 69]⟩ (some ⟨u1.heap.size, 0, none⟩) 2 2 [⟨A0, 1, c0, (mkP 8 false [⟨#[116, 105, 109, 101, 95, 117, 115, 101, 99]⟩])⟩, ⟨A1, 4, c1, (mkP 2 true [⟨#[112, 114, 101, 115, 115, 95, 97, 98, 115]⟩, ⟨#[112, 114, 101, 115, 115, 95, 100, 105, 102, 102, 49]⟩, ⟨#[112, 114, 101, 115, 115, 95, 100, 105, 102, 102, 50]⟩, ⟨#[116, 101, 109, 112, 101, 114, 97, 116, 117, 114, 101]⟩])⟩] (u1.alloc (.cells #[.slice A0 1 c0, .slice A1 4 c1] 55)) ⟨hlit, by intro r hr; simp only [List.mem_cons, List.not_mem_nil, or_false] at hr; rcases hr with rfl | rfl <;> first | exact ⟨hr0, by show 1 ≤ 100; omega⟩ | exact ⟨hr1, by show 4 ≤ 100; omega⟩⟩ (by omega)
  have Hof := Lib.hid hof
  clear hof hlit hsz hr0 hr1
  replace a0 := blk_old a0 hbs (blk_lt a0)
  replace hb := bnx hb hbs
  clear hbs
  go_wp2_with fail
  go_fit Hof.out
  unfold RetFm
  rintro e v ⟨A, n, c, rfl, hr, hbx⟩
  replace a0 := blk_old a0 hbx (blk_lt a0)
  replace hb := bnx hb hbx
  clear hbx Hof
  have hb' := below_setRow hb (Nat.le_refl _) (#[.string ⟨#[82, 65, 87, 95, 80, 82, 69, 83, 83, 85, 82, 69]⟩, .slice A n c] : Array Value)
  have b0 := setRow_heap _ _ _ (#[.string ⟨#[82, 65, 87, 95, 80, 82, 69, 83, 83, 85, 82, 69]⟩, .slice A n c] : Array Value) _ _ a0
  have hrq : RdP (v.setRow w.heap.size #[.string ⟨#[82, 65, 87, 95, 80, 82, 69, 83, 83, 85, 82, 69]⟩, .slice A n c]) (v.setRow w.heap.size #[.string ⟨#[82, 65, 87, 95, 80, 82, 69, 83, 83, 85, 82, 69]⟩, .slice A n c]).heap.size A n c fm28.2 := rdP_set hr a0 (#[.string ⟨#[82, 65, 87, 95, 80, 82, 69, 83, 83, 85, 82, 69]⟩, .slice A n c] : Array Value)
  go_wp2_with (first | (with_reducible refine stop_storeT 57 ?_))
  refine go_ (wpList_store_row rfl _ _ _ rfl w.heap.size #[.string ⟨#[82, 65, 87, 95, 80, 82, 69, 83, 83, 85, 82, 69]⟩, .slice A n c] rfl rfl _ _ a0 (by kernel_rfl) rfl (by kernel_rfl) ?_)
  generalize (v.setRow w.heap.size #[.string ⟨#[82, 65, 87, 95, 80, 82, 69, 83, 83, 85, 82, 69]⟩, .slice A n c]) = w9 at *
  have e0 := blk_cell (i := 0) (v := .string ⟨#[82, 65, 87, 95, 80, 82, 69, 83, 83, 85, 82, 69]⟩) b0 rfl
  have e1 := blk_cell (i := 1) (v := .slice A n c) b0 rfl
  clear hr a0 b0 hb
  go_wp2
  exact bodyPost_ret (v := .agg #[.string ⟨#[82, 65, 87, 95, 80, 82, 69, 83, 83, 85, 82, 69]⟩, .slice A n c]) (by simp [results, go_sem, e0, e1]) rfl ⟨A, n, c, rfl, hrq, hb'⟩
set_option maxRecDepth 20000 in
set_option maxHeartbeats 4000000 in
theorem sensed_33 (w : World) : Calls Tryz.prog 50 #[.int .i64 33] w (RetFm fm33 w) := by
  have a0 := heap_alloc_new w (.cells #[.string ⟨#[]⟩, .slice none 0 0] 57)
  have hb : Below w.heap.size w (w.alloc (.cells #[.string ⟨#[]⟩, .slice none 0 0] 57)) := (Below.refl _ _).alloc (Nat.le_refl _) _
  have hz : (w.alloc (.cells #[.string ⟨#[]⟩, .slice none 0 0] 57)).heap.size = w.heap.size + 1 := World.size_alloc _ _
  have Hz := Lib.hid hz
  clear hz
  go_enter Tryz.func50, Tryz.ntmps50
  have hS := strs_lit (w.alloc (.cells #[.string ⟨#[]⟩, .slice none 0 0] 57)) [⟨#[116, 105, 109, 101, 95, 98, 111, 111, 116, 95, 109, 115]⟩] #[.string ⟨#[116, 105, 109, 101, 95, 98, 111, 111, 116, 95, 109, 115]⟩] rfl 1 rfl (by omega)
  have hbs := (Below.refl (w.alloc (.cells #[.string ⟨#[]⟩, .slice none 0 0] 57)).heap.size (w.alloc (.cells #[.string ⟨#[]⟩, .slice none 0 0] 57))).alloc (Nat.le_refl _) (.cells #[.string ⟨#[116, 105, 109, 101, 95, 98, 111, 111, 116, 95, 109, 115]⟩] 9)
  rw [Hz.out] at hS
  have HS := Lib.hid hS
  clear hS
  go_wp2_with fail
  go_fit (u32_any (some ⟨w.heap.size + 1, 0, none⟩) 1 1 [⟨#[116, 105, 109, 101, 95, 98, 111, 111, 116, 95, 109, 115]⟩] _ HS.out (by omega))
  unfold RetP
  rintro e u0 ⟨A0, n0, c0, rfl, hl, own, hbx⟩
  obtain rfl : n0 = 1 := hl
  have hbq := bnx hbs hbx
  replace a0 := blk_old a0 hbq (blk_lt a0)
  replace hb := bnx hb hbq
  have hr0 : RdP u0 u0.heap.size A0 1 c0 (mkP 4 false [⟨#[116, 105, 109, 101, 95, 98, 111, 111, 116, 95, 109, 115]⟩]) := RdP.own own rfl
  clear own hbx hbq HS hbs
  have hS := strs_lit u0 [⟨#[108, 97, 116]⟩, ⟨#[108, 111, 110]⟩, ⟨#[97, 108, 116]⟩, ⟨#[114, 101, 108, 97, 116, 105, 118, 101, 95, 97, 108, 116]⟩] #[.string ⟨#[108, 97, 116]⟩, .string ⟨#[108, 111, 110]⟩, .string ⟨#[97, 108, 116]⟩, .string ⟨#[114, 101, 108, 97, 116, 105, 118, 101, 95, 97, 108, 116]⟩] rfl 4 rfl (by omega)
  have hbs := (Below.refl u0.heap.size u0).alloc (Nat.le_refl _) (.cells #[.string ⟨#[108, 97, 116]⟩, .string ⟨#[108, 111, 110]⟩, .string ⟨#[97, 108, 116]⟩, .string ⟨#[114, 101, 108, 97, 116, 105, 118, 101, 95, 97, 108, 116]⟩] 9)
  have HS := Lib.hid hS
  clear hS
  go_wp2_with fail
  go_fit (i32_any (some ⟨u0.heap.size, 0, none⟩) 4 4 [⟨#[108, 97, 116]⟩, ⟨#[108, 111, 110]⟩, ⟨#[97, 108, 116]⟩, ⟨#[114, 101, 108, 97, 116, 105, 118, 101, 95, 97, 108, 116]⟩] _ HS.out (by omega))
  unfold RetP
  rintro e u1 ⟨A1, n1, c1, rfl, hl, own, hbx⟩
  obtain rfl : n1 = 4 := hl
  have hbq := bnx hbs hbx
  replace a0 := blk_old a0 hbq (blk_lt a0)
  replace hb := bnx hb hbq
  replace hr0 : RdP _ _ A0 1 c0 _ := RdR.nx hr0 hbq
  have hr1 : RdP u1 u1.heap.size A1 4 c1 (mkP 4 true [⟨#[108, 97, 116]⟩, ⟨#[108, 111, 110]⟩, ⟨#[97, 108, 116]⟩, ⟨#[114, 101, 108, 97, 116, 105, 118, 101, 95, 97, 108, 116]⟩]) := RdP.own own rfl
  clear own hbx hbq HS hbs
  have hS := strs_lit u1 [⟨#[118, 120]⟩, ⟨#[118, 121]⟩, ⟨#[118, 122]⟩] #[.string ⟨#[118, 120]⟩, .string ⟨#[118, 121]⟩, .string ⟨#[118, 122]⟩] rfl 3 rfl (by omega)
  have hbs := (Below.refl u1.heap.size u1).alloc (Nat.le_refl _) (.cells #[.string ⟨#[118, 120]⟩, .string ⟨#[118, 121]⟩, .string ⟨#[118, 122]⟩] 9)
  have HS := Lib.hid hS
  clear hS
  go_wp2_with fail
  go_fit (i16_any (some ⟨u1.heap.size, 0, none⟩) 3 3 [⟨#[118, 120]⟩, ⟨#[118, 121]⟩, ⟨#[118, 122]⟩] _ HS.out (by omega))
  unfold RetP
  rintro e u2 ⟨A2, n2, c2, rfl, hl, own, hbx⟩
  obtain rfl : n2 = 3 := hl
  have hbq := bnx hbs hbx
  replace a0 := blk_old a0 hbq (blk_lt a0)
  replace hb := bnx hb hbq
  replace hr0 : RdP _ _ A0 1 c0 _ := RdR.nx hr0 hbq
  replace hr1 : RdP _ _ A1 4 c1 _ := RdR.nx hr1 hbq
  have hr2 : RdP u2 u2.heap.size A2 3 c2 (mkP 2 true [⟨#[118, 120]⟩, ⟨#[118, 121]⟩, ⟨#[118, 122]⟩]) := RdP.own own rfl
  clear own hbx hbq HS hbs
  have hS := strs_lit u2 [⟨#[104, 100, 103]⟩] #[.string ⟨#[104, 100, 103]⟩] rfl 1 rfl (by omega)
  have hbs := (Below.refl u2.heap.size u2).alloc (Nat.le_refl _) (.cells #[.string ⟨#[104, 100, 103]⟩] 9)
  have HS := Lib.hid hS
  clear hS
  go_wp2_with fail
  go_fit (u16_any (some ⟨u2.heap.size, 0, none⟩) 1 1 [⟨#[104, 100, 103]⟩] _ HS.out (by omega))
  unfold RetP
  rintro e u3 ⟨A3, n3, c3, rfl, hl, own, hbx⟩
  obtain rfl : n3 = 1 := hl
  have hbq := bnx hbs hbx
  replace a0 := blk_old a0 hbq (blk_lt a0)
  replace hb := bnx hb hbq
  replace hr0 : RdP _ _ A0 1 c0 _ := RdR.nx hr0 hbq
  replace hr1 : RdP _ _ A1 4 c1 _ := RdR.nx hr1 hbq
  replace hr2 : RdP _ _ A2 3 c2 _ := RdR.nx hr2 hbq
  have hr3 : RdP u3 u3.heap.size A3 1 c3 (mkP 2 false [⟨#[104, 100, 103]⟩]) := RdP.own own rfl
  clear own hbx hbq HS hbs
  have hbs := (Below.refl u3.heap.size u3).alloc (Nat.le_refl _) (.cells #[.slice A0 1 c0, .slice A1 4 c1, .slice A2 3 c2, .slice A3 1 c3] 55)
  replace hr0 : RdP _ _ A0 1 c0 _ := RdR.nx hr0 hbs
  replace hr1 : RdP _ _ A1 4 c1 _ := RdR.nx hr1 hbs
  replace hr2 : RdP _ _ A2 3 c2 _ := RdR.nx hr2 hbs
  replace hr3 : RdP _ _ A3 1 c3 _ := RdR.nx hr3 hbs
  have hsz : (u3.alloc (.cells #[.slice A0 1 c0, .slice A1 4 c1, .slice A2 3 c2, .slice A3 1 c3] 55)).heap.size = u3.heap.size + 1 := World.size_alloc _ _
  have hlit := RdR.lit (size := 1) (e := 55) u3 [[.slice A0 1 c0], [.slice A1 4 c1], [.slice A2 3 c2], [.slice A3 1 c3]] #[.slice A0 1 c0, .slice A1 4 c1, .slice A2 3 c2, .slice A3 1 c3] rfl (by intro r hr; simp only [List.mem_cons, List.not_mem_nil, or_false] at hr; rcases hr with rfl | rfl | rfl | rfl <;> rfl) (by simp [maxLen]) 4 rfl
  rw [← hsz] at hlit
  have hof := of_any ⟨#[71, 76, 79, 66, 65, 76, 95, 80, 79, 83, 73, 84, 73, 79, 78, 95, 73, 78, 84]⟩ (some ⟨u3.heap.size, 0, none⟩) 4 4 [⟨A0, 1, c0, (mkP 4 false [⟨#[116, 105, 109, 101, 95, 98, 111, 111, 116, 95, 109, 115]⟩])⟩, ⟨A1, 4, c1, (mkP 4 true [⟨#[108, 97, 116]⟩, ⟨#[108, 111, 110]⟩, ⟨#[97, 108, 116]⟩, ⟨#[114, 101, 108, 97, 116, 105, 118, 101, 95, 97, 108, 116]⟩])⟩, ⟨A2, 3, c2, (mkP 2 true [⟨#[118, 120]⟩, ⟨#[118, 121]⟩, ⟨#[118, 122]⟩])⟩, ⟨A3, 1, c3, (mkP 2 false [⟨#[104, 100, 103]⟩])⟩] (u3.alloc (.cells #[.slice A0 1 c0, .slice A1 4 c1, .slice A2 3 c2, .slice A3 1 c3] 55)) ⟨hlit, by intro r hr; simp only [List.mem_cons, List.not_mem_nil, or_false] at hr; rcases hr with rfl | rfl | rfl | rfl <;> first | exact ⟨hr0, by show 1 ≤ 100; omega⟩ | exact ⟨hr1, by show 4 ≤ 100; omega⟩ | exact ⟨hr2, by show 3 ≤ 100; omega⟩ | exact ⟨hr3, by show 1 ≤ 100; omega⟩⟩ (by omega)
  have Hof := Lib.hid hof
  clear hof hlit hsz hr0 hr1 hr2 hr3
  replace a0 := blk_old a0 hbs (blk_lt a0)
  replace hb := bnx hb hbs
  clear hbs
  go_wp2_with fail
  go_fit Hof.out
  unfold RetFm
  rintro e v ⟨A, n, c, rfl, hr, hbx⟩
  replace a0 := blk_old a0 hbx (blk_lt a0)
  replace hb := bnx hb hbx
  clear hbx Hof
  have hb' := below_setRow hb (Nat.le_refl _) (#[.string ⟨#[71, 76, 79, 66, 65, 76, 95, 80, 79, 83, 73, 84, 73, 79, 78, 95, 73, 78, 84]⟩, .slice A n c] : Array Value)
  have b0 := setRow_heap _ _ _ (#[.string ⟨#[71, 76, 79, 66, 65, 76, 95, 80, 79, 83, 73, 84, 73, 79, 78, 95, 73, 78, 84]⟩, .slice A n c] : Array Value) _ _ a0
  have hrq : RdP (v.setRow w.heap.size #[.string ⟨#[71, 76, 79, 66, 65, 76, 95, 80, 79, 83, 73, 84, 73, 79, 78, 95, 73, 78, 84]⟩, .slice A n c]) (v.setRow w.heap.size #[.string ⟨#[71, 76, 79, 66, 65, 76, 95, 80, 79, 83, 73, 84, 73, 79, 78, 95, 73, 78, 84]⟩, .slice A n c]).heap.size A n c fm33.2 := rdP_set hr a0 (#[.string ⟨#[71, 76, 79, 66, 65, 76, 95, 80, 79, 83, 73, 84, 73, 79, 78, 95, 73, 78, 84]⟩, .slice A n c] : Array Value)
  go_wp2_with (first | (with_reducible refine stop_storeT 57 ?_))
  refine go_ (wpList_store_row rfl _ _ _ rfl w.heap.size #[.string ⟨#[71, 76, 79, 66, 65, 76, 95, 80, 79, 83, 73, 84, 73, 79, 78, 95, 73, 78, 84]⟩, .slice A n c] rfl rfl _ _ a0 (by kernel_rfl) rfl (by kernel_rfl) ?_)
  generalize (v.setRow w.heap.size #[.string ⟨#[71, 76, 79, 66, 65, 76, 95, 80, 79, 83, 73, 84, 73, 79, 78, 95, 73, 78, 84]⟩, .slice A n c]) = w9 at *
  have e0 := blk_cell (i := 0) (v := .string ⟨#[71, 76, 79, 66, 65, 76, 95, 80, 79, 83, 73, 84, 73, 79, 78, 95, 73, 78, 84]⟩) b0 rfl
  have e1 := blk_cell (i := 1) (v := .slice A n c) b0 rfl
  clear hr a0 b0 hb
  go_wp2
  exact bodyPost_ret (v := .agg #[.string ⟨#[71, 76, 79, 66, 65, 76, 95, 80, 79, 83, 73, 84, 73, 79, 78, 95, 73, 78, 84]⟩, .slice A n c]) (by simp [results, go_sem, e0, e1]) rfl ⟨A, n, c, rfl, hrq, hb'⟩
set_option maxRecDepth 20000 in
set_option maxHeartbeats 4000000 in
theorem sensed_no (id : Int) (h24 : ¬ id = 24) (h25 : ¬ id = 25) (h26 : ¬ id = 26) (h27 : ¬ id = 27) (h28 : ¬ id = 28) (h33 : ¬ id = 33) (w : World) : Calls Tryz.prog 50 #[.int .i64 id] w (RetFm fmNone w) := by
  have q24 : (id == 24) = false := by rw [beq_eq_false_iff_ne]; exact h24
  have q25 : (id == 25) = false := by rw [beq_eq_false_iff_ne]; exact h25
  have q26 : (id == 26) = false := by rw [beq_eq_false_iff_ne]; exact h26
  have q27 : (id == 27) = false := by rw [beq_eq_false_iff_ne]; exact h27
  have q28 : (id == 28) = false := by rw [beq_eq_false_iff_ne]; exact h28
  have q33 : (id == 33) = false := by rw [beq_eq_false_iff_ne]; exact h33
  have a0 := heap_alloc_new w (.cells #[.string ⟨#[]⟩, .slice none 0 0] 57)
  have hb : Below w.heap.size w (w.alloc (.cells #[.string ⟨#[]⟩, .slice none 0 0] 57)) := (Below.refl _ _).alloc (Nat.le_refl _) _
  have hb' := below_setRow hb (Nat.le_refl _) (#[.string ⟨#[]⟩, .slice none 0 0] : Array Value)
  have b0 := setRow_heap _ _ _ (#[.string ⟨#[]⟩, .slice none 0 0] : Array Value) _ _ a0
  go_enter Tryz.func50, Tryz.ntmps50
  go_wp2_with (first | (with_reducible refine stop_buildF 57 ?_))
  refine go_ ?_
  generalize (w.alloc (.cells #[.string ⟨#[]⟩, .slice none 0 0] 57)) = v at *
  go_wp2_with (first | (with_reducible refine stop_storeT 57 ?_))
  refine go_ (wpList_store_row rfl _ _ _ rfl w.heap.size #[.string ⟨#[]⟩, .slice none 0 0] rfl rfl _ _ a0 (by kernel_rfl) rfl (by kernel_rfl) ?_)
  generalize (v.setRow w.heap.size #[.string ⟨#[]⟩, .slice none 0 0]) = w9 at *
  have e0 := blk_cell (i := 0) (v := .string ⟨#[]⟩) b0 rfl
  have e1 := blk_cell (i := 1) (v := .slice none 0 0) b0 rfl
  clear a0 b0 hb
  go_wp2
  exact bodyPost_ret (v := .agg #[.string ⟨#[]⟩, .slice none 0 0]) (by simp [results, go_sem, e0, e1]) rfl ⟨none, 0, 0, rfl, RdR.none_ _ _ _, hb'⟩
theorem sensed_any (id : Int) (w : World) : Calls Tryz.prog 50 #[.int .i64 id] w (RetFm (frmN id) w) := by
  unfold frmN
  by_cases h24 : id = 24
  · subst h24
    rw [if_pos rfl]
    exact sensed_24 w
  rw [if_neg h24]
  by_cases h25 : id = 25
  · subst h25
    rw [if_pos rfl]
    exact sensed_25 w
  rw [if_neg h25]
  by_cases h26 : id = 26
  · subst h26
    rw [if_pos rfl]
    exact sensed_26 w
  rw [if_neg h26]
  by_cases h27 : id = 27
  · subst h27
    rw [if_pos rfl]
    exact sensed_27 w
  rw [if_neg h27]
  by_cases h28 : id = 28
  · subst h28
    rw [if_pos rfl]
    exact sensed_28 w
  rw [if_neg h28]
  by_cases h33 : id = 33
  · subst h33
    rw [if_pos rfl]
    exact sensed_33 w
  rw [if_neg h33]
  exact sensed_no id h24 h25 h26 h27 h28 h33 w

end Go.Proofs.YtonejdjhdjckjaaGreat
