/-
  the forms of own walked (printed by gen_sch3.py).
-/
import Derived.Test.YtonejdjhdjckjaaGreatSch2
set_option linter.unusedSimpArgs false
set_option linter.unusedVariables false
namespace Go.Proofs.YtonejdjhdjckjaaGreat
open Go.RowKit NumLaw
attribute [local go_sem] Addr.add_mid

set_option maxRecDepth 20000 in
set_option maxHeartbeats 4000000 in
theorem own_200 (w : World) : Calls Tryz.prog 52 #[.int .i64 200] w (RetFm fm200 w) := by
  have a0 := heap_alloc_new w (.cells #[.string ⟨#[]⟩, .slice none 0 0] 57)
  have hb : Below w.heap.size w (w.alloc (.cells #[.string ⟨#[]⟩, .slice none 0 0] 57)) := (Below.refl _ _).alloc (Nat.le_refl _) _
  have hz : (w.alloc (.cells #[.string ⟨#[]⟩, .slice none 0 0] 57)).heap.size = w.heap.size + 1 := World.size_alloc _ _
  have Hz := Lib.hid hz
  clear hz
  go_enter Tryz.func52, Tryz.ntmps52
  have hS := strs_lit (w.alloc (.cells #[.string ⟨#[]⟩, .slice none 0 0] 57)) [⟨#[116, 105, 109, 101, 95, 98, 111, 111, 116, 95, 109, 115]⟩, ⟨#[113, 117, 97, 116, 101, 114, 110, 105, 111, 110]⟩] #[.string ⟨#[116, 105, 109, 101, 95, 98, 111, 111, 116, 95, 109, 115]⟩, .string ⟨#[113, 117, 97, 116, 101, 114, 110, 105, 111, 110]⟩] rfl 2 rfl (by omega)
  have hbs := (Below.refl (w.alloc (.cells #[.string ⟨#[]⟩, .slice none 0 0] 57)).heap.size (w.alloc (.cells #[.string ⟨#[]⟩, .slice none 0 0] 57))).alloc (Nat.le_refl _) (.cells #[.string ⟨#[116, 105, 109, 101, 95, 98, 111, 111, 116, 95, 109, 115]⟩, .string ⟨#[113, 117, 97, 116, 101, 114, 110, 105, 111, 110]⟩] 9)
  rw [Hz.out] at hS
  have HS := Lib.hid hS
  clear hS
  go_wp2_with fail
  go_fit (u32_any (some ⟨w.heap.size + 1, 0, none⟩) 2 2 [⟨#[116, 105, 109, 101, 95, 98, 111, 111, 116, 95, 109, 115]⟩, ⟨#[113, 117, 97, 116, 101, 114, 110, 105, 111, 110]⟩] _ HS.out (by omega))
  unfold RetP
  rintro e u0 ⟨A0, n0, c0, rfl, hl, own, hbx⟩
  obtain rfl : n0 = 2 := hl
  have hbq := bnx hbs hbx
  replace a0 := blk_old a0 hbq (blk_lt a0)
  replace hb := bnx hb hbq
  have hr0 : RdP u0 u0.heap.size A0 2 c0 (mkP 4 false [⟨#[116, 105, 109, 101, 95, 98, 111, 111, 116, 95, 109, 115]⟩, ⟨#[113, 117, 97, 116, 101, 114, 110, 105, 111, 110]⟩]) := RdP.own own rfl
  clear own hbx hbq HS hbs
  have hS := strs_lit u0 [⟨#[120, 103, 121, 114, 111]⟩, ⟨#[121, 103, 121, 114, 111]⟩, ⟨#[122, 103, 121, 114, 111]⟩] #[.string ⟨#[120, 103, 121, 114, 111]⟩, .string ⟨#[121, 103, 121, 114, 111]⟩, .string ⟨#[122, 103, 121, 114, 111]⟩] rfl 3 rfl (by omega)
  have hbs := (Below.refl u0.heap.size u0).alloc (Nat.le_refl _) (.cells #[.string ⟨#[120, 103, 121, 114, 111]⟩, .string ⟨#[121, 103, 121, 114, 111]⟩, .string ⟨#[122, 103, 121, 114, 111]⟩] 9)
  have HS := Lib.hid hS
  clear hS
  go_wp2_with fail
  go_fit (i16_any (some ⟨u0.heap.size, 0, none⟩) 3 3 [⟨#[120, 103, 121, 114, 111]⟩, ⟨#[121, 103, 121, 114, 111]⟩, ⟨#[122, 103, 121, 114, 111]⟩] _ HS.out (by omega))
  unfold RetP
  rintro e u1 ⟨A1, n1, c1, rfl, hl, own, hbx⟩
  obtain rfl : n1 = 3 := hl
  have hbq := bnx hbs hbx
  replace a0 := blk_old a0 hbq (blk_lt a0)
  replace hb := bnx hb hbq
  replace hr0 : RdP _ _ A0 2 c0 _ := RdR.nx hr0 hbq
  have hr1 : RdP u1 u1.heap.size A1 3 c1 (mkP 2 true [⟨#[120, 103, 121, 114, 111]⟩, ⟨#[121, 103, 121, 114, 111]⟩, ⟨#[122, 103, 121, 114, 111]⟩]) := RdP.own own rfl
  clear own hbx hbq HS hbs
  have hbs := (Below.refl u1.heap.size u1).alloc (Nat.le_refl _) (.cells #[.slice A0 2 c0, .slice A1 3 c1] 55)
  replace hr0 : RdP _ _ A0 2 c0 _ := RdR.nx hr0 hbs
  replace hr1 : RdP _ _ A1 3 c1 _ := RdR.nx hr1 hbs
  have hsz : (u1.alloc (.cells #[.slice A0 2 c0, .slice A1 3 c1] 55)).heap.size = u1.heap.size + 1 := World.size_alloc _ _
  have hlit := RdR.lit (size := 1) (e := 55) u1 [[.slice A0 2 c0], [.slice A1 3 c1]] #[.slice A0 2 c0, .slice A1 3 c1] rfl (by intro r hr; simp only [List.mem_cons, List.not_mem_nil, or_false] at hr; rcases hr with rfl | rfl <;> rfl) (by simp [maxLen]) 2 rfl
  rw [← hsz] at hlit
  have hof := of_any ⟨#[65, 84, 84, 73, 84, 85, 68, 69, 95, 87, 79, 82, 68]⟩ (some ⟨u1.heap.size, 0, none⟩) 2 2 [⟨A0, 2, c0, (mkP 4 false [⟨#[116, 105, 109, 101, 95, 98, 111, 111, 116, 95, 109, 115]⟩, ⟨#[113, 117, 97, 116, 101, 114, 110, 105, 111, 110]⟩])⟩, ⟨A1, 3, c1, (mkP 2 true [⟨#[120, 103, 121, 114, 111]⟩, ⟨#[121, 103, 121, 114, 111]⟩, ⟨#[122, 103, 121, 114, 111]⟩])⟩] (u1.alloc (.cells #[.slice A0 2 c0, .slice A1 3 c1] 55)) ⟨hlit, by intro r hr; simp only [List.mem_cons, List.not_mem_nil, or_false] at hr; rcases hr with rfl | rfl <;> first | exact ⟨hr0, by show 2 ≤ 100; omega⟩ | exact ⟨hr1, by show 3 ≤ 100; omega⟩⟩ (by omega)
  have Hof := Lib.hid hof
  clear hof hlit hsz hr0 hr1
  replace a0 := blk_old a0 hbs (blk_lt a0)
  replace hb := bnx hb hbs
  clear hbs
  go_wp2_with fail
  go_fit Hof.out
  unfold RetFm
  rintro e v ⟨A, n, c, rfl, hr, hbx⟩
  replace a0 := blk_old a0 hbx (blk_lt a0)
  replace hb := bnx hb hbx
  clear hbx Hof
  have hb' := below_setRow hb (Nat.le_refl _) (#[.string ⟨#[65, 84, 84, 73, 84, 85, 68, 69, 95, 87, 79, 82, 68]⟩, .slice A n c] : Array Value)
  have b0 := setRow_heap _ _ _ (#[.string ⟨#[65, 84, 84, 73, 84, 85, 68, 69, 95, 87, 79, 82, 68]⟩, .slice A n c] : Array Value) _ _ a0
  have hrq : RdP (v.setRow w.heap.size #[.string ⟨#[65, 84, 84, 73, 84, 85, 68, 69, 95, 87, 79, 82, 68]⟩, .slice A n c]) (v.setRow w.heap.size #[.string ⟨#[65, 84, 84, 73, 84, 85, 68, 69, 95, 87, 79, 82, 68]⟩, .slice A n c]).heap.size A n c fm200.2 := rdP_set hr a0 (#[.string ⟨#[65, 84, 84, 73, 84, 85, 68, 69, 95, 87, 79, 82, 68]⟩, .slice A n c] : Array Value)
  go_wp2_with (first | (with_reducible refine stop_storeT 57 ?_))
  refine go_ (wpList_store_row rfl _ _ _ rfl w.heap.size #[.string ⟨#[65, 84, 84, 73, 84, 85, 68, 69, 95, 87, 79, 82, 68]⟩, .slice A n c] rfl rfl _ _ a0 (by kernel_rfl) rfl (by kernel_rfl) ?_)
  generalize (v.setRow w.heap.size #[.string ⟨#[65, 84, 84, 73, 84, 85, 68, 69, 95, 87, 79, 82, 68]⟩, .slice A n c]) = w9 at *
  have e0 := blk_cell (i := 0) (v := .string ⟨#[65, 84, 84, 73, 84, 85, 68, 69, 95, 87, 79, 82, 68]⟩) b0 rfl
  have e1 := blk_cell (i := 1) (v := .slice A n c) b0 rfl
  clear hr a0 b0 hb
  go_wp2
  exact bodyPost_ret (v := .agg #[.string ⟨#[65, 84, 84, 73, 84, 85, 68, 69, 95, 87, 79, 82, 68]⟩, .slice A n c]) (by simp [results, go_sem, e0, e1]) rfl ⟨A, n, c, rfl, hrq, hb'⟩
set_option maxRecDepth 20000 in
set_option maxHeartbeats 4000000 in
theorem own_201 (w : World) : Calls Tryz.prog 52 #[.int .i64 201] w (RetFm fm201 w) := by
  have a0 := heap_alloc_new w (.cells #[.string ⟨#[]⟩, .slice none 0 0] 57)
  have hb : Below w.heap.size w (w.alloc (.cells #[.string ⟨#[]⟩, .slice none 0 0] 57)) := (Below.refl _ _).alloc (Nat.le_refl _) _
  have hz : (w.alloc (.cells #[.string ⟨#[]⟩, .slice none 0 0] 57)).heap.size = w.heap.size + 1 := World.size_alloc _ _
  have Hz := Lib.hid hz
  clear hz
  go_enter Tryz.func52, Tryz.ntmps52
  have hS := strs_lit (w.alloc (.cells #[.string ⟨#[]⟩, .slice none 0 0] 57)) [⟨#[116, 105, 109, 101, 95, 98, 111, 111, 116, 95, 109, 115]⟩] #[.string ⟨#[116, 105, 109, 101, 95, 98, 111, 111, 116, 95, 109, 115]⟩] rfl 1 rfl (by omega)
  have hbs := (Below.refl (w.alloc (.cells #[.string ⟨#[]⟩, .slice none 0 0] 57)).heap.size (w.alloc (.cells #[.string ⟨#[]⟩, .slice none 0 0] 57))).alloc (Nat.le_refl _) (.cells #[.string ⟨#[116, 105, 109, 101, 95, 98, 111, 111, 116, 95, 109, 115]⟩] 9)
  rw [Hz.out] at hS
  have HS := Lib.hid hS
  clear hS
  go_wp2_with fail
  go_fit (u32_any (some ⟨w.heap.size + 1, 0, none⟩) 1 1 [⟨#[116, 105, 109, 101, 95, 98, 111, 111, 116, 95, 109, 115]⟩] _ HS.out (by omega))
  unfold RetP
  rintro e u0 ⟨A0, n0, c0, rfl, hl, own, hbx⟩
  obtain rfl : n0 = 1 := hl
  have hbq := bnx hbs hbx
  replace a0 := blk_old a0 hbq (blk_lt a0)
  replace hb := bnx hb hbq
  have hr0 : RdP u0 u0.heap.size A0 1 c0 (mkP 4 false [⟨#[116, 105, 109, 101, 95, 98, 111, 111, 116, 95, 109, 115]⟩]) := RdP.own own rfl
  clear own hbx hbq HS hbs
  have hS := strs_lit u0 [⟨#[120, 98, 105, 97, 115]⟩, ⟨#[121, 98, 105, 97, 115]⟩, ⟨#[122, 98, 105, 97, 115]⟩] #[.string ⟨#[120, 98, 105, 97, 115]⟩, .string ⟨#[121, 98, 105, 97, 115]⟩, .string ⟨#[122, 98, 105, 97, 115]⟩] rfl 3 rfl (by omega)
  have hbs := (Below.refl u0.heap.size u0).alloc (Nat.le_refl _) (.cells #[.string ⟨#[120, 98, 105, 97, 115]⟩, .string ⟨#[121, 98, 105, 97, 115]⟩, .string ⟨#[122, 98, 105, 97, 115]⟩] 9)
  have HS := Lib.hid hS
  clear hS
  go_wp2_with fail
  go_fit (i32_any (some ⟨u0.heap.size, 0, none⟩) 3 3 [⟨#[120, 98, 105, 97, 115]⟩, ⟨#[121, 98, 105, 97, 115]⟩, ⟨#[122, 98, 105, 97, 115]⟩] _ HS.out (by omega))
  unfold RetP
  rintro e u1 ⟨A1, n1, c1, rfl, hl, own, hbx⟩
  obtain rfl : n1 = 3 := hl
  have hbq := bnx hbs hbx
  replace a0 := blk_old a0 hbq (blk_lt a0)
  replace hb := bnx hb hbq
  replace hr0 : RdP _ _ A0 1 c0 _ := RdR.nx hr0 hbq
  have hr1 : RdP u1 u1.heap.size A1 3 c1 (mkP 4 true [⟨#[120, 98, 105, 97, 115]⟩, ⟨#[121, 98, 105, 97, 115]⟩, ⟨#[122, 98, 105, 97, 115]⟩]) := RdP.own own rfl
  clear own hbx hbq HS hbs
  have hS := strs_lit u1 [⟨#[115, 116, 101, 112, 115]⟩] #[.string ⟨#[115, 116, 101, 112, 115]⟩] rfl 1 rfl (by omega)
  have hbs := (Below.refl u1.heap.size u1).alloc (Nat.le_refl _) (.cells #[.string ⟨#[115, 116, 101, 112, 115]⟩] 9)
  have HS := Lib.hid hS
  clear hS
  go_wp2_with fail
  go_fit (u32_any (some ⟨u1.heap.size, 0, none⟩) 1 1 [⟨#[115, 116, 101, 112, 115]⟩] _ HS.out (by omega))
  unfold RetP
  rintro e u2 ⟨A2, n2, c2, rfl, hl, own, hbx⟩
  obtain rfl : n2 = 1 := hl
  have hbq := bnx hbs hbx
  replace a0 := blk_old a0 hbq (blk_lt a0)
  replace hb := bnx hb hbq
  replace hr0 : RdP _ _ A0 1 c0 _ := RdR.nx hr0 hbq
  replace hr1 : RdP _ _ A1 3 c1 _ := RdR.nx hr1 hbq
  have hr2 : RdP u2 u2.heap.size A2 1 c2 (mkP 4 false [⟨#[115, 116, 101, 112, 115]⟩]) := RdP.own own rfl
  clear own hbx hbq HS hbs
  have hS := strs_lit u2 [⟨#[99, 117, 116, 115]⟩] #[.string ⟨#[99, 117, 116, 115]⟩] rfl 1 rfl (by omega)
  have hbs := (Below.refl u2.heap.size u2).alloc (Nat.le_refl _) (.cells #[.string ⟨#[99, 117, 116, 115]⟩] 9)
  have HS := Lib.hid hS
  clear hS
  go_wp2_with fail
  go_fit (u16_any (some ⟨u2.heap.size, 0, none⟩) 1 1 [⟨#[99, 117, 116, 115]⟩] _ HS.out (by omega))
  unfold RetP
  rintro e u3 ⟨A3, n3, c3, rfl, hl, own, hbx⟩
  obtain rfl : n3 = 1 := hl
  have hbq := bnx hbs hbx
  replace a0 := blk_old a0 hbq (blk_lt a0)
  replace hb := bnx hb hbq
  replace hr0 : RdP _ _ A0 1 c0 _ := RdR.nx hr0 hbq
  replace hr1 : RdP _ _ A1 3 c1 _ := RdR.nx hr1 hbq
  replace hr2 : RdP _ _ A2 1 c2 _ := RdR.nx hr2 hbq
  have hr3 : RdP u3 u3.heap.size A3 1 c3 (mkP 2 false [⟨#[99, 117, 116, 115]⟩]) := RdP.own own rfl
  clear own hbx hbq HS hbs
  have hbs := (Below.refl u3.heap.size u3).alloc (Nat.le_refl _) (.cells #[.slice A0 1 c0, .slice A1 3 c1, .slice A2 1 c2, .slice A3 1 c3] 55)
  replace hr0 : RdP _ _ A0 1 c0 _ := RdR.nx hr0 hbs
  replace hr1 : RdP _ _ A1 3 c1 _ := RdR.nx hr1 hbs
  replace hr2 : RdP _ _ A2 1 c2 _ := RdR.nx hr2 hbs
  replace hr3 : RdP _ _ A3 1 c3 _ := RdR.nx hr3 hbs
  have hsz : (u3.alloc (.cells #[.slice A0 1 c0, .slice A1 3 c1, .slice A2 1 c2, .slice A3 1 c3] 55)).heap.size = u3.heap.size + 1 := World.size_alloc _ _
  have hlit := RdR.lit (size := 1) (e := 55) u3 [[.slice A0 1 c0], [.slice A1 3 c1], [.slice A2 1 c2], [.slice A3 1 c3]] #[.slice A0 1 c0, .slice A1 3 c1, .slice A2 1 c2, .slice A3 1 c3] rfl (by intro r hr; simp only [List.mem_cons, List.not_mem_nil, or_false] at hr; rcases hr with rfl | rfl | rfl | rfl <;> rfl) (by simp [maxLen]) 4 rfl
  rw [← hsz] at hlit
  have hof := of_any ⟨#[70, 73, 76, 84, 69, 82, 95, 83, 84, 65, 84, 69]⟩ (some ⟨u3.heap.size, 0, none⟩) 4 4 [⟨A0, 1, c0, (mkP 4 false [⟨#[116, 105, 109, 101, 95, 98, 111, 111, 116, 95, 109, 115]⟩])⟩, ⟨A1, 3, c1, (mkP 4 true [⟨#[120, 98, 105, 97, 115]⟩, ⟨#[121, 98, 105, 97, 115]⟩, ⟨#[122, 98, 105, 97, 115]⟩])⟩, ⟨A2, 1, c2, (mkP 4 false [⟨#[115, 116, 101, 112, 115]⟩])⟩, ⟨A3, 1, c3, (mkP 2 false [⟨#[99, 117, 116, 115]⟩])⟩] (u3.alloc (.cells #[.slice A0 1 c0, .slice A1 3 c1, .slice A2 1 c2, .slice A3 1 c3] 55)) ⟨hlit, by intro r hr; simp only [List.mem_cons, List.not_mem_nil, or_false] at hr; rcases hr with rfl | rfl | rfl | rfl <;> first | exact ⟨hr0, by show 1 ≤ 100; omega⟩ | exact ⟨hr1, by show 3 ≤ 100; omega⟩ | exact ⟨hr2, by show 1 ≤ 100; omega⟩ | exact ⟨hr3, by show 1 ≤ 100; omega⟩⟩ (by omega)
  have Hof := Lib.hid hof
  clear hof hlit hsz hr0 hr1 hr2 hr3
  replace a0 := blk_old a0 hbs (blk_lt a0)
  replace hb := bnx hb hbs
  clear hbs
  go_wp2_with fail
  go_fit Hof.out
  unfold RetFm
  rintro e v ⟨A, n, c, rfl, hr, hbx⟩
  replace a0 := blk_old a0 hbx (blk_lt a0)
  replace hb := bnx hb hbx
  clear hbx Hof
  have hb' := below_setRow hb (Nat.le_refl _) (#[.string ⟨#[70, 73, 76, 84, 69, 82, 95, 83, 84, 65, 84, 69]⟩, .slice A n c] : Array Value)
  have b0 := setRow_heap _ _ _ (#[.string ⟨#[70, 73, 76, 84, 69, 82, 95, 83, 84, 65, 84, 69]⟩, .slice A n c] : Array Value) _ _ a0
  have hrq : RdP (v.setRow w.heap.size #[.string ⟨#[70, 73, 76, 84, 69, 82, 95, 83, 84, 65, 84, 69]⟩, .slice A n c]) (v.setRow w.heap.size #[.string ⟨#[70, 73, 76, 84, 69, 82, 95, 83, 84, 65, 84, 69]⟩, .slice A n c]).heap.size A n c fm201.2 := rdP_set hr a0 (#[.string ⟨#[70, 73, 76, 84, 69, 82, 95, 83, 84, 65, 84, 69]⟩, .slice A n c] : Array Value)
  go_wp2_with (first | (with_reducible refine stop_storeT 57 ?_))
  refine go_ (wpList_store_row rfl _ _ _ rfl w.heap.size #[.string ⟨#[70, 73, 76, 84, 69, 82, 95, 83, 84, 65, 84, 69]⟩, .slice A n c] rfl rfl _ _ a0 (by kernel_rfl) rfl (by kernel_rfl) ?_)
  generalize (v.setRow w.heap.size #[.string ⟨#[70, 73, 76, 84, 69, 82, 95, 83, 84, 65, 84, 69]⟩, .slice A n c]) = w9 at *
  have e0 := blk_cell (i := 0) (v := .string ⟨#[70, 73, 76, 84, 69, 82, 95, 83, 84, 65, 84, 69]⟩) b0 rfl
  have e1 := blk_cell (i := 1) (v := .slice A n c) b0 rfl
  clear hr a0 b0 hb
  go_wp2
  exact bodyPost_ret (v := .agg #[.string ⟨#[70, 73, 76, 84, 69, 82, 95, 83, 84, 65, 84, 69]⟩, .slice A n c]) (by simp [results, go_sem, e0, e1]) rfl ⟨A, n, c, rfl, hrq, hb'⟩
set_option maxRecDepth 20000 in
set_option maxHeartbeats 4000000 in
theorem own_202 (w : World) : Calls Tryz.prog 52 #[.int .i64 202] w (RetFm fm202 w) := by
  have a0 := heap_alloc_new w (.cells #[.string ⟨#[]⟩, .slice none 0 0] 57)
  have hb : Below w.heap.size w (w.alloc (.cells #[.string ⟨#[]⟩, .slice none 0 0] 57)) := (Below.refl _ _).alloc (Nat.le_refl _) _
  have hz : (w.alloc (.cells #[.string ⟨#[]⟩, .slice none 0 0] 57)).heap.size = w.heap.size + 1 := World.size_alloc _ _
  have Hz := Lib.hid hz
  clear hz
  go_enter Tryz.func52, Tryz.ntmps52
  have hS := strs_lit (w.alloc (.cells #[.string ⟨#[]⟩, .slice none 0 0] 57)) [⟨#[110, 117, 109, 98, 101, 114]⟩] #[.string ⟨#[110, 117, 109, 98, 101, 114]⟩] rfl 1 rfl (by omega)
  have hbs := (Below.refl (w.alloc (.cells #[.string ⟨#[]⟩, .slice none 0 0] 57)).heap.size (w.alloc (.cells #[.string ⟨#[]⟩, .slice none 0 0] 57))).alloc (Nat.le_refl _) (.cells #[.string ⟨#[110, 117, 109, 98, 101, 114]⟩] 9)
  rw [Hz.out] at hS
  have HS := Lib.hid hS
  clear hS
  go_wp2_with fail
  go_fit (u32_any (some ⟨w.heap.size + 1, 0, none⟩) 1 1 [⟨#[110, 117, 109, 98, 101, 114]⟩] _ HS.out (by omega))
  unfold RetP
  rintro e u0 ⟨A0, n0, c0, rfl, hl, own, hbx⟩
  obtain rfl : n0 = 1 := hl
  have hbq := bnx hbs hbx
  replace a0 := blk_old a0 hbq (blk_lt a0)
  replace hb := bnx hb hbq
  have hr0 : RdP u0 u0.heap.size A0 1 c0 (mkP 4 false [⟨#[110, 117, 109, 98, 101, 114]⟩]) := RdP.own own rfl
  clear own hbx hbq HS hbs
  have hS := strs_lit u0 [⟨#[112, 97, 114, 116]⟩] #[.string ⟨#[112, 97, 114, 116]⟩] rfl 1 rfl (by omega)
  have hbs := (Below.refl u0.heap.size u0).alloc (Nat.le_refl _) (.cells #[.string ⟨#[112, 97, 114, 116]⟩] 9)
  have HS := Lib.hid hS
  clear hS
  go_wp2_with fail
  go_fit (u8_any (some ⟨u0.heap.size, 0, none⟩) 1 1 [⟨#[112, 97, 114, 116]⟩] _ HS.out (by omega))
  unfold RetP
  rintro e u1 ⟨A1, n1, c1, rfl, hl, own, hbx⟩
  obtain rfl : n1 = 1 := hl
  have hbq := bnx hbs hbx
  replace a0 := blk_old a0 hbq (blk_lt a0)
  replace hb := bnx hb hbq
  replace hr0 : RdP _ _ A0 1 c0 _ := RdR.nx hr0 hbq
  have hr1 : RdP u1 u1.heap.size A1 1 c1 (mkP 1 false [⟨#[112, 97, 114, 116]⟩]) := RdP.own own rfl
  clear own hbx hbq HS hbs
  have hS := strs_lit u1 [⟨#[98, 121, 116, 101, 115]⟩] #[.string ⟨#[98, 121, 116, 101, 115]⟩] rfl 1 rfl (by omega)
  have hbs := (Below.refl u1.heap.size u1).alloc (Nat.le_refl _) (.cells #[.string ⟨#[98, 121, 116, 101, 115]⟩] 9)
  have HS := Lib.hid hS
  clear hS
  go_wp2_with fail
  go_fit (array_any 64 (some ⟨u1.heap.size, 0, none⟩) 1 1 [⟨#[98, 121, 116, 101, 115]⟩] _ HS.out (by omega))
  unfold RetP
  rintro e u2 ⟨A2, n2, c2, rfl, hl, own, hbx⟩
  obtain rfl : n2 = 1 := hl
  have hbq := bnx hbs hbx
  replace a0 := blk_old a0 hbq (blk_lt a0)
  replace hb := bnx hb hbq
  replace hr0 : RdP _ _ A0 1 c0 _ := RdR.nx hr0 hbq
  replace hr1 : RdP _ _ A1 1 c1 _ := RdR.nx hr1 hbq
  have hr2 : RdP u2 u2.heap.size A2 1 c2 ((mkP 1 false [⟨#[98, 121, 116, 101, 115]⟩]).map (setM 64)) := RdP.own own rfl
  clear own hbx hbq HS hbs
  have hbs := (Below.refl u2.heap.size u2).alloc (Nat.le_refl _) (.cells #[.slice A0 1 c0, .slice A1 1 c1, .slice A2 1 c2] 55)
  replace hr0 : RdP _ _ A0 1 c0 _ := RdR.nx hr0 hbs
  replace hr1 : RdP _ _ A1 1 c1 _ := RdR.nx hr1 hbs
  replace hr2 : RdP _ _ A2 1 c2 _ := RdR.nx hr2 hbs
  have hsz : (u2.alloc (.cells #[.slice A0 1 c0, .slice A1 1 c1, .slice A2 1 c2] 55)).heap.size = u2.heap.size + 1 := World.size_alloc _ _
  have hlit := RdR.lit (size := 1) (e := 55) u2 [[.slice A0 1 c0], [.slice A1 1 c1], [.slice A2 1 c2]] #[.slice A0 1 c0, .slice A1 1 c1, .slice A2 1 c2] rfl (by intro r hr; simp only [List.mem_cons, List.not_mem_nil, or_false] at hr; rcases hr with rfl | rfl | rfl <;> rfl) (by simp [maxLen]) 3 rfl
  rw [← hsz] at hlit
  have hof := of_any ⟨#[76, 79, 71, 95, 66, 76, 79, 67, 75]⟩ (some ⟨u2.heap.size, 0, none⟩) 3 3 [⟨A0, 1, c0, (mkP 4 false [⟨#[110, 117, 109, 98, 101, 114]⟩])⟩, ⟨A1, 1, c1, (mkP 1 false [⟨#[112, 97, 114, 116]⟩])⟩, ⟨A2, 1, c2, ((mkP 1 false [⟨#[98, 121, 116, 101, 115]⟩]).map (setM 64))⟩] (u2.alloc (.cells #[.slice A0 1 c0, .slice A1 1 c1, .slice A2 1 c2] 55)) ⟨hlit, by intro r hr; simp only [List.mem_cons, List.not_mem_nil, or_false] at hr; rcases hr with rfl | rfl | rfl <;> first | exact ⟨hr0, by show 1 ≤ 100; omega⟩ | exact ⟨hr1, by show 1 ≤ 100; omega⟩ | exact ⟨hr2, by show 1 ≤ 100; omega⟩⟩ (by omega)
  have Hof := Lib.hid hof
  clear hof hlit hsz hr0 hr1 hr2
  replace a0 := blk_old a0 hbs (blk_lt a0)
  replace hb := bnx hb hbs
  clear hbs
  go_wp2_with fail
  go_fit Hof.out
  unfold RetFm
  rintro e v ⟨A, n, c, rfl, hr, hbx⟩
  replace a0 := blk_old a0 hbx (blk_lt a0)
  replace hb := bnx hb hbx
  clear hbx Hof
  have hb' := below_setRow hb (Nat.le_refl _) (#[.string ⟨#[76, 79, 71, 95, 66, 76, 79, 67, 75]⟩, .slice A n c] : Array Value)
  have b0 := setRow_heap _ _ _ (#[.string ⟨#[76, 79, 71, 95, 66, 76, 79, 67, 75]⟩, .slice A n c] : Array Value) _ _ a0
  have hrq : RdP (v.setRow w.heap.size #[.string ⟨#[76, 79, 71, 95, 66, 76, 79, 67, 75]⟩, .slice A n c]) (v.setRow w.heap.size #[.string ⟨#[76, 79, 71, 95, 66, 76, 79, 67, 75]⟩, .slice A n c]).heap.size A n c fm202.2 := rdP_set hr a0 (#[.string ⟨#[76, 79, 71, 95, 66, 76, 79, 67, 75]⟩, .slice A n c] : Array Value)
  go_wp2_with (first | (with_reducible refine stop_storeT 57 ?_))
  refine go_ (wpList_store_row rfl _ _ _ rfl w.heap.size #[.string ⟨#[76, 79, 71, 95, 66, 76, 79, 67, 75]⟩, .slice A n c] rfl rfl _ _ a0 (by kernel_rfl) rfl (by kernel_rfl) ?_)
  generalize (v.setRow w.heap.size #[.string ⟨#[76, 79, 71, 95, 66, 76, 79, 67, 75]⟩, .slice A n c]) = w9 at *
  have e0 := blk_cell (i := 0) (v := .string ⟨#[76, 79, 71, 95, 66, 76, 79, 67, 75]⟩) b0 rfl
  have e1 := blk_cell (i := 1) (v := .slice A n c) b0 rfl
  clear hr a0 b0 hb
  go_wp2
  exact bodyPost_ret (v := .agg #[.string ⟨#[76, 79, 71, 95, 66, 76, 79, 67, 75]⟩, .slice A n c]) (by simp [results, go_sem, e0, e1]) rfl ⟨A, n, c, rfl, hrq, hb'⟩
set_option maxRecDepth 20000 in
set_option maxHeartbeats 4000000 in
theorem own_no (id : Int) (h200 : ¬ id = 200) (h201 : ¬ id = 201) (h202 : ¬ id = 202) (w : World) : Calls Tryz.prog 52 #[.int .i64 id] w (RetFm fmNone w) := by
  have q200 : (id == 200) = false := by rw [beq_eq_false_iff_ne]; exact h200
  have q201 : (id == 201) = false := by rw [beq_eq_false_iff_ne]; exact h201
  have q202 : (id == 202) = false := by rw [beq_eq_false_iff_ne]; exact h202
  have a0 := heap_alloc_new w (.cells #[.string ⟨#[]⟩, .slice none 0 0] 57)
  have hb : Below w.heap.size w (w.alloc (.cells #[.string ⟨#[]⟩, .slice none 0 0] 57)) := (Below.refl _ _).alloc (Nat.le_refl _) _
  have hb' := below_setRow hb (Nat.le_refl _) (#[.string ⟨#[]⟩, .slice none 0 0] : Array Value)
  have b0 := setRow_heap _ _ _ (#[.string ⟨#[]⟩, .slice none 0 0] : Array Value) _ _ a0
  go_enter Tryz.func52, Tryz.ntmps52
  go_wp2_with (first | (with_reducible refine stop_buildF 57 ?_))
  refine go_ ?_
  generalize (w.alloc (.cells #[.string ⟨#[]⟩, .slice none 0 0] 57)) = v at *
  go_wp2_with (first | (with_reducible refine stop_storeT 57 ?_))
  refine go_ (wpList_store_row rfl _ _ _ rfl w.heap.size #[.string ⟨#[]⟩, .slice none 0 0] rfl rfl _ _ a0 (by kernel_rfl) rfl (by kernel_rfl) ?_)
  generalize (v.setRow w.heap.size #[.string ⟨#[]⟩, .slice none 0 0]) = w9 at *
  have e0 := blk_cell (i := 0) (v := .string ⟨#[]⟩) b0 rfl
  have e1 := blk_cell (i := 1) (v := .slice none 0 0) b0 rfl
  clear a0 b0 hb
  go_wp2
  exact bodyPost_ret (v := .agg #[.string ⟨#[]⟩, .slice none 0 0]) (by simp [results, go_sem, e0, e1]) rfl ⟨none, 0, 0, rfl, RdR.none_ _ _ _, hb'⟩
theorem own_any (id : Int) (w : World) : Calls Tryz.prog 52 #[.int .i64 id] w (RetFm (frmO id) w) := by
  unfold frmO
  by_cases h200 : id = 200
  · subst h200
    rw [if_pos rfl]
    exact own_200 w
  rw [if_neg h200]
  by_cases h201 : id = 201
  · subst h201
    rw [if_pos rfl]
    exact own_201 w
  rw [if_neg h201]
  by_cases h202 : id = 202
  · subst h202
    rw [if_pos rfl]
    exact own_202 w
  rw [if_neg h202]
  exact own_no id h200 h201 h202 w

end Go.Proofs.YtonejdjhdjckjaaGreat
