/-
  the forms of state walked (printed by gen_sch3.py).
-/
import Derived.Test.YtonejdjhdjckjaaGreatSch2
set_option linter.unusedSimpArgs false
set_option linter.unusedVariables false
namespace Go.Proofs.YtonejdjhdjckjaaGreat
open Go.RowKit NumLaw
attribute [local go_sem] Addr.add_mid

set_option maxRecDepth 20000 in
set_option maxHeartbeats 4000000 in
theorem state_0 (w : World) : Calls Tryz.prog 49 #[.int .i64 0] w (RetFm fm0 w) := by
  have a0 := heap_alloc_new w (.cells #[.string ⟨#[]⟩, .slice none 0 0] 57)
  have hb : Below w.heap.size w (w.alloc (.cells #[.string ⟨#[]⟩, .slice none 0 0] 57)) := (Below.refl _ _).alloc (Nat.le_refl _) _
  have hz : (w.alloc (.cells #[.string ⟨#[]⟩, .slice none 0 0] 57)).heap.size = w.heap.size + 1 := World.size_alloc _ _
  have Hz := Lib.hid hz
  clear hz
  go_enter Tryz.func49, Tryz.ntmps49
  have hS := strs_lit (w.alloc (.cells #[.string ⟨#[]⟩, .slice none 0 0] 57)) [⟨#[116, 121, 112, 101]⟩, ⟨#[97, 117, 116, 111, 112, 105, 108, 111, 116]⟩, ⟨#[98, 97, 115, 101, 95, 109, 111, 100, 101]⟩] #[.string ⟨#[116, 121, 112, 101]⟩, .string ⟨#[97, 117, 116, 111, 112, 105, 108, 111, 116]⟩, .string ⟨#[98, 97, 115, 101, 95, 109, 111, 100, 101]⟩] rfl 3 rfl (by omega)
  have hbs := (Below.refl (w.alloc (.cells #[.string ⟨#[]⟩, .slice none 0 0] 57)).heap.size (w.alloc (.cells #[.string ⟨#[]⟩, .slice none 0 0] 57))).alloc (Nat.le_refl _) (.cells #[.string ⟨#[116, 121, 112, 101]⟩, .string ⟨#[97, 117, 116, 111, 112, 105, 108, 111, 116]⟩, .string ⟨#[98, 97, 115, 101, 95, 109, 111, 100, 101]⟩] 9)
  rw [Hz.out] at hS
  have HS := Lib.hid hS
  clear hS
  go_wp2_with fail
  go_fit (u8_any (some ⟨w.heap.size + 1, 0, none⟩) 3 3 [⟨#[116, 121, 112, 101]⟩, ⟨#[97, 117, 116, 111, 112, 105, 108, 111, 116]⟩, ⟨#[98, 97, 115, 101, 95, 109, 111, 100, 101]⟩] _ HS.out (by omega))
  unfold RetP
  rintro e u0 ⟨A0, n0, c0, rfl, hl, own, hbx⟩
  obtain rfl : n0 = 3 := hl
  have hbq := bnx hbs hbx
  replace a0 := blk_old a0 hbq (blk_lt a0)
  replace hb := bnx hb hbq
  have hr0 : RdP u0 u0.heap.size A0 3 c0 (mkP 1 false [⟨#[116, 121, 112, 101]⟩, ⟨#[97, 117, 116, 111, 112, 105, 108, 111, 116]⟩, ⟨#[98, 97, 115, 101, 95, 109, 111, 100, 101]⟩]) := RdP.own own rfl
  clear own hbx hbq HS hbs
  have hS := strs_lit u0 [⟨#[99, 117, 115, 116, 111, 109, 95, 109, 111, 100, 101]⟩] #[.string ⟨#[99, 117, 115, 116, 111, 109, 95, 109, 111, 100, 101]⟩] rfl 1 rfl (by omega)
  have hbs := (Below.refl u0.heap.size u0).alloc (Nat.le_refl _) (.cells #[.string ⟨#[99, 117, 115, 116, 111, 109, 95, 109, 111, 100, 101]⟩] 9)
  have HS := Lib.hid hS
  clear hS
  go_wp2_with fail
  go_fit (u32_any (some ⟨u0.heap.size, 0, none⟩) 1 1 [⟨#[99, 117, 115, 116, 111, 109, 95, 109, 111, 100, 101]⟩] _ HS.out (by omega))
  unfold RetP
  rintro e u1 ⟨A1, n1, c1, rfl, hl, own, hbx⟩
  obtain rfl : n1 = 1 := hl
  have hbq := bnx hbs hbx
  replace a0 := blk_old a0 hbq (blk_lt a0)
  replace hb := bnx hb hbq
  replace hr0 : RdP _ _ A0 3 c0 _ := RdR.nx hr0 hbq
  have hr1 : RdP u1 u1.heap.size A1 1 c1 (mkP 4 false [⟨#[99, 117, 115, 116, 111, 109, 95, 109, 111, 100, 101]⟩]) := RdP.own own rfl
  clear own hbx hbq HS hbs
  have hS := strs_lit u1 [⟨#[115, 121, 115, 116, 101, 109, 95, 115, 116, 97, 116, 117, 115]⟩, ⟨#[109, 97, 118, 108, 105, 110, 107, 95, 118, 101, 114, 115, 105, 111, 110]⟩] #[.string ⟨#[115, 121, 115, 116, 101, 109, 95, 115, 116, 97, 116, 117, 115]⟩, .string ⟨#[109, 97, 118, 108, 105, 110, 107, 95, 118, 101, 114, 115, 105, 111, 110]⟩] rfl 2 rfl (by omega)
  have hbs := (Below.refl u1.heap.size u1).alloc (Nat.le_refl _) (.cells #[.string ⟨#[115, 121, 115, 116, 101, 109, 95, 115, 116, 97, 116, 117, 115]⟩, .string ⟨#[109, 97, 118, 108, 105, 110, 107, 95, 118, 101, 114, 115, 105, 111, 110]⟩] 9)
  have HS := Lib.hid hS
  clear hS
  go_wp2_with fail
  go_fit (u8_any (some ⟨u1.heap.size, 0, none⟩) 2 2 [⟨#[115, 121, 115, 116, 101, 109, 95, 115, 116, 97, 116, 117, 115]⟩, ⟨#[109, 97, 118, 108, 105, 110, 107, 95, 118, 101, 114, 115, 105, 111, 110]⟩] _ HS.out (by omega))
  unfold RetP
  rintro e u2 ⟨A2, n2, c2, rfl, hl, own, hbx⟩
  obtain rfl : n2 = 2 := hl
  have hbq := bnx hbs hbx
  replace a0 := blk_old a0 hbq (blk_lt a0)
  replace hb := bnx hb hbq
  replace hr0 : RdP _ _ A0 3 c0 _ := RdR.nx hr0 hbq
  replace hr1 : RdP _ _ A1 1 c1 _ := RdR.nx hr1 hbq
  have hr2 : RdP u2 u2.heap.size A2 2 c2 (mkP 1 false [⟨#[115, 121, 115, 116, 101, 109, 95, 115, 116, 97, 116, 117, 115]⟩, ⟨#[109, 97, 118, 108, 105, 110, 107, 95, 118, 101, 114, 115, 105, 111, 110]⟩]) := RdP.own own rfl
  clear own hbx hbq HS hbs
  have hbs := (Below.refl u2.heap.size u2).alloc (Nat.le_refl _) (.cells #[.slice A0 3 c0, .slice A1 1 c1, .slice A2 2 c2] 55)
  replace hr0 : RdP _ _ A0 3 c0 _ := RdR.nx hr0 hbs
  replace hr1 : RdP _ _ A1 1 c1 _ := RdR.nx hr1 hbs
  replace hr2 : RdP _ _ A2 2 c2 _ := RdR.nx hr2 hbs
  have hsz : (u2.alloc (.cells #[.slice A0 3 c0, .slice A1 1 c1, .slice A2 2 c2] 55)).heap.size = u2.heap.size + 1 := World.size_alloc _ _
  have hlit := RdR.lit (size := 1) (e := 55) u2 [[.slice A0 3 c0], [.slice A1 1 c1], [.slice A2 2 c2]] #[.slice A0 3 c0, .slice A1 1 c1, .slice A2 2 c2] rfl (by intro r hr; simp only [List.mem_cons, List.not_mem_nil, or_false] at hr; rcases hr with rfl | rfl | rfl <;> rfl) (by simp [maxLen]) 3 rfl
  rw [← hsz] at hlit
  have hof := of_any ⟨#[72, 69, 65, 82, 84, 66, 69, 65, 84]⟩ (some ⟨u2.heap.size, 0, none⟩) 3 3 [⟨A0, 3, c0, (mkP 1 false [⟨#[116, 121, 112, 101]⟩, ⟨#[97, 117, 116, 111, 112, 105, 108, 111, 116]⟩, ⟨#[98, 97, 115, 101, 95, 109, 111, 100, 101]⟩])⟩, ⟨A1, 1, c1, (mkP 4 false [⟨#[99, 117, 115, 116, 111, 109, 95, 109, 111, 100, 101]⟩])⟩, ⟨A2, 2, c2, (mkP 1 false [⟨#[115, 121, 115, 116, 101, 109, 95, 115, 116, 97, 116, 117, 115]⟩, ⟨#[109, 97, 118, 108, 105, 110, 107, 95, 118, 101, 114, 115, 105, 111, 110]⟩])⟩] (u2.alloc (.cells #[.slice A0 3 c0, .slice A1 1 c1, .slice A2 2 c2] 55)) ⟨hlit, by intro r hr; simp only [List.mem_cons, List.not_mem_nil, or_false] at hr; rcases hr with rfl | rfl | rfl <;> first | exact ⟨hr0, by show 3 ≤ 100; omega⟩ | exact ⟨hr1, by show 1 ≤ 100; omega⟩ | exact ⟨hr2, by show 2 ≤ 100; omega⟩⟩ (by omega)
  have Hof := Lib.hid hof
  clear hof hlit hsz hr0 hr1 hr2
  replace a0 := blk_old a0 hbs (blk_lt a0)
  replace hb := bnx hb hbs
  clear hbs
  go_wp2_with fail
  go_fit Hof.out
  unfold RetFm
  rintro e v ⟨A, n, c, rfl, hr, hbx⟩
  replace a0 := blk_old a0 hbx (blk_lt a0)
  replace hb := bnx hb hbx
  clear hbx Hof
  have hb' := below_setRow hb (Nat.le_refl _) (#[.string ⟨#[72, 69, 65, 82, 84, 66, 69, 65, 84]⟩, .slice A n c] : Array Value)
  have b0 := setRow_heap _ _ _ (#[.string ⟨#[72, 69, 65, 82, 84, 66, 69, 65, 84]⟩, .slice A n c] : Array Value) _ _ a0
  have hrq : RdP (v.setRow w.heap.size #[.string ⟨#[72, 69, 65, 82, 84, 66, 69, 65, 84]⟩, .slice A n c]) (v.setRow w.heap.size #[.string ⟨#[72, 69, 65, 82, 84, 66, 69, 65, 84]⟩, .slice A n c]).heap.size A n c fm0.2 := rdP_set hr a0 (#[.string ⟨#[72, 69, 65, 82, 84, 66, 69, 65, 84]⟩, .slice A n c] : Array Value)
  go_wp2_with (first | (with_reducible refine stop_storeT 57 ?_))
  refine go_ (wpList_store_row rfl _ _ _ rfl w.heap.size #[.string ⟨#[72, 69, 65, 82, 84, 66, 69, 65, 84]⟩, .slice A n c] rfl rfl _ _ a0 (by kernel_rfl) rfl (by kernel_rfl) ?_)
  generalize (v.setRow w.heap.size #[.string ⟨#[72, 69, 65, 82, 84, 66, 69, 65, 84]⟩, .slice A n c]) = w9 at *
  have e0 := blk_cell (i := 0) (v := .string ⟨#[72, 69, 65, 82, 84, 66, 69, 65, 84]⟩) b0 rfl
  have e1 := blk_cell (i := 1) (v := .slice A n c) b0 rfl
  clear hr a0 b0 hb
  go_wp2
  exact bodyPost_ret (v := .agg #[.string ⟨#[72, 69, 65, 82, 84, 66, 69, 65, 84]⟩, .slice A n c]) (by simp [results, go_sem, e0, e1]) rfl ⟨A, n, c, rfl, hrq, hb'⟩
set_option maxRecDepth 20000 in
set_option maxHeartbeats 4000000 in
theorem state_1 (w : World) : Calls Tryz.prog 49 #[.int .i64 1] w (RetFm fm1 w) := by
  have a0 := heap_alloc_new w (.cells #[.string ⟨#[]⟩, .slice none 0 0] 57)
  have hb : Below w.heap.size w (w.alloc (.cells #[.string ⟨#[]⟩, .slice none 0 0] 57)) := (Below.refl _ _).alloc (Nat.le_refl _) _
  have hz : (w.alloc (.cells #[.string ⟨#[]⟩, .slice none 0 0] 57)).heap.size = w.heap.size + 1 := World.size_alloc _ _
  have Hz := Lib.hid hz
  clear hz
  go_enter Tryz.func49, Tryz.ntmps49
  have hS := strs_lit (w.alloc (.cells #[.string ⟨#[]⟩, .slice none 0 0] 57)) [⟨#[111, 110, 98, 111, 97, 114, 100, 95, 99, 111, 110, 116, 114, 111, 108, 95, 115, 101, 110, 115, 111, 114, 115, 95, 112, 114, 101, 115, 101, 110, 116]⟩, ⟨#[111, 110, 98, 111, 97, 114, 100, 95, 99, 111, 110, 116, 114, 111, 108, 95, 115, 101, 110, 115, 111, 114, 115, 95, 101, 110, 97, 98, 108, 101, 100]⟩, ⟨#[111, 110, 98, 111, 97, 114, 100, 95, 99, 111, 110, 116, 114, 111, 108, 95, 115, 101, 110, 115, 111, 114, 115, 95, 104, 101, 97, 108, 116, 104]⟩] #[.string ⟨#[111, 110, 98, 111, 97, 114, 100, 95, 99, 111, 110, 116, 114, 111, 108, 95, 115, 101, 110, 115, 111, 114, 115, 95, 112, 114, 101, 115, 101, 110, 116]⟩, .string ⟨#[111, 110, 98, 111, 97, 114, 100, 95, 99, 111, 110, 116, 114, 111, 108, 95, 115, 101, 110, 115, 111, 114, 115, 95, 101, 110, 97, 98, 108, 101, 100]⟩, .string ⟨#[111, 110, 98, 111, 97, 114, 100, 95, 99, 111, 110, 116, 114, 111, 108, 95, 115, 101, 110, 115, 111, 114, 115, 95, 104, 101, 97, 108, 116, 104]⟩] rfl 3 rfl (by omega)
  have hbs := (Below.refl (w.alloc (.cells #[.string ⟨#[]⟩, .slice none 0 0] 57)).heap.size (w.alloc (.cells #[.string ⟨#[]⟩, .slice none 0 0] 57))).alloc (Nat.le_refl _) (.cells #[.string ⟨#[111, 110, 98, 111, 97, 114, 100, 95, 99, 111, 110, 116, 114, 111, 108, 95, 115, 101, 110, 115, 111, 114, 115, 95, 112, 114, 101, 115, 101, 110, 116]⟩, .string ⟨#[111, 110, 98, 111, 97, 114, 100, 95, 99, 111, 110, 116, 114, 111, 108, 95, 115, 101, 110, 115, 111, 114, 115, 95, 101, 110, 97, 98, 108, 101, 100]⟩, .string ⟨#[111, 110, 98, 111, 97, 114, 100, 95, 99, 111, 110, 116, 114, 111, 108, 95, 115, 101, 110, 115, 111, 114, 115, 95, 104, 101, 97, 108, 116, 104]⟩] 9)
  rw [Hz.out] at hS
  have HS := Lib.hid hS
  clear hS
  go_wp2_with fail
  go_fit (u32_any (some ⟨w.heap.size + 1, 0, none⟩) 3 3 [⟨#[111, 110, 98, 111, 97, 114, 100, 95, 99, 111, 110, 116, 114, 111, 108, 95, 115, 101, 110, 115, 111, 114, 115, 95, 112, 114, 101, 115, 101, 110, 116]⟩, ⟨#[111, 110, 98, 111, 97, 114, 100, 95, 99, 111, 110, 116, 114, 111, 108, 95, 115, 101, 110, 115, 111, 114, 115, 95, 101, 110, 97, 98, 108, 101, 100]⟩, ⟨#[111, 110, 98, 111, 97, 114, 100, 95, 99, 111, 110, 116, 114, 111, 108, 95, 115, 101, 110, 115, 111, 114, 115, 95, 104, 101, 97, 108, 116, 104]⟩] _ HS.out (by omega))
  unfold RetP
  rintro e u0 ⟨A0, n0, c0, rfl, hl, own, hbx⟩
  obtain rfl : n0 = 3 := hl
  have hbq := bnx hbs hbx
  replace a0 := blk_old a0 hbq (blk_lt a0)
  replace hb := bnx hb hbq
  have hr0 : RdP u0 u0.heap.size A0 3 c0 (mkP 4 false [⟨#[111, 110, 98, 111, 97, 114, 100, 95, 99, 111, 110, 116, 114, 111, 108, 95, 115, 101, 110, 115, 111, 114, 115, 95, 112, 114, 101, 115, 101, 110, 116]⟩, ⟨#[111, 110, 98, 111, 97, 114, 100, 95, 99, 111, 110, 116, 114, 111, 108, 95, 115, 101, 110, 115, 111, 114, 115, 95, 101, 110, 97, 98, 108, 101, 100]⟩, ⟨#[111, 110, 98, 111, 97, 114, 100, 95, 99, 111, 110, 116, 114, 111, 108, 95, 115, 101, 110, 115, 111, 114, 115, 95, 104, 101, 97, 108, 116, 104]⟩]) := RdP.own own rfl
  clear own hbx hbq HS hbs
  have hS := strs_lit u0 [⟨#[108, 111, 97, 100]⟩, ⟨#[118, 111, 108, 116, 97, 103, 101, 95, 98, 97, 116, 116, 101, 114, 121]⟩] #[.string ⟨#[108, 111, 97, 100]⟩, .string ⟨#[118, 111, 108, 116, 97, 103, 101, 95, 98, 97, 116, 116, 101, 114, 121]⟩] rfl 2 rfl (by omega)
  have hbs := (Below.refl u0.heap.size u0).alloc (Nat.le_refl _) (.cells #[.string ⟨#[108, 111, 97, 100]⟩, .string ⟨#[118, 111, 108, 116, 97, 103, 101, 95, 98, 97, 116, 116, 101, 114, 121]⟩] 9)
  have HS := Lib.hid hS
  clear hS
  go_wp2_with fail
  go_fit (u16_any (some ⟨u0.heap.size, 0, none⟩) 2 2 [⟨#[108, 111, 97, 100]⟩, ⟨#[118, 111, 108, 116, 97, 103, 101, 95, 98, 97, 116, 116, 101, 114, 121]⟩] _ HS.out (by omega))
  unfold RetP
  rintro e u1 ⟨A1, n1, c1, rfl, hl, own, hbx⟩
  obtain rfl : n1 = 2 := hl
  have hbq := bnx hbs hbx
  replace a0 := blk_old a0 hbq (blk_lt a0)
  replace hb := bnx hb hbq
  replace hr0 : RdP _ _ A0 3 c0 _ := RdR.nx hr0 hbq
  have hr1 : RdP u1 u1.heap.size A1 2 c1 (mkP 2 false [⟨#[108, 111, 97, 100]⟩, ⟨#[118, 111, 108, 116, 97, 103, 101, 95, 98, 97, 116, 116, 101, 114, 121]⟩]) := RdP.own own rfl
  clear own hbx hbq HS hbs
  have hS := strs_lit u1 [⟨#[99, 117, 114, 114, 101, 110, 116, 95, 98, 97, 116, 116, 101, 114, 121]⟩] #[.string ⟨#[99, 117, 114, 114, 101, 110, 116, 95, 98, 97, 116, 116, 101, 114, 121]⟩] rfl 1 rfl (by omega)
  have hbs := (Below.refl u1.heap.size u1).alloc (Nat.le_refl _) (.cells #[.string ⟨#[99, 117, 114, 114, 101, 110, 116, 95, 98, 97, 116, 116, 101, 114, 121]⟩] 9)
  have HS := Lib.hid hS
  clear hS
  go_wp2_with fail
  go_fit (i16_any (some ⟨u1.heap.size, 0, none⟩) 1 1 [⟨#[99, 117, 114, 114, 101, 110, 116, 95, 98, 97, 116, 116, 101, 114, 121]⟩] _ HS.out (by omega))
  unfold RetP
  rintro e u2 ⟨A2, n2, c2, rfl, hl, own, hbx⟩
  obtain rfl : n2 = 1 := hl
  have hbq := bnx hbs hbx
  replace a0 := blk_old a0 hbq (blk_lt a0)
  replace hb := bnx hb hbq
  replace hr0 : RdP _ _ A0 3 c0 _ := RdR.nx hr0 hbq
  replace hr1 : RdP _ _ A1 2 c1 _ := RdR.nx hr1 hbq
  have hr2 : RdP u2 u2.heap.size A2 1 c2 (mkP 2 true [⟨#[99, 117, 114, 114, 101, 110, 116, 95, 98, 97, 116, 116, 101, 114, 121]⟩]) := RdP.own own rfl
  clear own hbx hbq HS hbs
  have hS := strs_lit u2 [⟨#[98, 97, 116, 116, 101, 114, 121, 95, 114, 101, 109, 97, 105, 110, 105, 110, 103]⟩] #[.string ⟨#[98, 97, 116, 116, 101, 114, 121, 95, 114, 101, 109, 97, 105, 110, 105, 110, 103]⟩] rfl 1 rfl (by omega)
  have hbs := (Below.refl u2.heap.size u2).alloc (Nat.le_refl _) (.cells #[.string ⟨#[98, 97, 116, 116, 101, 114, 121, 95, 114, 101, 109, 97, 105, 110, 105, 110, 103]⟩] 9)
  have HS := Lib.hid hS
  clear hS
  go_wp2_with fail
  go_fit (i8_any (some ⟨u2.heap.size, 0, none⟩) 1 1 [⟨#[98, 97, 116, 116, 101, 114, 121, 95, 114, 101, 109, 97, 105, 110, 105, 110, 103]⟩] _ HS.out (by omega))
  unfold RetP
  rintro e u3 ⟨A3, n3, c3, rfl, hl, own, hbx⟩
  obtain rfl : n3 = 1 := hl
  have hbq := bnx hbs hbx
  replace a0 := blk_old a0 hbq (blk_lt a0)
  replace hb := bnx hb hbq
  replace hr0 : RdP _ _ A0 3 c0 _ := RdR.nx hr0 hbq
  replace hr1 : RdP _ _ A1 2 c1 _ := RdR.nx hr1 hbq
  replace hr2 : RdP _ _ A2 1 c2 _ := RdR.nx hr2 hbq
  have hr3 : RdP u3 u3.heap.size A3 1 c3 (mkP 1 true [⟨#[98, 97, 116, 116, 101, 114, 121, 95, 114, 101, 109, 97, 105, 110, 105, 110, 103]⟩]) := RdP.own own rfl
  clear own hbx hbq HS hbs
  have hS := strs_lit u3 [⟨#[100, 114, 111, 112, 95, 114, 97, 116, 101, 95, 99, 111, 109, 109]⟩, ⟨#[101, 114, 114, 111, 114, 115, 95, 99, 111, 109, 109]⟩, ⟨#[101, 114, 114, 111, 114, 115, 95, 99, 111, 117, 110, 116, 49]⟩, ⟨#[101, 114, 114, 111, 114, 115, 95, 99, 111, 117, 110, 116, 50]⟩, ⟨#[101, 114, 114, 111, 114, 115, 95, 99, 111, 117, 110, 116, 51]⟩, ⟨#[101, 114, 114, 111, 114, 115, 95, 99, 111, 117, 110, 116, 52]⟩] #[.string ⟨#[100, 114, 111, 112, 95, 114, 97, 116, 101, 95, 99, 111, 109, 109]⟩, .string ⟨#[101, 114, 114, 111, 114, 115, 95, 99, 111, 109, 109]⟩, .string ⟨#[101, 114, 114, 111, 114, 115, 95, 99, 111, 117, 110, 116, 49]⟩, .string ⟨#[101, 114, 114, 111, 114, 115, 95, 99, 111, 117, 110, 116, 50]⟩, .string ⟨#[101, 114, 114, 111, 114, 115, 95, 99, 111, 117, 110, 116, 51]⟩, .string ⟨#[101, 114, 114, 111, 114, 115, 95, 99, 111, 117, 110, 116, 52]⟩] rfl 6 rfl (by omega)
  have hbs := (Below.refl u3.heap.size u3).alloc (Nat.le_refl _) (.cells #[.string ⟨#[100, 114, 111, 112, 95, 114, 97, 116, 101, 95, 99, 111, 109, 109]⟩, .string ⟨#[101, 114, 114, 111, 114, 115, 95, 99, 111, 109, 109]⟩, .string ⟨#[101, 114, 114, 111, 114, 115, 95, 99, 111, 117, 110, 116, 49]⟩, .string ⟨#[101, 114, 114, 111, 114, 115, 95, 99, 111, 117, 110, 116, 50]⟩, .string ⟨#[101, 114, 114, 111, 114, 115, 95, 99, 111, 117, 110, 116, 51]⟩, .string ⟨#[101, 114, 114, 111, 114, 115, 95, 99, 111, 117, 110, 116, 52]⟩] 9)
  have HS := Lib.hid hS
  clear hS
  go_wp2_with fail
  go_fit (u16_any (some ⟨u3.heap.size, 0, none⟩) 6 6 [⟨#[100, 114, 111, 112, 95, 114, 97, 116, 101, 95, 99, 111, 109, 109]⟩, ⟨#[101, 114, 114, 111, 114, 115, 95, 99, 111, 109, 109]⟩, ⟨#[101, 114, 114, 111, 114, 115, 95, 99, 111, 117, 110, 116, 49]⟩, ⟨#[101, 114, 114, 111, 114, 115, 95, 99, 111, 117, 110, 116, 50]⟩, ⟨#[101, 114, 114, 111, 114, 115, 95, 99, 111, 117, 110, 116, 51]⟩, ⟨#[101, 114, 114, 111, 114, 115, 95, 99, 111, 117, 110, 116, 52]⟩] _ HS.out (by omega))
  unfold RetP
  rintro e u4 ⟨A4, n4, c4, rfl, hl, own, hbx⟩
  obtain rfl : n4 = 6 := hl
  have hbq := bnx hbs hbx
  replace a0 := blk_old a0 hbq (blk_lt a0)
  replace hb := bnx hb hbq
  replace hr0 : RdP _ _ A0 3 c0 _ := RdR.nx hr0 hbq
  replace hr1 : RdP _ _ A1 2 c1 _ := RdR.nx hr1 hbq
  replace hr2 : RdP _ _ A2 1 c2 _ := RdR.nx hr2 hbq
  replace hr3 : RdP _ _ A3 1 c3 _ := RdR.nx hr3 hbq
  have hr4 : RdP u4 u4.heap.size A4 6 c4 (mkP 2 false [⟨#[100, 114, 111, 112, 95, 114, 97, 116, 101, 95, 99, 111, 109, 109]⟩, ⟨#[101, 114, 114, 111, 114, 115, 95, 99, 111, 109, 109]⟩, ⟨#[101, 114, 114, 111, 114, 115, 95, 99, 111, 117, 110, 116, 49]⟩, ⟨#[101, 114, 114, 111, 114, 115, 95, 99, 111, 117, 110, 116, 50]⟩, ⟨#[101, 114, 114, 111, 114, 115, 95, 99, 111, 117, 110, 116, 51]⟩, ⟨#[101, 114, 114, 111, 114, 115, 95, 99, 111, 117, 110, 116, 52]⟩]) := RdP.own own rfl
  clear own hbx hbq HS hbs
  have hbs := (Below.refl u4.heap.size u4).alloc (Nat.le_refl _) (.cells #[.slice A0 3 c0, .slice A1 2 c1, .slice A2 1 c2, .slice A3 1 c3, .slice A4 6 c4] 55)
  replace hr0 : RdP _ _ A0 3 c0 _ := RdR.nx hr0 hbs
  replace hr1 : RdP _ _ A1 2 c1 _ := RdR.nx hr1 hbs
  replace hr2 : RdP _ _ A2 1 c2 _ := RdR.nx hr2 hbs
  replace hr3 : RdP _ _ A3 1 c3 _ := RdR.nx hr3 hbs
  replace hr4 : RdP _ _ A4 6 c4 _ := RdR.nx hr4 hbs
  have hsz : (u4.alloc (.cells #[.slice A0 3 c0, .slice A1 2 c1, .slice A2 1 c2, .slice A3 1 c3, .slice A4 6 c4] 55)).heap.size = u4.heap.size + 1 := World.size_alloc _ _
  have hlit := RdR.lit (size := 1) (e := 55) u4 [[.slice A0 3 c0], [.slice A1 2 c1], [.slice A2 1 c2], [.slice A3 1 c3], [.slice A4 6 c4]] #[.slice A0 3 c0, .slice A1 2 c1, .slice A2 1 c2, .slice A3 1 c3, .slice A4 6 c4] rfl (by intro r hr; simp only [List.mem_cons, List.not_mem_nil, or_false] at hr; rcases hr with rfl | rfl | rfl | rfl | rfl <;> rfl) (by simp [maxLen]) 5 rfl
  rw [← hsz] at hlit
  have hof := of_any ⟨#[83, 89, 83, 95, 83, 84, 65, 84, 85, 83]⟩ (some ⟨u4.heap.size, 0, none⟩) 5 5 [⟨A0, 3, c0, (mkP 4 false [⟨#[111, 110, 98, 111, 97, 114, 100, 95, 99, 111, 110, 116, 114, 111, 108, 95, 115, 101, 110, 115, 111, 114, 115, 95, 112, 114, 101, 115, 101, 110, 116]⟩, ⟨#[111, 110, 98, 111, 97, 114, 100, 95, 99, 111, 110, 116, 114, 111, 108, 95, 115, 101, 110, 115, 111, 114, 115, 95, 101, 110, 97, 98, 108, 101, 100]⟩, ⟨#[111, 110, 98, 111, 97, 114, 100, 95, 99, 111, 110, 116, 114, 111, 108, 95, 115, 101, 110, 115, 111, 114, 115, 95, 104, 101, 97, 108, 116, 104]⟩])⟩, ⟨A1, 2, c1, (mkP 2 false [⟨#[108, 111, 97, 100]⟩, ⟨#[118, 111, 108, 116, 97, 103, 101, 95, 98, 97, 116, 116, 101, 114, 121]⟩])⟩, ⟨A2, 1, c2, (mkP 2 true [⟨#[99, 117, 114, 114, 101, 110, 116, 95, 98, 97, 116, 116, 101, 114, 121]⟩])⟩, ⟨A3, 1, c3, (mkP 1 true [⟨#[98, 97, 116, 116, 101, 114, 121, 95, 114, 101, 109, 97, 105, 110, 105, 110, 103]⟩])⟩, ⟨A4, 6, c4, (mkP 2 false [⟨#[100, 114, 111, 112, 95, 114, 97, 116, 101, 95, 99, 111, 109, 109]⟩, ⟨#[101, 114, 114, 111, 114, 115, 95, 99, 111, 109, 109]⟩, ⟨#[101, 114, 114, 111, 114, 115, 95, 99, 111, 117, 110, 116, 49]⟩, ⟨#[101, 114, 114, 111, 114, 115, 95, 99, 111, 117, 110, 116, 50]⟩, ⟨#[101, 114, 114, 111, 114, 115, 95, 99, 111, 117, 110, 116, 51]⟩, ⟨#[101, 114, 114, 111, 114, 115, 95, 99, 111, 117, 110, 116, 52]⟩])⟩] (u4.alloc (.cells #[.slice A0 3 c0, .slice A1 2 c1, .slice A2 1 c2, .slice A3 1 c3, .slice A4 6 c4] 55)) ⟨hlit, by intro r hr; simp only [List.mem_cons, List.not_mem_nil, or_false] at hr; rcases hr with rfl | rfl | rfl | rfl | rfl <;> first | exact ⟨hr0, by show 3 ≤ 100; omega⟩ | exact ⟨hr1, by show 2 ≤ 100; omega⟩ | exact ⟨hr2, by show 1 ≤ 100; omega⟩ | exact ⟨hr3, by show 1 ≤ 100; omega⟩ | exact ⟨hr4, by show 6 ≤ 100; omega⟩⟩ (by omega)
  have Hof := Lib.hid hof
  clear hof hlit hsz hr0 hr1 hr2 hr3 hr4
  replace a0 := blk_old a0 hbs (blk_lt a0)
  replace hb := bnx hb hbs
  clear hbs
  go_wp2_with fail
  go_fit Hof.out
  unfold RetFm
  rintro e v ⟨A, n, c, rfl, hr, hbx⟩
  replace a0 := blk_old a0 hbx (blk_lt a0)
  replace hb := bnx hb hbx
  clear hbx Hof
  have hb' := below_setRow hb (Nat.le_refl _) (#[.string ⟨#[83, 89, 83, 95, 83, 84, 65, 84, 85, 83]⟩, .slice A n c] : Array Value)
  have b0 := setRow_heap _ _ _ (#[.string ⟨#[83, 89, 83, 95, 83, 84, 65, 84, 85, 83]⟩, .slice A n c] : Array Value) _ _ a0
  have hrq : RdP (v.setRow w.heap.size #[.string ⟨#[83, 89, 83, 95, 83, 84, 65, 84, 85, 83]⟩, .slice A n c]) (v.setRow w.heap.size #[.string ⟨#[83, 89, 83, 95, 83, 84, 65, 84, 85, 83]⟩, .slice A n c]).heap.size A n c fm1.2 := rdP_set hr a0 (#[.string ⟨#[83, 89, 83, 95, 83, 84, 65, 84, 85, 83]⟩, .slice A n c] : Array Value)
  go_wp2_with (first | (with_reducible refine stop_storeT 57 ?_))
  refine go_ (wpList_store_row rfl _ _ _ rfl w.heap.size #[.string ⟨#[83, 89, 83, 95, 83, 84, 65, 84, 85, 83]⟩, .slice A n c] rfl rfl _ _ a0 (by kernel_rfl) rfl (by kernel_rfl) ?_)
  generalize (v.setRow w.heap.size #[.string ⟨#[83, 89, 83, 95, 83, 84, 65, 84, 85, 83]⟩, .slice A n c]) = w9 at *
  have e0 := blk_cell (i := 0) (v := .string ⟨#[83, 89, 83, 95, 83, 84, 65, 84, 85, 83]⟩) b0 rfl
  have e1 := blk_cell (i := 1) (v := .slice A n c) b0 rfl
  clear hr a0 b0 hb
  go_wp2
  exact bodyPost_ret (v := .agg #[.string ⟨#[83, 89, 83, 95, 83, 84, 65, 84, 85, 83]⟩, .slice A n c]) (by simp [results, go_sem, e0, e1]) rfl ⟨A, n, c, rfl, hrq, hb'⟩
set_option maxRecDepth 20000 in
set_option maxHeartbeats 4000000 in
theorem state_2 (w : World) : Calls Tryz.prog 49 #[.int .i64 2] w (RetFm fm2 w) := by
  have a0 := heap_alloc_new w (.cells #[.string ⟨#[]⟩, .slice none 0 0] 57)
  have hb : Below w.heap.size w (w.alloc (.cells #[.string ⟨#[]⟩, .slice none 0 0] 57)) := (Below.refl _ _).alloc (Nat.le_refl _) _
  have hz : (w.alloc (.cells #[.string ⟨#[]⟩, .slice none 0 0] 57)).heap.size = w.heap.size + 1 := World.size_alloc _ _
  have Hz := Lib.hid hz
  clear hz
  go_enter Tryz.func49, Tryz.ntmps49
  have hS := strs_lit (w.alloc (.cells #[.string ⟨#[]⟩, .slice none 0 0] 57)) [⟨#[116, 105, 109, 101, 95, 117, 110, 105, 120, 95, 117, 115, 101, 99]⟩] #[.string ⟨#[116, 105, 109, 101, 95, 117, 110, 105, 120, 95, 117, 115, 101, 99]⟩] rfl 1 rfl (by omega)
  have hbs := (Below.refl (w.alloc (.cells #[.string ⟨#[]⟩, .slice none 0 0] 57)).heap.size (w.alloc (.cells #[.string ⟨#[]⟩, .slice none 0 0] 57))).alloc (Nat.le_refl _) (.cells #[.string ⟨#[116, 105, 109, 101, 95, 117, 110, 105, 120, 95, 117, 115, 101, 99]⟩] 9)
  rw [Hz.out] at hS
  have HS := Lib.hid hS
  clear hS
  go_wp2_with fail
  go_fit (u64_any (some ⟨w.heap.size + 1, 0, none⟩) 1 1 [⟨#[116, 105, 109, 101, 95, 117, 110, 105, 120, 95, 117, 115, 101, 99]⟩] _ HS.out (by omega))
  unfold RetP
  rintro e u0 ⟨A0, n0, c0, rfl, hl, own, hbx⟩
  obtain rfl : n0 = 1 := hl
  have hbq := bnx hbs hbx
  replace a0 := blk_old a0 hbq (blk_lt a0)
  replace hb := bnx hb hbq
  have hr0 : RdP u0 u0.heap.size A0 1 c0 (mkP 8 false [⟨#[116, 105, 109, 101, 95, 117, 110, 105, 120, 95, 117, 115, 101, 99]⟩]) := RdP.own own rfl
  clear own hbx hbq HS hbs
  have hS := strs_lit u0 [⟨#[116, 105, 109, 101, 95, 98, 111, 111, 116, 95, 109, 115]⟩] #[.string ⟨#[116, 105, 109, 101, 95, 98, 111, 111, 116, 95, 109, 115]⟩] rfl 1 rfl (by omega)
  have hbs := (Below.refl u0.heap.size u0).alloc (Nat.le_refl _) (.cells #[.string ⟨#[116, 105, 109, 101, 95, 98, 111, 111, 116, 95, 109, 115]⟩] 9)
  have HS := Lib.hid hS
  clear hS
  go_wp2_with fail
  go_fit (u32_any (some ⟨u0.heap.size, 0, none⟩) 1 1 [⟨#[116, 105, 109, 101, 95, 98, 111, 111, 116, 95, 109, 115]⟩] _ HS.out (by omega))
  unfold RetP
  rintro e u1 ⟨A1, n1, c1, rfl, hl, own, hbx⟩
  obtain rfl : n1 = 1 := hl
  have hbq := bnx hbs hbx
  replace a0 := blk_old a0 hbq (blk_lt a0)
  replace hb := bnx hb hbq
  replace hr0 : RdP _ _ A0 1 c0 _ := RdR.nx hr0 hbq
  have hr1 : RdP u1 u1.heap.size A1 1 c1 (mkP 4 false [⟨#[116, 105, 109, 101, 95, 98, 111, 111, 116, 95, 109, 115]⟩]) := RdP.own own rfl
  clear own hbx hbq HS hbs
  have hbs := (Below.refl u1.heap.size u1).alloc (Nat.le_refl _) (.cells #[.slice A0 1 c0, .slice A1 1 c1] 55)
  replace hr0 : RdP _ _ A0 1 c0 _ := RdR.nx hr0 hbs
  replace hr1 : RdP _ _ A1 1 c1 _ := RdR.nx hr1 hbs
  have hsz : (u1.alloc (.cells #[.slice A0 1 c0, .slice A1 1 c1] 55)).heap.size = u1.heap.size + 1 := World.size_alloc _ _
  have hlit := RdR.lit (size := 1) (e := 55) u1 [[.slice A0 1 c0], [.slice A1 1 c1]] #[.slice A0 1 c0, .slice A1 1 c1] rfl (by intro r hr; simp only [List.mem_cons, List.not_mem_nil, or_false] at hr; rcases hr with rfl | rfl <;> rfl) (by simp [maxLen]) 2 rfl
  rw [← hsz] at hlit
  have hof := of_any ⟨#[83, 89, 83, 84, 69, 77, 95, 84, 73, 77, 69]⟩ (some ⟨u1.heap.size, 0, none⟩) 2 2 [⟨A0, 1, c0, (mkP 8 false [⟨#[116, 105, 109, 101, 95, 117, 110, 105, 120, 95, 117, 115, 101, 99]⟩])⟩, ⟨A1, 1, c1, (mkP 4 false [⟨#[116, 105, 109, 101, 95, 98, 111, 111, 116, 95, 109, 115]⟩])⟩] (u1.alloc (.cells #[.slice A0 1 c0, .slice A1 1 c1] 55)) ⟨hlit, by intro r hr; simp only [List.mem_cons, List.not_mem_nil, or_false] at hr; rcases hr with rfl | rfl <;> first | exact ⟨hr0, by show 1 ≤ 100; omega⟩ | exact ⟨hr1, by show 1 ≤ 100; omega⟩⟩ (by omega)
  have Hof := Lib.hid hof
  clear hof hlit hsz hr0 hr1
  replace a0 := blk_old a0 hbs (blk_lt a0)
  replace hb := bnx hb hbs
  clear hbs
  go_wp2_with fail
  go_fit Hof.out
  unfold RetFm
  rintro e v ⟨A, n, c, rfl, hr, hbx⟩
  replace a0 := blk_old a0 hbx (blk_lt a0)
  replace hb := bnx hb hbx
  clear hbx Hof
  have hb' := below_setRow hb (Nat.le_refl _) (#[.string ⟨#[83, 89, 83, 84, 69, 77, 95, 84, 73, 77, 69]⟩, .slice A n c] : Array Value)
  have b0 := setRow_heap _ _ _ (#[.string ⟨#[83, 89, 83, 84, 69, 77, 95, 84, 73, 77, 69]⟩, .slice A n c] : Array Value) _ _ a0
  have hrq : RdP (v.setRow w.heap.size #[.string ⟨#[83, 89, 83, 84, 69, 77, 95, 84, 73, 77, 69]⟩, .slice A n c]) (v.setRow w.heap.size #[.string ⟨#[83, 89, 83, 84, 69, 77, 95, 84, 73, 77, 69]⟩, .slice A n c]).heap.size A n c fm2.2 := rdP_set hr a0 (#[.string ⟨#[83, 89, 83, 84, 69, 77, 95, 84, 73, 77, 69]⟩, .slice A n c] : Array Value)
  go_wp2_with (first | (with_reducible refine stop_storeT 57 ?_))
  refine go_ (wpList_store_row rfl _ _ _ rfl w.heap.size #[.string ⟨#[83, 89, 83, 84, 69, 77, 95, 84, 73, 77, 69]⟩, .slice A n c] rfl rfl _ _ a0 (by kernel_rfl) rfl (by kernel_rfl) ?_)
  generalize (v.setRow w.heap.size #[.string ⟨#[83, 89, 83, 84, 69, 77, 95, 84, 73, 77, 69]⟩, .slice A n c]) = w9 at *
  have e0 := blk_cell (i := 0) (v := .string ⟨#[83, 89, 83, 84, 69, 77, 95, 84, 73, 77, 69]⟩) b0 rfl
  have e1 := blk_cell (i := 1) (v := .slice A n c) b0 rfl
  clear hr a0 b0 hb
  go_wp2
  exact bodyPost_ret (v := .agg #[.string ⟨#[83, 89, 83, 84, 69, 77, 95, 84, 73, 77, 69]⟩, .slice A n c]) (by simp [results, go_sem, e0, e1]) rfl ⟨A, n, c, rfl, hrq, hb'⟩
set_option maxRecDepth 20000 in
set_option maxHeartbeats 4000000 in
theorem state_4 (w : World) : Calls Tryz.prog 49 #[.int .i64 4] w (RetFm fm4 w) := by
  have a0 := heap_alloc_new w (.cells #[.string ⟨#[]⟩, .slice none 0 0] 57)
  have hb : Below w.heap.size w (w.alloc (.cells #[.string ⟨#[]⟩, .slice none 0 0] 57)) := (Below.refl _ _).alloc (Nat.le_refl _) _
  have hz : (w.alloc (.cells #[.string ⟨#[]⟩, .slice none 0 0] 57)).heap.size = w.heap.size + 1 := World.size_alloc _ _
  have Hz := Lib.hid hz
  clear hz
  go_enter Tryz.func49, Tryz.ntmps49
  have hS := strs_lit (w.alloc (.cells #[.string ⟨#[]⟩, .slice none 0 0] 57)) [⟨#[116, 105, 109, 101, 95, 117, 115, 101, 99]⟩] #[.string ⟨#[116, 105, 109, 101, 95, 117, 115, 101, 99]⟩] rfl 1 rfl (by omega)
  have hbs := (Below.refl (w.alloc (.cells #[.string ⟨#[]⟩, .slice none 0 0] 57)).heap.size (w.alloc (.cells #[.string ⟨#[]⟩, .slice none 0 0] 57))).alloc (Nat.le_refl _) (.cells #[.string ⟨#[116, 105, 109, 101, 95, 117, 115, 101, 99]⟩] 9)
  rw [Hz.out] at hS
  have HS := Lib.hid hS
  clear hS
  go_wp2_with fail
  go_fit (u64_any (some ⟨w.heap.size + 1, 0, none⟩) 1 1 [⟨#[116, 105, 109, 101, 95, 117, 115, 101, 99]⟩] _ HS.out (by omega))
  unfold RetP
  rintro e u0 ⟨A0, n0, c0, rfl, hl, own, hbx⟩
  obtain rfl : n0 = 1 := hl
  have hbq := bnx hbs hbx
  replace a0 := blk_old a0 hbq (blk_lt a0)
  replace hb := bnx hb hbq
  have hr0 : RdP u0 u0.heap.size A0 1 c0 (mkP 8 false [⟨#[116, 105, 109, 101, 95, 117, 115, 101, 99]⟩]) := RdP.own own rfl
  clear own hbx hbq HS hbs
  have hS := strs_lit u0 [⟨#[115, 101, 113]⟩] #[.string ⟨#[115, 101, 113]⟩] rfl 1 rfl (by omega)
  have hbs := (Below.refl u0.heap.size u0).alloc (Nat.le_refl _) (.cells #[.string ⟨#[115, 101, 113]⟩] 9)
  have HS := Lib.hid hS
  clear hS
  go_wp2_with fail
  go_fit (u32_any (some ⟨u0.heap.size, 0, none⟩) 1 1 [⟨#[115, 101, 113]⟩] _ HS.out (by omega))
  unfold RetP
  rintro e u1 ⟨A1, n1, c1, rfl, hl, own, hbx⟩
  obtain rfl : n1 = 1 := hl
  have hbq := bnx hbs hbx
  replace a0 := blk_old a0 hbq (blk_lt a0)
  replace hb := bnx hb hbq
  replace hr0 : RdP _ _ A0 1 c0 _ := RdR.nx hr0 hbq
  have hr1 : RdP u1 u1.heap.size A1 1 c1 (mkP 4 false [⟨#[115, 101, 113]⟩]) := RdP.own own rfl
  clear own hbx hbq HS hbs
  have hS := strs_lit u1 [⟨#[116, 97, 114, 103, 101, 116, 95, 115, 121, 115, 116, 101, 109]⟩, ⟨#[116, 97, 114, 103, 101, 116, 95, 99, 111, 109, 112, 111, 110, 101, 110, 116]⟩] #[.string ⟨#[116, 97, 114, 103, 101, 116, 95, 115, 121, 115, 116, 101, 109]⟩, .string ⟨#[116, 97, 114, 103, 101, 116, 95, 99, 111, 109, 112, 111, 110, 101, 110, 116]⟩] rfl 2 rfl (by omega)
  have hbs := (Below.refl u1.heap.size u1).alloc (Nat.le_refl _) (.cells #[.string ⟨#[116, 97, 114, 103, 101, 116, 95, 115, 121, 115, 116, 101, 109]⟩, .string ⟨#[116, 97, 114, 103, 101, 116, 95, 99, 111, 109, 112, 111, 110, 101, 110, 116]⟩] 9)
  have HS := Lib.hid hS
  clear hS
  go_wp2_with fail
  go_fit (u8_any (some ⟨u1.heap.size, 0, none⟩) 2 2 [⟨#[116, 97, 114, 103, 101, 116, 95, 115, 121, 115, 116, 101, 109]⟩, ⟨#[116, 97, 114, 103, 101, 116, 95, 99, 111, 109, 112, 111, 110, 101, 110, 116]⟩] _ HS.out (by omega))
  unfold RetP
  rintro e u2 ⟨A2, n2, c2, rfl, hl, own, hbx⟩
  obtain rfl : n2 = 2 := hl
  have hbq := bnx hbs hbx
  replace a0 := blk_old a0 hbq (blk_lt a0)
  replace hb := bnx hb hbq
  replace hr0 : RdP _ _ A0 1 c0 _ := RdR.nx hr0 hbq
  replace hr1 : RdP _ _ A1 1 c1 _ := RdR.nx hr1 hbq
  have hr2 : RdP u2 u2.heap.size A2 2 c2 (mkP 1 false [⟨#[116, 97, 114, 103, 101, 116, 95, 115, 121, 115, 116, 101, 109]⟩, ⟨#[116, 97, 114, 103, 101, 116, 95, 99, 111, 109, 112, 111, 110, 101, 110, 116]⟩]) := RdP.own own rfl
  clear own hbx hbq HS hbs
  have hbs := (Below.refl u2.heap.size u2).alloc (Nat.le_refl _) (.cells #[.slice A0 1 c0, .slice A1 1 c1, .slice A2 2 c2] 55)
  replace hr0 : RdP _ _ A0 1 c0 _ := RdR.nx hr0 hbs
  replace hr1 : RdP _ _ A1 1 c1 _ := RdR.nx hr1 hbs
  replace hr2 : RdP _ _ A2 2 c2 _ := RdR.nx hr2 hbs
  have hsz : (u2.alloc (.cells #[.slice A0 1 c0, .slice A1 1 c1, .slice A2 2 c2] 55)).heap.size = u2.heap.size + 1 := World.size_alloc _ _
  have hlit := RdR.lit (size := 1) (e := 55) u2 [[.slice A0 1 c0], [.slice A1 1 c1], [.slice A2 2 c2]] #[.slice A0 1 c0, .slice A1 1 c1, .slice A2 2 c2] rfl (by intro r hr; simp only [List.mem_cons, List.not_mem_nil, or_false] at hr; rcases hr with rfl | rfl | rfl <;> rfl) (by simp [maxLen]) 3 rfl
  rw [← hsz] at hlit
  have hof := of_any ⟨#[80, 73, 78, 71]⟩ (some ⟨u2.heap.size, 0, none⟩) 3 3 [⟨A0, 1, c0, (mkP 8 false [⟨#[116, 105, 109, 101, 95, 117, 115, 101, 99]⟩])⟩, ⟨A1, 1, c1, (mkP 4 false [⟨#[115, 101, 113]⟩])⟩, ⟨A2, 2, c2, (mkP 1 false [⟨#[116, 97, 114, 103, 101, 116, 95, 115, 121, 115, 116, 101, 109]⟩, ⟨#[116, 97, 114, 103, 101, 116, 95, 99, 111, 109, 112, 111, 110, 101, 110, 116]⟩])⟩] (u2.alloc (.cells #[.slice A0 1 c0, .slice A1 1 c1, .slice A2 2 c2] 55)) ⟨hlit, by intro r hr; simp only [List.mem_cons, List.not_mem_nil, or_false] at hr; rcases hr with rfl | rfl | rfl <;> first | exact ⟨hr0, by show 1 ≤ 100; omega⟩ | exact ⟨hr1, by show 1 ≤ 100; omega⟩ | exact ⟨hr2, by show 2 ≤ 100; omega⟩⟩ (by omega)
  have Hof := Lib.hid hof
  clear hof hlit hsz hr0 hr1 hr2
  replace a0 := blk_old a0 hbs (blk_lt a0)
  replace hb := bnx hb hbs
  clear hbs
  go_wp2_with fail
  go_fit Hof.out
  unfold RetFm
  rintro e v ⟨A, n, c, rfl, hr, hbx⟩
  replace a0 := blk_old a0 hbx (blk_lt a0)
  replace hb := bnx hb hbx
  clear hbx Hof
  have hb' := below_setRow hb (Nat.le_refl _) (#[.string ⟨#[80, 73, 78, 71]⟩, .slice A n c] : Array Value)
  have b0 := setRow_heap _ _ _ (#[.string ⟨#[80, 73, 78, 71]⟩, .slice A n c] : Array Value) _ _ a0
  have hrq : RdP (v.setRow w.heap.size #[.string ⟨#[80, 73, 78, 71]⟩, .slice A n c]) (v.setRow w.heap.size #[.string ⟨#[80, 73, 78, 71]⟩, .slice A n c]).heap.size A n c fm4.2 := rdP_set hr a0 (#[.string ⟨#[80, 73, 78, 71]⟩, .slice A n c] : Array Value)
  go_wp2_with (first | (with_reducible refine stop_storeT 57 ?_))
  refine go_ (wpList_store_row rfl _ _ _ rfl w.heap.size #[.string ⟨#[80, 73, 78, 71]⟩, .slice A n c] rfl rfl _ _ a0 (by kernel_rfl) rfl (by kernel_rfl) ?_)
  generalize (v.setRow w.heap.size #[.string ⟨#[80, 73, 78, 71]⟩, .slice A n c]) = w9 at *
  have e0 := blk_cell (i := 0) (v := .string ⟨#[80, 73, 78, 71]⟩) b0 rfl
  have e1 := blk_cell (i := 1) (v := .slice A n c) b0 rfl
  clear hr a0 b0 hb
  go_wp2
  exact bodyPost_ret (v := .agg #[.string ⟨#[80, 73, 78, 71]⟩, .slice A n c]) (by simp [results, go_sem, e0, e1]) rfl ⟨A, n, c, rfl, hrq, hb'⟩
set_option maxRecDepth 20000 in
set_option maxHeartbeats 4000000 in
theorem state_111 (w : World) : Calls Tryz.prog 49 #[.int .i64 111] w (RetFm fm111 w) := by
  have a0 := heap_alloc_new w (.cells #[.string ⟨#[]⟩, .slice none 0 0] 57)
  have hb : Below w.heap.size w (w.alloc (.cells #[.string ⟨#[]⟩, .slice none 0 0] 57)) := (Below.refl _ _).alloc (Nat.le_refl _) _
  have hz : (w.alloc (.cells #[.string ⟨#[]⟩, .slice none 0 0] 57)).heap.size = w.heap.size + 1 := World.size_alloc _ _
  have Hz := Lib.hid hz
  clear hz
  go_enter Tryz.func49, Tryz.ntmps49
  have hS := strs_lit (w.alloc (.cells #[.string ⟨#[]⟩, .slice none 0 0] 57)) [⟨#[116, 99, 49]⟩, ⟨#[116, 115, 49]⟩] #[.string ⟨#[116, 99, 49]⟩, .string ⟨#[116, 115, 49]⟩] rfl 2 rfl (by omega)
  have hbs := (Below.refl (w.alloc (.cells #[.string ⟨#[]⟩, .slice none 0 0] 57)).heap.size (w.alloc (.cells #[.string ⟨#[]⟩, .slice none 0 0] 57))).alloc (Nat.le_refl _) (.cells #[.string ⟨#[116, 99, 49]⟩, .string ⟨#[116, 115, 49]⟩] 9)
  rw [Hz.out] at hS
  have HS := Lib.hid hS
  clear hS
  go_wp2_with fail
  go_fit (i64_any (some ⟨w.heap.size + 1, 0, none⟩) 2 2 [⟨#[116, 99, 49]⟩, ⟨#[116, 115, 49]⟩] _ HS.out (by omega))
  unfold RetP
  rintro e u0 ⟨A0, n0, c0, rfl, hl, own, hbx⟩
  obtain rfl : n0 = 2 := hl
  have hbq := bnx hbs hbx
  replace a0 := blk_old a0 hbq (blk_lt a0)
  replace hb := bnx hb hbq
  have hr0 : RdP u0 u0.heap.size A0 2 c0 (mkP 8 true [⟨#[116, 99, 49]⟩, ⟨#[116, 115, 49]⟩]) := RdP.own own rfl
  clear own hbx hbq HS hbs
  have hbs := (Below.refl u0.heap.size u0).alloc (Nat.le_refl _) (.cells #[.slice A0 2 c0] 55)
  replace hr0 : RdP _ _ A0 2 c0 _ := RdR.nx hr0 hbs
  have hsz : (u0.alloc (.cells #[.slice A0 2 c0] 55)).heap.size = u0.heap.size + 1 := World.size_alloc _ _
  have hlit := RdR.lit (size := 1) (e := 55) u0 [[.slice A0 2 c0]] #[.slice A0 2 c0] rfl (by intro r hr; simp only [List.mem_cons, List.not_mem_nil, or_false] at hr; rcases hr with rfl <;> rfl) (by simp [maxLen]) 1 rfl
  rw [← hsz] at hlit
  have hof := of_any ⟨#[84, 73, 77, 69, 83, 89, 78, 67]⟩ (some ⟨u0.heap.size, 0, none⟩) 1 1 [⟨A0, 2, c0, (mkP 8 true [⟨#[116, 99, 49]⟩, ⟨#[116, 115, 49]⟩])⟩] (u0.alloc (.cells #[.slice A0 2 c0] 55)) ⟨hlit, by intro r hr; simp only [List.mem_cons, List.not_mem_nil, or_false] at hr; rcases hr with rfl <;> first | exact ⟨hr0, by show 2 ≤ 100; omega⟩⟩ (by omega)
  have Hof := Lib.hid hof
  clear hof hlit hsz hr0
  replace a0 := blk_old a0 hbs (blk_lt a0)
  replace hb := bnx hb hbs
  clear hbs
  go_wp2_with fail
  go_fit Hof.out
  unfold RetFm
  rintro e v ⟨A, n, c, rfl, hr, hbx⟩
  replace a0 := blk_old a0 hbx (blk_lt a0)
  replace hb := bnx hb hbx
  clear hbx Hof
  have hb' := below_setRow hb (Nat.le_refl _) (#[.string ⟨#[84, 73, 77, 69, 83, 89, 78, 67]⟩, .slice A n c] : Array Value)
  have b0 := setRow_heap _ _ _ (#[.string ⟨#[84, 73, 77, 69, 83, 89, 78, 67]⟩, .slice A n c] : Array Value) _ _ a0
  have hrq : RdP (v.setRow w.heap.size #[.string ⟨#[84, 73, 77, 69, 83, 89, 78, 67]⟩, .slice A n c]) (v.setRow w.heap.size #[.string ⟨#[84, 73, 77, 69, 83, 89, 78, 67]⟩, .slice A n c]).heap.size A n c fm111.2 := rdP_set hr a0 (#[.string ⟨#[84, 73, 77, 69, 83, 89, 78, 67]⟩, .slice A n c] : Array Value)
  go_wp2_with (first | (with_reducible refine stop_storeT 57 ?_))
  refine go_ (wpList_store_row rfl _ _ _ rfl w.heap.size #[.string ⟨#[84, 73, 77, 69, 83, 89, 78, 67]⟩, .slice A n c] rfl rfl _ _ a0 (by kernel_rfl) rfl (by kernel_rfl) ?_)
  generalize (v.setRow w.heap.size #[.string ⟨#[84, 73, 77, 69, 83, 89, 78, 67]⟩, .slice A n c]) = w9 at *
  have e0 := blk_cell (i := 0) (v := .string ⟨#[84, 73, 77, 69, 83, 89, 78, 67]⟩) b0 rfl
  have e1 := blk_cell (i := 1) (v := .slice A n c) b0 rfl
  clear hr a0 b0 hb
  go_wp2
  exact bodyPost_ret (v := .agg #[.string ⟨#[84, 73, 77, 69, 83, 89, 78, 67]⟩, .slice A n c]) (by simp [results, go_sem, e0, e1]) rfl ⟨A, n, c, rfl, hrq, hb'⟩
set_option maxRecDepth 20000 in
set_option maxHeartbeats 4000000 in
theorem state_125 (w : World) : Calls Tryz.prog 49 #[.int .i64 125] w (RetFm fm125 w) := by
  have a0 := heap_alloc_new w (.cells #[.string ⟨#[]⟩, .slice none 0 0] 57)
  have hb : Below w.heap.size w (w.alloc (.cells #[.string ⟨#[]⟩, .slice none 0 0] 57)) := (Below.refl _ _).alloc (Nat.le_refl _) _
  have hz : (w.alloc (.cells #[.string ⟨#[]⟩, .slice none 0 0] 57)).heap.size = w.heap.size + 1 := World.size_alloc _ _
  have Hz := Lib.hid hz
  clear hz
  go_enter Tryz.func49, Tryz.ntmps49
  have hS := strs_lit (w.alloc (.cells #[.string ⟨#[]⟩, .slice none 0 0] 57)) [⟨#[86, 99, 99]⟩, ⟨#[86, 115, 101, 114, 118, 111]⟩, ⟨#[102, 108, 97, 103, 115]⟩] #[.string ⟨#[86, 99, 99]⟩, .string ⟨#[86, 115, 101, 114, 118, 111]⟩, .string ⟨#[102, 108, 97, 103, 115]⟩] rfl 3 rfl (by omega)
  have hbs := (Below.refl (w.alloc (.cells #[.string ⟨#[]⟩, .slice none 0 0] 57)).heap.size (w.alloc (.cells #[.string ⟨#[]⟩, .slice none 0 0] 57))).alloc (Nat.le_refl _) (.cells #[.string ⟨#[86, 99, 99]⟩, .string ⟨#[86, 115, 101, 114, 118, 111]⟩, .string ⟨#[102, 108, 97, 103, 115]⟩] 9)
  rw [Hz.out] at hS
  have HS := Lib.hid hS
  clear hS
  go_wp2_with fail
  go_fit (u16_any (some ⟨w.heap.size + 1, 0, none⟩) 3 3 [⟨#[86, 99, 99]⟩, ⟨#[86, 115, 101, 114, 118, 111]⟩, ⟨#[102, 108, 97, 103, 115]⟩] _ HS.out (by omega))
  unfold RetP
  rintro e u0 ⟨A0, n0, c0, rfl, hl, own, hbx⟩
  obtain rfl : n0 = 3 := hl
  have hbq := bnx hbs hbx
  replace a0 := blk_old a0 hbq (blk_lt a0)
  replace hb := bnx hb hbq
  have hr0 : RdP u0 u0.heap.size A0 3 c0 (mkP 2 false [⟨#[86, 99, 99]⟩, ⟨#[86, 115, 101, 114, 118, 111]⟩, ⟨#[102, 108, 97, 103, 115]⟩]) := RdP.own own rfl
  clear own hbx hbq HS hbs
  have hbs := (Below.refl u0.heap.size u0).alloc (Nat.le_refl _) (.cells #[.slice A0 3 c0] 55)
  replace hr0 : RdP _ _ A0 3 c0 _ := RdR.nx hr0 hbs
  have hsz : (u0.alloc (.cells #[.slice A0 3 c0] 55)).heap.size = u0.heap.size + 1 := World.size_alloc _ _
  have hlit := RdR.lit (size := 1) (e := 55) u0 [[.slice A0 3 c0]] #[.slice A0 3 c0] rfl (by intro r hr; simp only [List.mem_cons, List.not_mem_nil, or_false] at hr; rcases hr with rfl <;> rfl) (by simp [maxLen]) 1 rfl
  rw [← hsz] at hlit
  have hof := of_any ⟨#[80, 79, 87, 69, 82, 95, 83, 84, 65, 84, 85, 83]⟩ (some ⟨u0.heap.size, 0, none⟩) 1 1 [⟨A0, 3, c0, (mkP 2 false [⟨#[86, 99, 99]⟩, ⟨#[86, 115, 101, 114, 118, 111]⟩, ⟨#[102, 108, 97, 103, 115]⟩])⟩] (u0.alloc (.cells #[.slice A0 3 c0] 55)) ⟨hlit, by intro r hr; simp only [List.mem_cons, List.not_mem_nil, or_false] at hr; rcases hr with rfl <;> first | exact ⟨hr0, by show 3 ≤ 100; omega⟩⟩ (by omega)
  have Hof := Lib.hid hof
  clear hof hlit hsz hr0
  replace a0 := blk_old a0 hbs (blk_lt a0)
  replace hb := bnx hb hbs
  clear hbs
  go_wp2_with fail
  go_fit Hof.out
  unfold RetFm
  rintro e v ⟨A, n, c, rfl, hr, hbx⟩
  replace a0 := blk_old a0 hbx (blk_lt a0)
  replace hb := bnx hb hbx
  clear hbx Hof
  have hb' := below_setRow hb (Nat.le_refl _) (#[.string ⟨#[80, 79, 87, 69, 82, 95, 83, 84, 65, 84, 85, 83]⟩, .slice A n c] : Array Value)
  have b0 := setRow_heap _ _ _ (#[.string ⟨#[80, 79, 87, 69, 82, 95, 83, 84, 65, 84, 85, 83]⟩, .slice A n c] : Array Value) _ _ a0
  have hrq : RdP (v.setRow w.heap.size #[.string ⟨#[80, 79, 87, 69, 82, 95, 83, 84, 65, 84, 85, 83]⟩, .slice A n c]) (v.setRow w.heap.size #[.string ⟨#[80, 79, 87, 69, 82, 95, 83, 84, 65, 84, 85, 83]⟩, .slice A n c]).heap.size A n c fm125.2 := rdP_set hr a0 (#[.string ⟨#[80, 79, 87, 69, 82, 95, 83, 84, 65, 84, 85, 83]⟩, .slice A n c] : Array Value)
  go_wp2_with (first | (with_reducible refine stop_storeT 57 ?_))
  refine go_ (wpList_store_row rfl _ _ _ rfl w.heap.size #[.string ⟨#[80, 79, 87, 69, 82, 95, 83, 84, 65, 84, 85, 83]⟩, .slice A n c] rfl rfl _ _ a0 (by kernel_rfl) rfl (by kernel_rfl) ?_)
  generalize (v.setRow w.heap.size #[.string ⟨#[80, 79, 87, 69, 82, 95, 83, 84, 65, 84, 85, 83]⟩, .slice A n c]) = w9 at *
  have e0 := blk_cell (i := 0) (v := .string ⟨#[80, 79, 87, 69, 82, 95, 83, 84, 65, 84, 85, 83]⟩) b0 rfl
  have e1 := blk_cell (i := 1) (v := .slice A n c) b0 rfl
  clear hr a0 b0 hb
  go_wp2
  exact bodyPost_ret (v := .agg #[.string ⟨#[80, 79, 87, 69, 82, 95, 83, 84, 65, 84, 85, 83]⟩, .slice A n c]) (by simp [results, go_sem, e0, e1]) rfl ⟨A, n, c, rfl, hrq, hb'⟩
set_option maxRecDepth 20000 in
set_option maxHeartbeats 4000000 in
theorem state_no (id : Int) (h0 : ¬ id = 0) (h1 : ¬ id = 1) (h2 : ¬ id = 2) (h4 : ¬ id = 4) (h111 : ¬ id = 111) (h125 : ¬ id = 125) (w : World) : Calls Tryz.prog 49 #[.int .i64 id] w (RetFm fmNone w) := by
  have q0 : (id == 0) = false := by rw [beq_eq_false_iff_ne]; exact h0
  have q1 : (id == 1) = false := by rw [beq_eq_false_iff_ne]; exact h1
  have q2 : (id == 2) = false := by rw [beq_eq_false_iff_ne]; exact h2
  have q4 : (id == 4) = false := by rw [beq_eq_false_iff_ne]; exact h4
  have q111 : (id == 111) = false := by rw [beq_eq_false_iff_ne]; exact h111
  have q125 : (id == 125) = false := by rw [beq_eq_false_iff_ne]; exact h125
  have a0 := heap_alloc_new w (.cells #[.string ⟨#[]⟩, .slice none 0 0] 57)
  have hb : Below w.heap.size w (w.alloc (.cells #[.string ⟨#[]⟩, .slice none 0 0] 57)) := (Below.refl _ _).alloc (Nat.le_refl _) _
  have hb' := below_setRow hb (Nat.le_refl _) (#[.string ⟨#[]⟩, .slice none 0 0] : Array Value)
  have b0 := setRow_heap _ _ _ (#[.string ⟨#[]⟩, .slice none 0 0] : Array Value) _ _ a0
  go_enter Tryz.func49, Tryz.ntmps49
  go_wp2_with (first | (with_reducible refine stop_buildF 57 ?_))
  refine go_ ?_
  generalize (w.alloc (.cells #[.string ⟨#[]⟩, .slice none 0 0] 57)) = v at *
  go_wp2_with (first | (with_reducible refine stop_storeT 57 ?_))
  refine go_ (wpList_store_row rfl _ _ _ rfl w.heap.size #[.string ⟨#[]⟩, .slice none 0 0] rfl rfl _ _ a0 (by kernel_rfl) rfl (by kernel_rfl) ?_)
  generalize (v.setRow w.heap.size #[.string ⟨#[]⟩, .slice none 0 0]) = w9 at *
  have e0 := blk_cell (i := 0) (v := .string ⟨#[]⟩) b0 rfl
  have e1 := blk_cell (i := 1) (v := .slice none 0 0) b0 rfl
  clear a0 b0 hb
  go_wp2
  exact bodyPost_ret (v := .agg #[.string ⟨#[]⟩, .slice none 0 0]) (by simp [results, go_sem, e0, e1]) rfl ⟨none, 0, 0, rfl, RdR.none_ _ _ _, hb'⟩
theorem state_any (id : Int) (w : World) : Calls Tryz.prog 49 #[.int .i64 id] w (RetFm (frmS id) w) := by
  unfold frmS
  by_cases h0 : id = 0
  · subst h0
    rw [if_pos rfl]
    exact state_0 w
  rw [if_neg h0]
  by_cases h1 : id = 1
  · subst h1
    rw [if_pos rfl]
    exact state_1 w
  rw [if_neg h1]
  by_cases h2 : id = 2
  · subst h2
    rw [if_pos rfl]
    exact state_2 w
  rw [if_neg h2]
  by_cases h4 : id = 4
  · subst h4
    rw [if_pos rfl]
    exact state_4 w
  rw [if_neg h4]
  by_cases h111 : id = 111
  · subst h111
    rw [if_pos rfl]
    exact state_111 w
  rw [if_neg h111]
  by_cases h125 : id = 125
  · subst h125
    rw [if_pos rfl]
    exact state_125 w
  rw [if_neg h125]
  exact state_no id h0 h1 h2 h4 h111 h125 w

end Go.Proofs.YtonejdjhdjckjaaGreat
