/-
  the forms of asked walked (printed by gen_sch3.py).
-/
import Derived.Test.YtonejdjhdjckjaaGreatSch2
set_option linter.unusedSimpArgs false
set_option linter.unusedVariables false
namespace Go.Proofs.YtonejdjhdjckjaaGreat
open Go.RowKit NumLaw
attribute [local go_sem] Addr.add_mid

set_option maxRecDepth 20000 in
set_option maxHeartbeats 4000000 in
theorem asked_35 (w : World) : Calls Tryz.prog 51 #[.int .i64 35] w (RetFm fm35 w) := by
  have a0 := heap_alloc_new w (.cells #[.string ⟨#[]⟩, .slice none 0 0] 57)
  have hb : Below w.heap.size w (w.alloc (.cells #[.string ⟨#[]⟩, .slice none 0 0] 57)) := (Below.refl _ _).alloc (Nat.le_refl _) _
  have hz : (w.alloc (.cells #[.string ⟨#[]⟩, .slice none 0 0] 57)).heap.size = w.heap.size + 1 := World.size_alloc _ _
  have Hz := Lib.hid hz
  clear hz
  go_enter Tryz.func51, Tryz.ntmps51
  have hS := strs_lit (w.alloc (.cells #[.string ⟨#[]⟩, .slice none 0 0] 57)) [⟨#[116, 105, 109, 101, 95, 98, 111, 111, 116, 95, 109, 115]⟩] #[.string ⟨#[116, 105, 109, 101, 95, 98, 111, 111, 116, 95, 109, 115]⟩] rfl 1 rfl (by omega)
  have hbs := (Below.refl (w.alloc (.cells #[.string ⟨#[]⟩, .slice none 0 0] 57)).heap.size (w.alloc (.cells #[.string ⟨#[]⟩, .slice none 0 0] 57))).alloc (Nat.le_refl _) (.cells #[.string ⟨#[116, 105, 109, 101, 95, 98, 111, 111, 116, 95, 109, 115]⟩] 9)
  rw [Hz.out] at hS
  have HS := Lib.hid hS
  clear hS
  go_wp2_with fail
  go_fit (u32_any (some ⟨w.heap.size + 1, 0, none⟩) 1 1 [⟨#[116, 105, 109, 101, 95, 98, 111, 111, 116, 95, 109, 115]⟩] _ HS.out (by omega))
  unfold RetP
  rintro e u0 ⟨A0, n0, c0, rfl, hl, own, hbx⟩
  obtain rfl : n0 = 1 := hl
  have hbq := bnx hbs hbx
  replace a0 := blk_old a0 hbq (blk_lt a0)
  replace hb := bnx hb hbq
  have hr0 : RdP u0 u0.heap.size A0 1 c0 (mkP 4 false [⟨#[116, 105, 109, 101, 95, 98, 111, 111, 116, 95, 109, 115]⟩]) := RdP.own own rfl
  clear own hbx hbq HS hbs
  have hS := strs_lit u0 [⟨#[112, 111, 114, 116]⟩] #[.string ⟨#[112, 111, 114, 116]⟩] rfl 1 rfl (by omega)
  have hbs := (Below.refl u0.heap.size u0).alloc (Nat.le_refl _) (.cells #[.string ⟨#[112, 111, 114, 116]⟩] 9)
  have HS := Lib.hid hS
  clear hS
  go_wp2_with fail
  go_fit (u8_any (some ⟨u0.heap.size, 0, none⟩) 1 1 [⟨#[112, 111, 114, 116]⟩] _ HS.out (by omega))
  unfold RetP
  rintro e u1 ⟨A1, n1, c1, rfl, hl, own, hbx⟩
  obtain rfl : n1 = 1 := hl
  have hbq := bnx hbs hbx
  replace a0 := blk_old a0 hbq (blk_lt a0)
  replace hb := bnx hb hbq
  replace hr0 : RdP _ _ A0 1 c0 _ := RdR.nx hr0 hbq
  have hr1 : RdP u1 u1.heap.size A1 1 c1 (mkP 1 false [⟨#[112, 111, 114, 116]⟩]) := RdP.own own rfl
  clear own hbx hbq HS hbs
  have hS := strs_lit u1 [⟨#[99, 104, 97, 110, 49, 95, 114, 97, 119]⟩, ⟨#[99, 104, 97, 110, 50, 95, 114, 97, 119]⟩, ⟨#[99, 104, 97, 110, 51, 95, 114, 97, 119]⟩, ⟨#[99, 104, 97, 110, 52, 95, 114, 97, 119]⟩, ⟨#[99, 104, 97, 110, 53, 95, 114, 97, 119]⟩, ⟨#[99, 104, 97, 110, 54, 95, 114, 97, 119]⟩, ⟨#[99, 104, 97, 110, 55, 95, 114, 97, 119]⟩, ⟨#[99, 104, 97, 110, 56, 95, 114, 97, 119]⟩] #[.string ⟨#[99, 104, 97, 110, 49, 95, 114, 97, 119]⟩, .string ⟨#[99, 104, 97, 110, 50, 95, 114, 97, 119]⟩, .string ⟨#[99, 104, 97, 110, 51, 95, 114, 97, 119]⟩, .string ⟨#[99, 104, 97, 110, 52, 95, 114, 97, 119]⟩, .string ⟨#[99, 104, 97, 110, 53, 95, 114, 97, 119]⟩, .string ⟨#[99, 104, 97, 110, 54, 95, 114, 97, 119]⟩, .string ⟨#[99, 104, 97, 110, 55, 95, 114, 97, 119]⟩, .string ⟨#[99, 104, 97, 110, 56, 95, 114, 97, 119]⟩] rfl 8 rfl (by omega)
  have hbs := (Below.refl u1.heap.size u1).alloc (Nat.le_refl _) (.cells #[.string ⟨#[99, 104, 97, 110, 49, 95, 114, 97, 119]⟩, .string ⟨#[99, 104, 97, 110, 50, 95, 114, 97, 119]⟩, .string ⟨#[99, 104, 97, 110, 51, 95, 114, 97, 119]⟩, .string ⟨#[99, 104, 97, 110, 52, 95, 114, 97, 119]⟩, .string ⟨#[99, 104, 97, 110, 53, 95, 114, 97, 119]⟩, .string ⟨#[99, 104, 97, 110, 54, 95, 114, 97, 119]⟩, .string ⟨#[99, 104, 97, 110, 55, 95, 114, 97, 119]⟩, .string ⟨#[99, 104, 97, 110, 56, 95, 114, 97, 119]⟩] 9)
  have HS := Lib.hid hS
  clear hS
  go_wp2_with fail
  go_fit (u16_any (some ⟨u1.heap.size, 0, none⟩) 8 8 [⟨#[99, 104, 97, 110, 49, 95, 114, 97, 119]⟩, ⟨#[99, 104, 97, 110, 50, 95, 114, 97, 119]⟩, ⟨#[99, 104, 97, 110, 51, 95, 114, 97, 119]⟩, ⟨#[99, 104, 97, 110, 52, 95, 114, 97, 119]⟩, ⟨#[99, 104, 97, 110, 53, 95, 114, 97, 119]⟩, ⟨#[99, 104, 97, 110, 54, 95, 114, 97, 119]⟩, ⟨#[99, 104, 97, 110, 55, 95, 114, 97, 119]⟩, ⟨#[99, 104, 97, 110, 56, 95, 114, 97, 119]⟩] _ HS.out (by omega))
  unfold RetP
  rintro e u2 ⟨A2, n2, c2, rfl, hl, own, hbx⟩
  obtain rfl : n2 = 8 := hl
  have hbq := bnx hbs hbx
  replace a0 := blk_old a0 hbq (blk_lt a0)
  replace hb := bnx hb hbq
  replace hr0 : RdP _ _ A0 1 c0 _ := RdR.nx hr0 hbq
  replace hr1 : RdP _ _ A1 1 c1 _ := RdR.nx hr1 hbq
  have hr2 : RdP u2 u2.heap.size A2 8 c2 (mkP 2 false [⟨#[99, 104, 97, 110, 49, 95, 114, 97, 119]⟩, ⟨#[99, 104, 97, 110, 50, 95, 114, 97, 119]⟩, ⟨#[99, 104, 97, 110, 51, 95, 114, 97, 119]⟩, ⟨#[99, 104, 97, 110, 52, 95, 114, 97, 119]⟩, ⟨#[99, 104, 97, 110, 53, 95, 114, 97, 119]⟩, ⟨#[99, 104, 97, 110, 54, 95, 114, 97, 119]⟩, ⟨#[99, 104, 97, 110, 55, 95, 114, 97, 119]⟩, ⟨#[99, 104, 97, 110, 56, 95, 114, 97, 119]⟩]) := RdP.own own rfl
  clear own hbx hbq HS hbs
  have hS := strs_lit u2 [⟨#[114, 115, 115, 105]⟩] #[.string ⟨#[114, 115, 115, 105]⟩] rfl 1 rfl (by omega)
  have hbs := (Below.refl u2.heap.size u2).alloc (Nat.le_refl _) (.cells #[.string ⟨#[114, 115, 115, 105]⟩] 9)
  have HS := Lib.hid hS
  clear hS
  go_wp2_with fail
  go_fit (u8_any (some ⟨u2.heap.size, 0, none⟩) 1 1 [⟨#[114, 115, 115, 105]⟩] _ HS.out (by omega))
  unfold RetP
  rintro e u3 ⟨A3, n3, c3, rfl, hl, own, hbx⟩
  obtain rfl : n3 = 1 := hl
  have hbq := bnx hbs hbx
  replace a0 := blk_old a0 hbq (blk_lt a0)
  replace hb := bnx hb hbq
  replace hr0 : RdP _ _ A0 1 c0 _ := RdR.nx hr0 hbq
  replace hr1 : RdP _ _ A1 1 c1 _ := RdR.nx hr1 hbq
  replace hr2 : RdP _ _ A2 8 c2 _ := RdR.nx hr2 hbq
  have hr3 : RdP u3 u3.heap.size A3 1 c3 (mkP 1 false [⟨#[114, 115, 115, 105]⟩]) := RdP.own own rfl
  clear own hbx hbq HS hbs
  have hbs := (Below.refl u3.heap.size u3).alloc (Nat.le_refl _) (.cells #[.slice A0 1 c0, .slice A1 1 c1, .slice A2 8 c2, .slice A3 1 c3] 55)
  replace hr0 : RdP _ _ A0 1 c0 _ := RdR.nx hr0 hbs
  replace hr1 : RdP _ _ A1 1 c1 _ := RdR.nx hr1 hbs
  replace hr2 : RdP _ _ A2 8 c2 _ := RdR.nx hr2 hbs
  replace hr3 : RdP _ _ A3 1 c3 _ := RdR.nx hr3 hbs
  have hsz : (u3.alloc (.cells #[.slice A0 1 c0, .slice A1 1 c1, .slice A2 8 c2, .slice A3 1 c3] 55)).heap.size = u3.heap.size + 1 := World.size_alloc _ _
  have hlit := RdR.lit (size := 1) (e := 55) u3 [[.slice A0 1 c0], [.slice A1 1 c1], [.slice A2 8 c2], [.slice A3 1 c3]] #[.slice A0 1 c0, .slice A1 1 c1, .slice A2 8 c2, .slice A3 1 c3] rfl (by intro r hr; simp only [List.mem_cons, List.not_mem_nil, or_false] at hr; rcases hr with rfl | rfl | rfl | rfl <;> rfl) (by simp [maxLen]) 4 rfl
  rw [← hsz] at hlit
  have hof := of_any ⟨#[82, 67, 95, 67, 72, 65, 78, 78, 69, 76, 83, 95, 82, 65, 87]⟩ (some ⟨u3.heap.size, 0, none⟩) 4 4 [⟨A0, 1, c0, (mkP 4 false [⟨#[116, 105, 109, 101, 95, 98, 111, 111, 116, 95, 109, 115]⟩])⟩, ⟨A1, 1, c1, (mkP 1 false [⟨#[112, 111, 114, 116]⟩])⟩, ⟨A2, 8, c2, (mkP 2 false [⟨#[99, 104, 97, 110, 49, 95, 114, 97, 119]⟩, ⟨#[99, 104, 97, 110, 50, 95, 114, 97, 119]⟩, ⟨#[99, 104, 97, 110, 51, 95, 114, 97, 119]⟩, ⟨#[99, 104, 97, 110, 52, 95, 114, 97, 119]⟩, ⟨#[99, 104, 97, 110, 53, 95, 114, 97, 119]⟩, ⟨#[99, 104, 97, 110, 54, 95, 114, 97, 119]⟩, ⟨#[99, 104, 97, 110, 55, 95, 114, 97, 119]⟩, ⟨#[99, 104, 97, 110, 56, 95, 114, 97, 119]⟩])⟩, ⟨A3, 1, c3, (mkP 1 false [⟨#[114, 115, 115, 105]⟩])⟩] (u3.alloc (.cells #[.slice A0 1 c0, .slice A1 1 c1, .slice A2 8 c2, .slice A3 1 c3] 55)) ⟨hlit, by intro r hr; simp only [List.mem_cons, List.not_mem_nil, or_false] at hr; rcases hr with rfl | rfl | rfl | rfl <;> first | exact ⟨hr0, by show 1 ≤ 100; omega⟩ | exact ⟨hr1, by show 1 ≤ 100; omega⟩ | exact ⟨hr2, by show 8 ≤ 100; omega⟩ | exact ⟨hr3, by show 1 ≤ 100; omega⟩⟩ (by omega)
  have Hof := Lib.hid hof
  clear hof hlit hsz hr0 hr1 hr2 hr3
  replace a0 := blk_old a0 hbs (blk_lt a0)
  replace hb := bnx hb hbs
  clear hbs
  go_wp2_with fail
  go_fit Hof.out
  unfold RetFm
  rintro e v ⟨A, n, c, rfl, hr, hbx⟩
  replace a0 := blk_old a0 hbx (blk_lt a0)
  replace hb := bnx hb hbx
  clear hbx Hof
  have hb' := below_setRow hb (Nat.le_refl _) (#[.string ⟨#[82, 67, 95, 67, 72, 65, 78, 78, 69, 76, 83, 95, 82, 65, 87]⟩, .slice A n c] : Array Value)
  have b0 := setRow_heap _ _ _ (#[.string ⟨#[82, 67, 95, 67, 72, 65, 78, 78, 69, 76, 83, 95, 82, 65, 87]⟩, .slice A n c] : Array Value) _ _ a0
  have hrq : RdP (v.setRow w.heap.size #[.string ⟨#[82, 67, 95, 67, 72, 65, 78, 78, 69, 76, 83, 95, 82, 65, 87]⟩, .slice A n c]) (v.setRow w.heap.size #[.string ⟨#[82, 67, 95, 67, 72, 65, 78, 78, 69, 76, 83, 95, 82, 65, 87]⟩, .slice A n c]).heap.size A n c fm35.2 := rdP_set hr a0 (#[.string ⟨#[82, 67, 95, 67, 72, 65, 78, 78, 69, 76, 83, 95, 82, 65, 87]⟩, .slice A n c] : Array Value)
  go_wp2_with (first | (with_reducible refine stop_storeT 57 ?_))
  refine go_ (wpList_store_row rfl _ _ _ rfl w.heap.size #[.string ⟨#[82, 67, 95, 67, 72, 65, 78, 78, 69, 76, 83, 95, 82, 65, 87]⟩, .slice A n c] rfl rfl _ _ a0 (by kernel_rfl) rfl (by kernel_rfl) ?_)
  generalize (v.setRow w.heap.size #[.string ⟨#[82, 67, 95, 67, 72, 65, 78, 78, 69, 76, 83, 95, 82, 65, 87]⟩, .slice A n c]) = w9 at *
  have e0 := blk_cell (i := 0) (v := .string ⟨#[82, 67, 95, 67, 72, 65, 78, 78, 69, 76, 83, 95, 82, 65, 87]⟩) b0 rfl
  have e1 := blk_cell (i := 1) (v := .slice A n c) b0 rfl
  clear hr a0 b0 hb
  go_wp2
  exact bodyPost_ret (v := .agg #[.string ⟨#[82, 67, 95, 67, 72, 65, 78, 78, 69, 76, 83, 95, 82, 65, 87]⟩, .slice A n c]) (by simp [results, go_sem, e0, e1]) rfl ⟨A, n, c, rfl, hrq, hb'⟩
set_option maxRecDepth 20000 in
set_option maxHeartbeats 4000000 in
theorem asked_36 (w : World) : Calls Tryz.prog 51 #[.int .i64 36] w (RetFm fm36 w) := by
  have a0 := heap_alloc_new w (.cells #[.string ⟨#[]⟩, .slice none 0 0] 57)
  have hb : Below w.heap.size w (w.alloc (.cells #[.string ⟨#[]⟩, .slice none 0 0] 57)) := (Below.refl _ _).alloc (Nat.le_refl _) _
  have hz : (w.alloc (.cells #[.string ⟨#[]⟩, .slice none 0 0] 57)).heap.size = w.heap.size + 1 := World.size_alloc _ _
  have Hz := Lib.hid hz
  clear hz
  go_enter Tryz.func51, Tryz.ntmps51
  have hS := strs_lit (w.alloc (.cells #[.string ⟨#[]⟩, .slice none 0 0] 57)) [⟨#[116, 105, 109, 101, 95, 117, 115, 101, 99]⟩] #[.string ⟨#[116, 105, 109, 101, 95, 117, 115, 101, 99]⟩] rfl 1 rfl (by omega)
  have hbs := (Below.refl (w.alloc (.cells #[.string ⟨#[]⟩, .slice none 0 0] 57)).heap.size (w.alloc (.cells #[.string ⟨#[]⟩, .slice none 0 0] 57))).alloc (Nat.le_refl _) (.cells #[.string ⟨#[116, 105, 109, 101, 95, 117, 115, 101, 99]⟩] 9)
  rw [Hz.out] at hS
  have HS := Lib.hid hS
  clear hS
  go_wp2_with fail
  go_fit (u32_any (some ⟨w.heap.size + 1, 0, none⟩) 1 1 [⟨#[116, 105, 109, 101, 95, 117, 115, 101, 99]⟩] _ HS.out (by omega))
  unfold RetP
  rintro e u0 ⟨A0, n0, c0, rfl, hl, own, hbx⟩
  obtain rfl : n0 = 1 := hl
  have hbq := bnx hbs hbx
  replace a0 := blk_old a0 hbq (blk_lt a0)
  replace hb := bnx hb hbq
  have hr0 : RdP u0 u0.heap.size A0 1 c0 (mkP 4 false [⟨#[116, 105, 109, 101, 95, 117, 115, 101, 99]⟩]) := RdP.own own rfl
  clear own hbx hbq HS hbs
  have hS := strs_lit u0 [⟨#[112, 111, 114, 116]⟩] #[.string ⟨#[112, 111, 114, 116]⟩] rfl 1 rfl (by omega)
  have hbs := (Below.refl u0.heap.size u0).alloc (Nat.le_refl _) (.cells #[.string ⟨#[112, 111, 114, 116]⟩] 9)
  have HS := Lib.hid hS
  clear hS
  go_wp2_with fail
  go_fit (u8_any (some ⟨u0.heap.size, 0, none⟩) 1 1 [⟨#[112, 111, 114, 116]⟩] _ HS.out (by omega))
  unfold RetP
  rintro e u1 ⟨A1, n1, c1, rfl, hl, own, hbx⟩
  obtain rfl : n1 = 1 := hl
  have hbq := bnx hbs hbx
  replace a0 := blk_old a0 hbq (blk_lt a0)
  replace hb := bnx hb hbq
  replace hr0 : RdP _ _ A0 1 c0 _ := RdR.nx hr0 hbq
  have hr1 : RdP u1 u1.heap.size A1 1 c1 (mkP 1 false [⟨#[112, 111, 114, 116]⟩]) := RdP.own own rfl
  clear own hbx hbq HS hbs
  have hS := strs_lit u1 [⟨#[115, 101, 114, 118, 111, 49, 95, 114, 97, 119]⟩, ⟨#[115, 101, 114, 118, 111, 50, 95, 114, 97, 119]⟩, ⟨#[115, 101, 114, 118, 111, 51, 95, 114, 97, 119]⟩, ⟨#[115, 101, 114, 118, 111, 52, 95, 114, 97, 119]⟩, ⟨#[115, 101, 114, 118, 111, 53, 95, 114, 97, 119]⟩, ⟨#[115, 101, 114, 118, 111, 54, 95, 114, 97, 119]⟩, ⟨#[115, 101, 114, 118, 111, 55, 95, 114, 97, 119]⟩, ⟨#[115, 101, 114, 118, 111, 56, 95, 114, 97, 119]⟩] #[.string ⟨#[115, 101, 114, 118, 111, 49, 95, 114, 97, 119]⟩, .string ⟨#[115, 101, 114, 118, 111, 50, 95, 114, 97, 119]⟩, .string ⟨#[115, 101, 114, 118, 111, 51, 95, 114, 97, 119]⟩, .string ⟨#[115, 101, 114, 118, 111, 52, 95, 114, 97, 119]⟩, .string ⟨#[115, 101, 114, 118, 111, 53, 95, 114, 97, 119]⟩, .string ⟨#[115, 101, 114, 118, 111, 54, 95, 114, 97, 119]⟩, .string ⟨#[115, 101, 114, 118, 111, 55, 95, 114, 97, 119]⟩, .string ⟨#[115, 101, 114, 118, 111, 56, 95, 114, 97, 119]⟩] rfl 8 rfl (by omega)
  have hbs := (Below.refl u1.heap.size u1).alloc (Nat.le_refl _) (.cells #[.string ⟨#[115, 101, 114, 118, 111, 49, 95, 114, 97, 119]⟩, .string ⟨#[115, 101, 114, 118, 111, 50, 95, 114, 97, 119]⟩, .string ⟨#[115, 101, 114, 118, 111, 51, 95, 114, 97, 119]⟩, .string ⟨#[115, 101, 114, 118, 111, 52, 95, 114, 97, 119]⟩, .string ⟨#[115, 101, 114, 118, 111, 53, 95, 114, 97, 119]⟩, .string ⟨#[115, 101, 114, 118, 111, 54, 95, 114, 97, 119]⟩, .string ⟨#[115, 101, 114, 118, 111, 55, 95, 114, 97, 119]⟩, .string ⟨#[115, 101, 114, 118, 111, 56, 95, 114, 97, 119]⟩] 9)
  have HS := Lib.hid hS
  clear hS
  go_wp2_with fail
  go_fit (u16_any (some ⟨u1.heap.size, 0, none⟩) 8 8 [⟨#[115, 101, 114, 118, 111, 49, 95, 114, 97, 119]⟩, ⟨#[115, 101, 114, 118, 111, 50, 95, 114, 97, 119]⟩, ⟨#[115, 101, 114, 118, 111, 51, 95, 114, 97, 119]⟩, ⟨#[115, 101, 114, 118, 111, 52, 95, 114, 97, 119]⟩, ⟨#[115, 101, 114, 118, 111, 53, 95, 114, 97, 119]⟩, ⟨#[115, 101, 114, 118, 111, 54, 95, 114, 97, 119]⟩, ⟨#[115, 101, 114, 118, 111, 55, 95, 114, 97, 119]⟩, ⟨#[115, 101, 114, 118, 111, 56, 95, 114, 97, 119]⟩] _ HS.out (by omega))
  unfold RetP
  rintro e u2 ⟨A2, n2, c2, rfl, hl, own, hbx⟩
  obtain rfl : n2 = 8 := hl
  have hbq := bnx hbs hbx
  replace a0 := blk_old a0 hbq (blk_lt a0)
  replace hb := bnx hb hbq
  replace hr0 : RdP _ _ A0 1 c0 _ := RdR.nx hr0 hbq
  replace hr1 : RdP _ _ A1 1 c1 _ := RdR.nx hr1 hbq
  have hr2 : RdP u2 u2.heap.size A2 8 c2 (mkP 2 false [⟨#[115, 101, 114, 118, 111, 49, 95, 114, 97, 119]⟩, ⟨#[115, 101, 114, 118, 111, 50, 95, 114, 97, 119]⟩, ⟨#[115, 101, 114, 118, 111, 51, 95, 114, 97, 119]⟩, ⟨#[115, 101, 114, 118, 111, 52, 95, 114, 97, 119]⟩, ⟨#[115, 101, 114, 118, 111, 53, 95, 114, 97, 119]⟩, ⟨#[115, 101, 114, 118, 111, 54, 95, 114, 97, 119]⟩, ⟨#[115, 101, 114, 118, 111, 55, 95, 114, 97, 119]⟩, ⟨#[115, 101, 114, 118, 111, 56, 95, 114, 97, 119]⟩]) := RdP.own own rfl
  clear own hbx hbq HS hbs
  have hbs := (Below.refl u2.heap.size u2).alloc (Nat.le_refl _) (.cells #[.slice A0 1 c0, .slice A1 1 c1, .slice A2 8 c2] 55)
  replace hr0 : RdP _ _ A0 1 c0 _ := RdR.nx hr0 hbs
  replace hr1 : RdP _ _ A1 1 c1 _ := RdR.nx hr1 hbs
  replace hr2 : RdP _ _ A2 8 c2 _ := RdR.nx hr2 hbs
  have hsz : (u2.alloc (.cells #[.slice A0 1 c0, .slice A1 1 c1, .slice A2 8 c2] 55)).heap.size = u2.heap.size + 1 := World.size_alloc _ _
  have hlit := RdR.lit (size := 1) (e := 55) u2 [[.slice A0 1 c0], [.slice A1 1 c1], [.slice A2 8 c2]] #[.slice A0 1 c0, .slice A1 1 c1, .slice A2 8 c2] rfl (by intro r hr; simp only [List.mem_cons, List.not_mem_nil, or_false] at hr; rcases hr with rfl | rfl | rfl <;> rfl) (by simp [maxLen]) 3 rfl
  rw [← hsz] at hlit
  have hof := of_any ⟨#[83, 69, 82, 86, 79, 95, 79, 85, 84, 80, 85, 84, 95, 82, 65, 87]⟩ (some ⟨u2.heap.size, 0, none⟩) 3 3 [⟨A0, 1, c0, (mkP 4 false [⟨#[116, 105, 109, 101, 95, 117, 115, 101, 99]⟩])⟩, ⟨A1, 1, c1, (mkP 1 false [⟨#[112, 111, 114, 116]⟩])⟩, ⟨A2, 8, c2, (mkP 2 false [⟨#[115, 101, 114, 118, 111, 49, 95, 114, 97, 119]⟩, ⟨#[115, 101, 114, 118, 111, 50, 95, 114, 97, 119]⟩, ⟨#[115, 101, 114, 118, 111, 51, 95, 114, 97, 119]⟩, ⟨#[115, 101, 114, 118, 111, 52, 95, 114, 97, 119]⟩, ⟨#[115, 101, 114, 118, 111, 53, 95, 114, 97, 119]⟩, ⟨#[115, 101, 114, 118, 111, 54, 95, 114, 97, 119]⟩, ⟨#[115, 101, 114, 118, 111, 55, 95, 114, 97, 119]⟩, ⟨#[115, 101, 114, 118, 111, 56, 95, 114, 97, 119]⟩])⟩] (u2.alloc (.cells #[.slice A0 1 c0, .slice A1 1 c1, .slice A2 8 c2] 55)) ⟨hlit, by intro r hr; simp only [List.mem_cons, List.not_mem_nil, or_false] at hr; rcases hr with rfl | rfl | rfl <;> first | exact ⟨hr0, by show 1 ≤ 100; omega⟩ | exact ⟨hr1, by show 1 ≤ 100; omega⟩ | exact ⟨hr2, by show 8 ≤ 100; omega⟩⟩ (by omega)
  have Hof := Lib.hid hof
  clear hof hlit hsz hr0 hr1 hr2
  replace a0 := blk_old a0 hbs (blk_lt a0)
  replace hb := bnx hb hbs
  clear hbs
  go_wp2_with fail
  go_fit Hof.out
  unfold RetFm
  rintro e v ⟨A, n, c, rfl, hr, hbx⟩
  replace a0 := blk_old a0 hbx (blk_lt a0)
  replace hb := bnx hb hbx
  clear hbx Hof
  have hb' := below_setRow hb (Nat.le_refl _) (#[.string ⟨#[83, 69, 82, 86, 79, 95, 79, 85, 84, 80, 85, 84, 95, 82, 65, 87]⟩, .slice A n c] : Array Value)
  have b0 := setRow_heap _ _ _ (#[.string ⟨#[83, 69, 82, 86, 79, 95, 79, 85, 84, 80, 85, 84, 95, 82, 65, 87]⟩, .slice A n c] : Array Value) _ _ a0
  have hrq : RdP (v.setRow w.heap.size #[.string ⟨#[83, 69, 82, 86, 79, 95, 79, 85, 84, 80, 85, 84, 95, 82, 65, 87]⟩, .slice A n c]) (v.setRow w.heap.size #[.string ⟨#[83, 69, 82, 86, 79, 95, 79, 85, 84, 80, 85, 84, 95, 82, 65, 87]⟩, .slice A n c]).heap.size A n c fm36.2 := rdP_set hr a0 (#[.string ⟨#[83, 69, 82, 86, 79, 95, 79, 85, 84, 80, 85, 84, 95, 82, 65, 87]⟩, .slice A n c] : Array Value)
  go_wp2_with (first | (with_reducible refine stop_storeT 57 ?_))
  refine go_ (wpList_store_row rfl _ _ _ rfl w.heap.size #[.string ⟨#[83, 69, 82, 86, 79, 95, 79, 85, 84, 80, 85, 84, 95, 82, 65, 87]⟩, .slice A n c] rfl rfl _ _ a0 (by kernel_rfl) rfl (by kernel_rfl) ?_)
  generalize (v.setRow w.heap.size #[.string ⟨#[83, 69, 82, 86, 79, 95, 79, 85, 84, 80, 85, 84, 95, 82, 65, 87]⟩, .slice A n c]) = w9 at *
  have e0 := blk_cell (i := 0) (v := .string ⟨#[83, 69, 82, 86, 79, 95, 79, 85, 84, 80, 85, 84, 95, 82, 65, 87]⟩) b0 rfl
  have e1 := blk_cell (i := 1) (v := .slice A n c) b0 rfl
  clear hr a0 b0 hb
  go_wp2
  exact bodyPost_ret (v := .agg #[.string ⟨#[83, 69, 82, 86, 79, 95, 79, 85, 84, 80, 85, 84, 95, 82, 65, 87]⟩, .slice A n c]) (by simp [results, go_sem, e0, e1]) rfl ⟨A, n, c, rfl, hrq, hb'⟩
set_option maxRecDepth 20000 in
set_option maxHeartbeats 4000000 in
theorem asked_42 (w : World) : Calls Tryz.prog 51 #[.int .i64 42] w (RetFm fm42 w) := by
  have a0 := heap_alloc_new w (.cells #[.string ⟨#[]⟩, .slice none 0 0] 57)
  have hb : Below w.heap.size w (w.alloc (.cells #[.string ⟨#[]⟩, .slice none 0 0] 57)) := (Below.refl _ _).alloc (Nat.le_refl _) _
  have hz : (w.alloc (.cells #[.string ⟨#[]⟩, .slice none 0 0] 57)).heap.size = w.heap.size + 1 := World.size_alloc _ _
  have Hz := Lib.hid hz
  clear hz
  go_enter Tryz.func51, Tryz.ntmps51
  have hS := strs_lit (w.alloc (.cells #[.string ⟨#[]⟩, .slice none 0 0] 57)) [⟨#[115, 101, 113]⟩] #[.string ⟨#[115, 101, 113]⟩] rfl 1 rfl (by omega)
  have hbs := (Below.refl (w.alloc (.cells #[.string ⟨#[]⟩, .slice none 0 0] 57)).heap.size (w.alloc (.cells #[.string ⟨#[]⟩, .slice none 0 0] 57))).alloc (Nat.le_refl _) (.cells #[.string ⟨#[115, 101, 113]⟩] 9)
  rw [Hz.out] at hS
  have HS := Lib.hid hS
  clear hS
  go_wp2_with fail
  go_fit (u16_any (some ⟨w.heap.size + 1, 0, none⟩) 1 1 [⟨#[115, 101, 113]⟩] _ HS.out (by omega))
  unfold RetP
  rintro e u0 ⟨A0, n0, c0, rfl, hl, own, hbx⟩
  obtain rfl : n0 = 1 := hl
  have hbq := bnx hbs hbx
  replace a0 := blk_old a0 hbq (blk_lt a0)
  replace hb := bnx hb hbq
  have hr0 : RdP u0 u0.heap.size A0 1 c0 (mkP 2 false [⟨#[115, 101, 113]⟩]) := RdP.own own rfl
  clear own hbx hbq HS hbs
  have hbs := (Below.refl u0.heap.size u0).alloc (Nat.le_refl _) (.cells #[.slice A0 1 c0] 55)
  replace hr0 : RdP _ _ A0 1 c0 _ := RdR.nx hr0 hbs
  have hsz : (u0.alloc (.cells #[.slice A0 1 c0] 55)).heap.size = u0.heap.size + 1 := World.size_alloc _ _
  have hlit := RdR.lit (size := 1) (e := 55) u0 [[.slice A0 1 c0]] #[.slice A0 1 c0] rfl (by intro r hr; simp only [List.mem_cons, List.not_mem_nil, or_false] at hr; rcases hr with rfl <;> rfl) (by simp [maxLen]) 1 rfl
  rw [← hsz] at hlit
  have hof := of_any ⟨#[77, 73, 83, 83, 73, 79, 78, 95, 67, 85, 82, 82, 69, 78, 84]⟩ (some ⟨u0.heap.size, 0, none⟩) 1 1 [⟨A0, 1, c0, (mkP 2 false [⟨#[115, 101, 113]⟩])⟩] (u0.alloc (.cells #[.slice A0 1 c0] 55)) ⟨hlit, by intro r hr; simp only [List.mem_cons, List.not_mem_nil, or_false] at hr; rcases hr with rfl <;> first | exact ⟨hr0, by show 1 ≤ 100; omega⟩⟩ (by omega)
  have Hof := Lib.hid hof
  clear hof hlit hsz hr0
  replace a0 := blk_old a0 hbs (blk_lt a0)
  replace hb := bnx hb hbs
  clear hbs
  go_wp2_with fail
  go_fit Hof.out
  unfold RetFm
  rintro e v ⟨A, n, c, rfl, hr, hbx⟩
  replace a0 := blk_old a0 hbx (blk_lt a0)
  replace hb := bnx hb hbx
  clear hbx Hof
  have hb' := below_setRow hb (Nat.le_refl _) (#[.string ⟨#[77, 73, 83, 83, 73, 79, 78, 95, 67, 85, 82, 82, 69, 78, 84]⟩, .slice A n c] : Array Value)
  have b0 := setRow_heap _ _ _ (#[.string ⟨#[77, 73, 83, 83, 73, 79, 78, 95, 67, 85, 82, 82, 69, 78, 84]⟩, .slice A n c] : Array Value) _ _ a0
  have hrq : RdP (v.setRow w.heap.size #[.string ⟨#[77, 73, 83, 83, 73, 79, 78, 95, 67, 85, 82, 82, 69, 78, 84]⟩, .slice A n c]) (v.setRow w.heap.size #[.string ⟨#[77, 73, 83, 83, 73, 79, 78, 95, 67, 85, 82, 82, 69, 78, 84]⟩, .slice A n c]).heap.size A n c fm42.2 := rdP_set hr a0 (#[.string ⟨#[77, 73, 83, 83, 73, 79, 78, 95, 67, 85, 82, 82, 69, 78, 84]⟩, .slice A n c] : Array Value)
  go_wp2_with (first | (with_reducible refine stop_storeT 57 ?_))
  refine go_ (wpList_store_row rfl _ _ _ rfl w.heap.size #[.string ⟨#[77, 73, 83, 83, 73, 79, 78, 95, 67, 85, 82, 82, 69, 78, 84]⟩, .slice A n c] rfl rfl _ _ a0 (by kernel_rfl) rfl (by kernel_rfl) ?_)
  generalize (v.setRow w.heap.size #[.string ⟨#[77, 73, 83, 83, 73, 79, 78, 95, 67, 85, 82, 82, 69, 78, 84]⟩, .slice A n c]) = w9 at *
  have e0 := blk_cell (i := 0) (v := .string ⟨#[77, 73, 83, 83, 73, 79, 78, 95, 67, 85, 82, 82, 69, 78, 84]⟩) b0 rfl
  have e1 := blk_cell (i := 1) (v := .slice A n c) b0 rfl
  clear hr a0 b0 hb
  go_wp2
  exact bodyPost_ret (v := .agg #[.string ⟨#[77, 73, 83, 83, 73, 79, 78, 95, 67, 85, 82, 82, 69, 78, 84]⟩, .slice A n c]) (by simp [results, go_sem, e0, e1]) rfl ⟨A, n, c, rfl, hrq, hb'⟩
set_option maxRecDepth 20000 in
set_option maxHeartbeats 4000000 in
theorem asked_44 (w : World) : Calls Tryz.prog 51 #[.int .i64 44] w (RetFm fm44 w) := by
  have a0 := heap_alloc_new w (.cells #[.string ⟨#[]⟩, .slice none 0 0] 57)
  have hb : Below w.heap.size w (w.alloc (.cells #[.string ⟨#[]⟩, .slice none 0 0] 57)) := (Below.refl _ _).alloc (Nat.le_refl _) _
  have hz : (w.alloc (.cells #[.string ⟨#[]⟩, .slice none 0 0] 57)).heap.size = w.heap.size + 1 := World.size_alloc _ _
  have Hz := Lib.hid hz
  clear hz
  go_enter Tryz.func51, Tryz.ntmps51
  have hS := strs_lit (w.alloc (.cells #[.string ⟨#[]⟩, .slice none 0 0] 57)) [⟨#[116, 97, 114, 103, 101, 116, 95, 115, 121, 115, 116, 101, 109]⟩, ⟨#[116, 97, 114, 103, 101, 116, 95, 99, 111, 109, 112, 111, 110, 101, 110, 116]⟩] #[.string ⟨#[116, 97, 114, 103, 101, 116, 95, 115, 121, 115, 116, 101, 109]⟩, .string ⟨#[116, 97, 114, 103, 101, 116, 95, 99, 111, 109, 112, 111, 110, 101, 110, 116]⟩] rfl 2 rfl (by omega)
  have hbs := (Below.refl (w.alloc (.cells #[.string ⟨#[]⟩, .slice none 0 0] 57)).heap.size (w.alloc (.cells #[.string ⟨#[]⟩, .slice none 0 0] 57))).alloc (Nat.le_refl _) (.cells #[.string ⟨#[116, 97, 114, 103, 101, 116, 95, 115, 121, 115, 116, 101, 109]⟩, .string ⟨#[116, 97, 114, 103, 101, 116, 95, 99, 111, 109, 112, 111, 110, 101, 110, 116]⟩] 9)
  rw [Hz.out] at hS
  have HS := Lib.hid hS
  clear hS
  go_wp2_with fail
  go_fit (u8_any (some ⟨w.heap.size + 1, 0, none⟩) 2 2 [⟨#[116, 97, 114, 103, 101, 116, 95, 115, 121, 115, 116, 101, 109]⟩, ⟨#[116, 97, 114, 103, 101, 116, 95, 99, 111, 109, 112, 111, 110, 101, 110, 116]⟩] _ HS.out (by omega))
  unfold RetP
  rintro e u0 ⟨A0, n0, c0, rfl, hl, own, hbx⟩
  obtain rfl : n0 = 2 := hl
  have hbq := bnx hbs hbx
  replace a0 := blk_old a0 hbq (blk_lt a0)
  replace hb := bnx hb hbq
  have hr0 : RdP u0 u0.heap.size A0 2 c0 (mkP 1 false [⟨#[116, 97, 114, 103, 101, 116, 95, 115, 121, 115, 116, 101, 109]⟩, ⟨#[116, 97, 114, 103, 101, 116, 95, 99, 111, 109, 112, 111, 110, 101, 110, 116]⟩]) := RdP.own own rfl
  clear own hbx hbq HS hbs
  have hS := strs_lit u0 [⟨#[99, 111, 117, 110, 116]⟩] #[.string ⟨#[99, 111, 117, 110, 116]⟩] rfl 1 rfl (by omega)
  have hbs := (Below.refl u0.heap.size u0).alloc (Nat.le_refl _) (.cells #[.string ⟨#[99, 111, 117, 110, 116]⟩] 9)
  have HS := Lib.hid hS
  clear hS
  go_wp2_with fail
  go_fit (u16_any (some ⟨u0.heap.size, 0, none⟩) 1 1 [⟨#[99, 111, 117, 110, 116]⟩] _ HS.out (by omega))
  unfold RetP
  rintro e u1 ⟨A1, n1, c1, rfl, hl, own, hbx⟩
  obtain rfl : n1 = 1 := hl
  have hbq := bnx hbs hbx
  replace a0 := blk_old a0 hbq (blk_lt a0)
  replace hb := bnx hb hbq
  replace hr0 : RdP _ _ A0 2 c0 _ := RdR.nx hr0 hbq
  have hr1 : RdP u1 u1.heap.size A1 1 c1 (mkP 2 false [⟨#[99, 111, 117, 110, 116]⟩]) := RdP.own own rfl
  clear own hbx hbq HS hbs
  have hbs := (Below.refl u1.heap.size u1).alloc (Nat.le_refl _) (.cells #[.slice A0 2 c0, .slice A1 1 c1] 55)
  replace hr0 : RdP _ _ A0 2 c0 _ := RdR.nx hr0 hbs
  replace hr1 : RdP _ _ A1 1 c1 _ := RdR.nx hr1 hbs
  have hsz : (u1.alloc (.cells #[.slice A0 2 c0, .slice A1 1 c1] 55)).heap.size = u1.heap.size + 1 := World.size_alloc _ _
  have hlit := RdR.lit (size := 1) (e := 55) u1 [[.slice A0 2 c0], [.slice A1 1 c1]] #[.slice A0 2 c0, .slice A1 1 c1] rfl (by intro r hr; simp only [List.mem_cons, List.not_mem_nil, or_false] at hr; rcases hr with rfl | rfl <;> rfl) (by simp [maxLen]) 2 rfl
  rw [← hsz] at hlit
  have hof := of_any ⟨#[77, 73, 83, 83, 73, 79, 78, 95, 67, 79, 85, 78, 84]⟩ (some ⟨u1.heap.size, 0, none⟩) 2 2 [⟨A0, 2, c0, (mkP 1 false [⟨#[116, 97, 114, 103, 101, 116, 95, 115, 121, 115, 116, 101, 109]⟩, ⟨#[116, 97, 114, 103, 101, 116, 95, 99, 111, 109, 112, 111, 110, 101, 110, 116]⟩])⟩, ⟨A1, 1, c1, (mkP 2 false [⟨#[99, 111, 117, 110, 116]⟩])⟩] (u1.alloc (.cells #[.slice A0 2 c0, .slice A1 1 c1] 55)) ⟨hlit, by intro r hr; simp only [List.mem_cons, List.not_mem_nil, or_false] at hr; rcases hr with rfl | rfl <;> first | exact ⟨hr0, by show 2 ≤ 100; omega⟩ | exact ⟨hr1, by show 1 ≤ 100; omega⟩⟩ (by omega)
  have Hof := Lib.hid hof
  clear hof hlit hsz hr0 hr1
  replace a0 := blk_old a0 hbs (blk_lt a0)
  replace hb := bnx hb hbs
  clear hbs
  go_wp2_with fail
  go_fit Hof.out
  unfold RetFm
  rintro e v ⟨A, n, c, rfl, hr, hbx⟩
  replace a0 := blk_old a0 hbx (blk_lt a0)
  replace hb := bnx hb hbx
  clear hbx Hof
  have hb' := below_setRow hb (Nat.le_refl _) (#[.string ⟨#[77, 73, 83, 83, 73, 79, 78, 95, 67, 79, 85, 78, 84]⟩, .slice A n c] : Array Value)
  have b0 := setRow_heap _ _ _ (#[.string ⟨#[77, 73, 83, 83, 73, 79, 78, 95, 67, 79, 85, 78, 84]⟩, .slice A n c] : Array Value) _ _ a0
  have hrq : RdP (v.setRow w.heap.size #[.string ⟨#[77, 73, 83, 83, 73, 79, 78, 95, 67, 79, 85, 78, 84]⟩, .slice A n c]) (v.setRow w.heap.size #[.string ⟨#[77, 73, 83, 83, 73, 79, 78, 95, 67, 79, 85, 78, 84]⟩, .slice A n c]).heap.size A n c fm44.2 := rdP_set hr a0 (#[.string ⟨#[77, 73, 83, 83, 73, 79, 78, 95, 67, 79, 85, 78, 84]⟩, .slice A n c] : Array Value)
  go_wp2_with (first | (with_reducible refine stop_storeT 57 ?_))
  refine go_ (wpList_store_row rfl _ _ _ rfl w.heap.size #[.string ⟨#[77, 73, 83, 83, 73, 79, 78, 95, 67, 79, 85, 78, 84]⟩, .slice A n c] rfl rfl _ _ a0 (by kernel_rfl) rfl (by kernel_rfl) ?_)
  generalize (v.setRow w.heap.size #[.string ⟨#[77, 73, 83, 83, 73, 79, 78, 95, 67, 79, 85, 78, 84]⟩, .slice A n c]) = w9 at *
  have e0 := blk_cell (i := 0) (v := .string ⟨#[77, 73, 83, 83, 73, 79, 78, 95, 67, 79, 85, 78, 84]⟩) b0 rfl
  have e1 := blk_cell (i := 1) (v := .slice A n c) b0 rfl
  clear hr a0 b0 hb
  go_wp2
  exact bodyPost_ret (v := .agg #[.string ⟨#[77, 73, 83, 83, 73, 79, 78, 95, 67, 79, 85, 78, 84]⟩, .slice A n c]) (by simp [results, go_sem, e0, e1]) rfl ⟨A, n, c, rfl, hrq, hb'⟩
set_option maxRecDepth 20000 in
set_option maxHeartbeats 4000000 in
theorem asked_47 (w : World) : Calls Tryz.prog 51 #[.int .i64 47] w (RetFm fm47 w) := by
  have a0 := heap_alloc_new w (.cells #[.string ⟨#[]⟩, .slice none 0 0] 57)
  have hb : Below w.heap.size w (w.alloc (.cells #[.string ⟨#[]⟩, .slice none 0 0] 57)) := (Below.refl _ _).alloc (Nat.le_refl _) _
  have hz : (w.alloc (.cells #[.string ⟨#[]⟩, .slice none 0 0] 57)).heap.size = w.heap.size + 1 := World.size_alloc _ _
  have Hz := Lib.hid hz
  clear hz
  go_enter Tryz.func51, Tryz.ntmps51
  have hS := strs_lit (w.alloc (.cells #[.string ⟨#[]⟩, .slice none 0 0] 57)) [⟨#[116, 97, 114, 103, 101, 116, 95, 115, 121, 115, 116, 101, 109]⟩, ⟨#[116, 97, 114, 103, 101, 116, 95, 99, 111, 109, 112, 111, 110, 101, 110, 116]⟩, ⟨#[116, 121, 112, 101]⟩] #[.string ⟨#[116, 97, 114, 103, 101, 116, 95, 115, 121, 115, 116, 101, 109]⟩, .string ⟨#[116, 97, 114, 103, 101, 116, 95, 99, 111, 109, 112, 111, 110, 101, 110, 116]⟩, .string ⟨#[116, 121, 112, 101]⟩] rfl 3 rfl (by omega)
  have hbs := (Below.refl (w.alloc (.cells #[.string ⟨#[]⟩, .slice none 0 0] 57)).heap.size (w.alloc (.cells #[.string ⟨#[]⟩, .slice none 0 0] 57))).alloc (Nat.le_refl _) (.cells #[.string ⟨#[116, 97, 114, 103, 101, 116, 95, 115, 121, 115, 116, 101, 109]⟩, .string ⟨#[116, 97, 114, 103, 101, 116, 95, 99, 111, 109, 112, 111, 110, 101, 110, 116]⟩, .string ⟨#[116, 121, 112, 101]⟩] 9)
  rw [Hz.out] at hS
  have HS := Lib.hid hS
  clear hS
  go_wp2_with fail
  go_fit (u8_any (some ⟨w.heap.size + 1, 0, none⟩) 3 3 [⟨#[116, 97, 114, 103, 101, 116, 95, 115, 121, 115, 116, 101, 109]⟩, ⟨#[116, 97, 114, 103, 101, 116, 95, 99, 111, 109, 112, 111, 110, 101, 110, 116]⟩, ⟨#[116, 121, 112, 101]⟩] _ HS.out (by omega))
  unfold RetP
  rintro e u0 ⟨A0, n0, c0, rfl, hl, own, hbx⟩
  obtain rfl : n0 = 3 := hl
  have hbq := bnx hbs hbx
  replace a0 := blk_old a0 hbq (blk_lt a0)
  replace hb := bnx hb hbq
  have hr0 : RdP u0 u0.heap.size A0 3 c0 (mkP 1 false [⟨#[116, 97, 114, 103, 101, 116, 95, 115, 121, 115, 116, 101, 109]⟩, ⟨#[116, 97, 114, 103, 101, 116, 95, 99, 111, 109, 112, 111, 110, 101, 110, 116]⟩, ⟨#[116, 121, 112, 101]⟩]) := RdP.own own rfl
  clear own hbx hbq HS hbs
  have hbs := (Below.refl u0.heap.size u0).alloc (Nat.le_refl _) (.cells #[.slice A0 3 c0] 55)
  replace hr0 : RdP _ _ A0 3 c0 _ := RdR.nx hr0 hbs
  have hsz : (u0.alloc (.cells #[.slice A0 3 c0] 55)).heap.size = u0.heap.size + 1 := World.size_alloc _ _
  have hlit := RdR.lit (size := 1) (e := 55) u0 [[.slice A0 3 c0]] #[.slice A0 3 c0] rfl (by intro r hr; simp only [List.mem_cons, List.not_mem_nil, or_false] at hr; rcases hr with rfl <;> rfl) (by simp [maxLen]) 1 rfl
  rw [← hsz] at hlit
  have hof := of_any ⟨#[77, 73, 83, 83, 73, 79, 78, 95, 65, 67, 75]⟩ (some ⟨u0.heap.size, 0, none⟩) 1 1 [⟨A0, 3, c0, (mkP 1 false [⟨#[116, 97, 114, 103, 101, 116, 95, 115, 121, 115, 116, 101, 109]⟩, ⟨#[116, 97, 114, 103, 101, 116, 95, 99, 111, 109, 112, 111, 110, 101, 110, 116]⟩, ⟨#[116, 121, 112, 101]⟩])⟩] (u0.alloc (.cells #[.slice A0 3 c0] 55)) ⟨hlit, by intro r hr; simp only [List.mem_cons, List.not_mem_nil, or_false] at hr; rcases hr with rfl <;> first | exact ⟨hr0, by show 3 ≤ 100; omega⟩⟩ (by omega)
  have Hof := Lib.hid hof
  clear hof hlit hsz hr0
  replace a0 := blk_old a0 hbs (blk_lt a0)
  replace hb := bnx hb hbs
  clear hbs
  go_wp2_with fail
  go_fit Hof.out
  unfold RetFm
  rintro e v ⟨A, n, c, rfl, hr, hbx⟩
  replace a0 := blk_old a0 hbx (blk_lt a0)
  replace hb := bnx hb hbx
  clear hbx Hof
  have hb' := below_setRow hb (Nat.le_refl _) (#[.string ⟨#[77, 73, 83, 83, 73, 79, 78, 95, 65, 67, 75]⟩, .slice A n c] : Array Value)
  have b0 := setRow_heap _ _ _ (#[.string ⟨#[77, 73, 83, 83, 73, 79, 78, 95, 65, 67, 75]⟩, .slice A n c] : Array Value) _ _ a0
  have hrq : RdP (v.setRow w.heap.size #[.string ⟨#[77, 73, 83, 83, 73, 79, 78, 95, 65, 67, 75]⟩, .slice A n c]) (v.setRow w.heap.size #[.string ⟨#[77, 73, 83, 83, 73, 79, 78, 95, 65, 67, 75]⟩, .slice A n c]).heap.size A n c fm47.2 := rdP_set hr a0 (#[.string ⟨#[77, 73, 83, 83, 73, 79, 78, 95, 65, 67, 75]⟩, .slice A n c] : Array Value)
  go_wp2_with (first | (with_reducible refine stop_storeT 57 ?_))
  refine go_ (wpList_store_row rfl _ _ _ rfl w.heap.size #[.string ⟨#[77, 73, 83, 83, 73, 79, 78, 95, 65, 67, 75]⟩, .slice A n c] rfl rfl _ _ a0 (by kernel_rfl) rfl (by kernel_rfl) ?_)
  generalize (v.setRow w.heap.size #[.string ⟨#[77, 73, 83, 83, 73, 79, 78, 95, 65, 67, 75]⟩, .slice A n c]) = w9 at *
  have e0 := blk_cell (i := 0) (v := .string ⟨#[77, 73, 83, 83, 73, 79, 78, 95, 65, 67, 75]⟩) b0 rfl
  have e1 := blk_cell (i := 1) (v := .slice A n c) b0 rfl
  clear hr a0 b0 hb
  go_wp2
  exact bodyPost_ret (v := .agg #[.string ⟨#[77, 73, 83, 83, 73, 79, 78, 95, 65, 67, 75]⟩, .slice A n c]) (by simp [results, go_sem, e0, e1]) rfl ⟨A, n, c, rfl, hrq, hb'⟩
set_option maxRecDepth 20000 in
set_option maxHeartbeats 4000000 in
theorem asked_66 (w : World) : Calls Tryz.prog 51 #[.int .i64 66] w (RetFm fm66 w) := by
  have a0 := heap_alloc_new w (.cells #[.string ⟨#[]⟩, .slice none 0 0] 57)
  have hb : Below w.heap.size w (w.alloc (.cells #[.string ⟨#[]⟩, .slice none 0 0] 57)) := (Below.refl _ _).alloc (Nat.le_refl _) _
  have hz : (w.alloc (.cells #[.string ⟨#[]⟩, .slice none 0 0] 57)).heap.size = w.heap.size + 1 := World.size_alloc _ _
  have Hz := Lib.hid hz
  clear hz
  go_enter Tryz.func51, Tryz.ntmps51
  have hS := strs_lit (w.alloc (.cells #[.string ⟨#[]⟩, .slice none 0 0] 57)) [⟨#[116, 97, 114, 103, 101, 116, 95, 115, 121, 115, 116, 101, 109]⟩, ⟨#[116, 97, 114, 103, 101, 116, 95, 99, 111, 109, 112, 111, 110, 101, 110, 116]⟩, ⟨#[114, 101, 113, 95, 115, 116, 114, 101, 97, 109, 95, 105, 100]⟩] #[.string ⟨#[116, 97, 114, 103, 101, 116, 95, 115, 121, 115, 116, 101, 109]⟩, .string ⟨#[116, 97, 114, 103, 101, 116, 95, 99, 111, 109, 112, 111, 110, 101, 110, 116]⟩, .string ⟨#[114, 101, 113, 95, 115, 116, 114, 101, 97, 109, 95, 105, 100]⟩] rfl 3 rfl (by omega)
  have hbs := (Below.refl (w.alloc (.cells #[.string ⟨#[]⟩, .slice none 0 0] 57)).heap.size (w.alloc (.cells #[.string ⟨#[]⟩, .slice none 0 0] 57))).alloc (Nat.le_refl _) (.cells #[.string ⟨#[116, 97, 114, 103, 101, 116, 95, 115, 121, 115, 116, 101, 109]⟩, .string ⟨#[116, 97, 114, 103, 101, 116, 95, 99, 111, 109, 112, 111, 110, 101, 110, 116]⟩, .string ⟨#[114, 101, 113, 95, 115, 116, 114, 101, 97, 109, 95, 105, 100]⟩] 9)
  rw [Hz.out] at hS
  have HS := Lib.hid hS
  clear hS
  go_wp2_with fail
  go_fit (u8_any (some ⟨w.heap.size + 1, 0, none⟩) 3 3 [⟨#[116, 97, 114, 103, 101, 116, 95, 115, 121, 115, 116, 101, 109]⟩, ⟨#[116, 97, 114, 103, 101, 116, 95, 99, 111, 109, 112, 111, 110, 101, 110, 116]⟩, ⟨#[114, 101, 113, 95, 115, 116, 114, 101, 97, 109, 95, 105, 100]⟩] _ HS.out (by omega))
  unfold RetP
  rintro e u0 ⟨A0, n0, c0, rfl, hl, own, hbx⟩
  obtain rfl : n0 = 3 := hl
  have hbq := bnx hbs hbx
  replace a0 := blk_old a0 hbq (blk_lt a0)
  replace hb := bnx hb hbq
  have hr0 : RdP u0 u0.heap.size A0 3 c0 (mkP 1 false [⟨#[116, 97, 114, 103, 101, 116, 95, 115, 121, 115, 116, 101, 109]⟩, ⟨#[116, 97, 114, 103, 101, 116, 95, 99, 111, 109, 112, 111, 110, 101, 110, 116]⟩, ⟨#[114, 101, 113, 95, 115, 116, 114, 101, 97, 109, 95, 105, 100]⟩]) := RdP.own own rfl
  clear own hbx hbq HS hbs
  have hS := strs_lit u0 [⟨#[114, 101, 113, 95, 109, 101, 115, 115, 97, 103, 101, 95, 114, 97, 116, 101]⟩] #[.string ⟨#[114, 101, 113, 95, 109, 101, 115, 115, 97, 103, 101, 95, 114, 97, 116, 101]⟩] rfl 1 rfl (by omega)
  have hbs := (Below.refl u0.heap.size u0).alloc (Nat.le_refl _) (.cells #[.string ⟨#[114, 101, 113, 95, 109, 101, 115, 115, 97, 103, 101, 95, 114, 97, 116, 101]⟩] 9)
  have HS := Lib.hid hS
  clear hS
  go_wp2_with fail
  go_fit (u16_any (some ⟨u0.heap.size, 0, none⟩) 1 1 [⟨#[114, 101, 113, 95, 109, 101, 115, 115, 97, 103, 101, 95, 114, 97, 116, 101]⟩] _ HS.out (by omega))
  unfold RetP
  rintro e u1 ⟨A1, n1, c1, rfl, hl, own, hbx⟩
  obtain rfl : n1 = 1 := hl
  have hbq := bnx hbs hbx
  replace a0 := blk_old a0 hbq (blk_lt a0)
  replace hb := bnx hb hbq
  replace hr0 : RdP _ _ A0 3 c0 _ := RdR.nx hr0 hbq
  have hr1 : RdP u1 u1.heap.size A1 1 c1 (mkP 2 false [⟨#[114, 101, 113, 95, 109, 101, 115, 115, 97, 103, 101, 95, 114, 97, 116, 101]⟩]) := RdP.own own rfl
  clear own hbx hbq HS hbs
  have hS := strs_lit u1 [⟨#[115, 116, 97, 114, 116, 95, 115, 116, 111, 112]⟩] #[.string ⟨#[115, 116, 97, 114, 116, 95, 115, 116, 111, 112]⟩] rfl 1 rfl (by omega)
  have hbs := (Below.refl u1.heap.size u1).alloc (Nat.le_refl _) (.cells #[.string ⟨#[115, 116, 97, 114, 116, 95, 115, 116, 111, 112]⟩] 9)
  have HS := Lib.hid hS
  clear hS
  go_wp2_with fail
  go_fit (u8_any (some ⟨u1.heap.size, 0, none⟩) 1 1 [⟨#[115, 116, 97, 114, 116, 95, 115, 116, 111, 112]⟩] _ HS.out (by omega))
  unfold RetP
  rintro e u2 ⟨A2, n2, c2, rfl, hl, own, hbx⟩
  obtain rfl : n2 = 1 := hl
  have hbq := bnx hbs hbx
  replace a0 := blk_old a0 hbq (blk_lt a0)
  replace hb := bnx hb hbq
  replace hr0 : RdP _ _ A0 3 c0 _ := RdR.nx hr0 hbq
  replace hr1 : RdP _ _ A1 1 c1 _ := RdR.nx hr1 hbq
  have hr2 : RdP u2 u2.heap.size A2 1 c2 (mkP 1 false [⟨#[115, 116, 97, 114, 116, 95, 115, 116, 111, 112]⟩]) := RdP.own own rfl
  clear own hbx hbq HS hbs
  have hbs := (Below.refl u2.heap.size u2).alloc (Nat.le_refl _) (.cells #[.slice A0 3 c0, .slice A1 1 c1, .slice A2 1 c2] 55)
  replace hr0 : RdP _ _ A0 3 c0 _ := RdR.nx hr0 hbs
  replace hr1 : RdP _ _ A1 1 c1 _ := RdR.nx hr1 hbs
  replace hr2 : RdP _ _ A2 1 c2 _ := RdR.nx hr2 hbs
  have hsz : (u2.alloc (.cells #[.slice A0 3 c0, .slice A1 1 c1, .slice A2 1 c2] 55)).heap.size = u2.heap.size + 1 := World.size_alloc _ _
  have hlit := RdR.lit (size := 1) (e := 55) u2 [[.slice A0 3 c0], [.slice A1 1 c1], [.slice A2 1 c2]] #[.slice A0 3 c0, .slice A1 1 c1, .slice A2 1 c2] rfl (by intro r hr; simp only [List.mem_cons, List.not_mem_nil, or_false] at hr; rcases hr with rfl | rfl | rfl <;> rfl) (by simp [maxLen]) 3 rfl
  rw [← hsz] at hlit
  have hof := of_any ⟨#[82, 69, 81, 85, 69, 83, 84, 95, 68, 65, 84, 65, 95, 83, 84, 82, 69, 65, 77]⟩ (some ⟨u2.heap.size, 0, none⟩) 3 3 [⟨A0, 3, c0, (mkP 1 false [⟨#[116, 97, 114, 103, 101, 116, 95, 115, 121, 115, 116, 101, 109]⟩, ⟨#[116, 97, 114, 103, 101, 116, 95, 99, 111, 109, 112, 111, 110, 101, 110, 116]⟩, ⟨#[114, 101, 113, 95, 115, 116, 114, 101, 97, 109, 95, 105, 100]⟩])⟩, ⟨A1, 1, c1, (mkP 2 false [⟨#[114, 101, 113, 95, 109, 101, 115, 115, 97, 103, 101, 95, 114, 97, 116, 101]⟩])⟩, ⟨A2, 1, c2, (mkP 1 false [⟨#[115, 116, 97, 114, 116, 95, 115, 116, 111, 112]⟩])⟩] (u2.alloc (.cells #[.slice A0 3 c0, .slice A1 1 c1, .slice A2 1 c2] 55)) ⟨hlit, by intro r hr; simp only [List.mem_cons, List.not_mem_nil, or_false] at hr; rcases hr with rfl | rfl | rfl <;> first | exact ⟨hr0, by show 3 ≤ 100; omega⟩ | exact ⟨hr1, by show 1 ≤ 100; omega⟩ | exact ⟨hr2, by show 1 ≤ 100; omega⟩⟩ (by omega)
  have Hof := Lib.hid hof
  clear hof hlit hsz hr0 hr1 hr2
  replace a0 := blk_old a0 hbs (blk_lt a0)
  replace hb := bnx hb hbs
  clear hbs
  go_wp2_with fail
  go_fit Hof.out
  unfold RetFm
  rintro e v ⟨A, n, c, rfl, hr, hbx⟩
  replace a0 := blk_old a0 hbx (blk_lt a0)
  replace hb := bnx hb hbx
  clear hbx Hof
  have hb' := below_setRow hb (Nat.le_refl _) (#[.string ⟨#[82, 69, 81, 85, 69, 83, 84, 95, 68, 65, 84, 65, 95, 83, 84, 82, 69, 65, 77]⟩, .slice A n c] : Array Value)
  have b0 := setRow_heap _ _ _ (#[.string ⟨#[82, 69, 81, 85, 69, 83, 84, 95, 68, 65, 84, 65, 95, 83, 84, 82, 69, 65, 77]⟩, .slice A n c] : Array Value) _ _ a0
  have hrq : RdP (v.setRow w.heap.size #[.string ⟨#[82, 69, 81, 85, 69, 83, 84, 95, 68, 65, 84, 65, 95, 83, 84, 82, 69, 65, 77]⟩, .slice A n c]) (v.setRow w.heap.size #[.string ⟨#[82, 69, 81, 85, 69, 83, 84, 95, 68, 65, 84, 65, 95, 83, 84, 82, 69, 65, 77]⟩, .slice A n c]).heap.size A n c fm66.2 := rdP_set hr a0 (#[.string ⟨#[82, 69, 81, 85, 69, 83, 84, 95, 68, 65, 84, 65, 95, 83, 84, 82, 69, 65, 77]⟩, .slice A n c] : Array Value)
  go_wp2_with (first | (with_reducible refine stop_storeT 57 ?_))
  refine go_ (wpList_store_row rfl _ _ _ rfl w.heap.size #[.string ⟨#[82, 69, 81, 85, 69, 83, 84, 95, 68, 65, 84, 65, 95, 83, 84, 82, 69, 65, 77]⟩, .slice A n c] rfl rfl _ _ a0 (by kernel_rfl) rfl (by kernel_rfl) ?_)
  generalize (v.setRow w.heap.size #[.string ⟨#[82, 69, 81, 85, 69, 83, 84, 95, 68, 65, 84, 65, 95, 83, 84, 82, 69, 65, 77]⟩, .slice A n c]) = w9 at *
  have e0 := blk_cell (i := 0) (v := .string ⟨#[82, 69, 81, 85, 69, 83, 84, 95, 68, 65, 84, 65, 95, 83, 84, 82, 69, 65, 77]⟩) b0 rfl
  have e1 := blk_cell (i := 1) (v := .slice A n c) b0 rfl
  clear hr a0 b0 hb
  go_wp2
  exact bodyPost_ret (v := .agg #[.string ⟨#[82, 69, 81, 85, 69, 83, 84, 95, 68, 65, 84, 65, 95, 83, 84, 82, 69, 65, 77]⟩, .slice A n c]) (by simp [results, go_sem, e0, e1]) rfl ⟨A, n, c, rfl, hrq, hb'⟩
set_option maxRecDepth 20000 in
set_option maxHeartbeats 4000000 in
theorem asked_77 (w : World) : Calls Tryz.prog 51 #[.int .i64 77] w (RetFm fm77 w) := by
  have a0 := heap_alloc_new w (.cells #[.string ⟨#[]⟩, .slice none 0 0] 57)
  have hb : Below w.heap.size w (w.alloc (.cells #[.string ⟨#[]⟩, .slice none 0 0] 57)) := (Below.refl _ _).alloc (Nat.le_refl _) _
  have hz : (w.alloc (.cells #[.string ⟨#[]⟩, .slice none 0 0] 57)).heap.size = w.heap.size + 1 := World.size_alloc _ _
  have Hz := Lib.hid hz
  clear hz
  go_enter Tryz.func51, Tryz.ntmps51
  have hS := strs_lit (w.alloc (.cells #[.string ⟨#[]⟩, .slice none 0 0] 57)) [⟨#[99, 111, 109, 109, 97, 110, 100]⟩] #[.string ⟨#[99, 111, 109, 109, 97, 110, 100]⟩] rfl 1 rfl (by omega)
  have hbs := (Below.refl (w.alloc (.cells #[.string ⟨#[]⟩, .slice none 0 0] 57)).heap.size (w.alloc (.cells #[.string ⟨#[]⟩, .slice none 0 0] 57))).alloc (Nat.le_refl _) (.cells #[.string ⟨#[99, 111, 109, 109, 97, 110, 100]⟩] 9)
  rw [Hz.out] at hS
  have HS := Lib.hid hS
  clear hS
  go_wp2_with fail
  go_fit (u16_any (some ⟨w.heap.size + 1, 0, none⟩) 1 1 [⟨#[99, 111, 109, 109, 97, 110, 100]⟩] _ HS.out (by omega))
  unfold RetP
  rintro e u0 ⟨A0, n0, c0, rfl, hl, own, hbx⟩
  obtain rfl : n0 = 1 := hl
  have hbq := bnx hbs hbx
  replace a0 := blk_old a0 hbq (blk_lt a0)
  replace hb := bnx hb hbq
  have hr0 : RdP u0 u0.heap.size A0 1 c0 (mkP 2 false [⟨#[99, 111, 109, 109, 97, 110, 100]⟩]) := RdP.own own rfl
  clear own hbx hbq HS hbs
  have hS := strs_lit u0 [⟨#[114, 101, 115, 117, 108, 116]⟩] #[.string ⟨#[114, 101, 115, 117, 108, 116]⟩] rfl 1 rfl (by omega)
  have hbs := (Below.refl u0.heap.size u0).alloc (Nat.le_refl _) (.cells #[.string ⟨#[114, 101, 115, 117, 108, 116]⟩] 9)
  have HS := Lib.hid hS
  clear hS
  go_wp2_with fail
  go_fit (u8_any (some ⟨u0.heap.size, 0, none⟩) 1 1 [⟨#[114, 101, 115, 117, 108, 116]⟩] _ HS.out (by omega))
  unfold RetP
  rintro e u1 ⟨A1, n1, c1, rfl, hl, own, hbx⟩
  obtain rfl : n1 = 1 := hl
  have hbq := bnx hbs hbx
  replace a0 := blk_old a0 hbq (blk_lt a0)
  replace hb := bnx hb hbq
  replace hr0 : RdP _ _ A0 1 c0 _ := RdR.nx hr0 hbq
  have hr1 : RdP u1 u1.heap.size A1 1 c1 (mkP 1 false [⟨#[114, 101, 115, 117, 108, 116]⟩]) := RdP.own own rfl
  clear own hbx hbq HS hbs
  have hbs := (Below.refl u1.heap.size u1).alloc (Nat.le_refl _) (.cells #[.slice A0 1 c0, .slice A1 1 c1] 55)
  replace hr0 : RdP _ _ A0 1 c0 _ := RdR.nx hr0 hbs
  replace hr1 : RdP _ _ A1 1 c1 _ := RdR.nx hr1 hbs
  have hsz : (u1.alloc (.cells #[.slice A0 1 c0, .slice A1 1 c1] 55)).heap.size = u1.heap.size + 1 := World.size_alloc _ _
  have hlit := RdR.lit (size := 1) (e := 55) u1 [[.slice A0 1 c0], [.slice A1 1 c1]] #[.slice A0 1 c0, .slice A1 1 c1] rfl (by intro r hr; simp only [List.mem_cons, List.not_mem_nil, or_false] at hr; rcases hr with rfl | rfl <;> rfl) (by simp [maxLen]) 2 rfl
  rw [← hsz] at hlit
  have hof := of_any ⟨#[67, 79, 77, 77, 65, 78, 68, 95, 65, 67, 75]⟩ (some ⟨u1.heap.size, 0, none⟩) 2 2 [⟨A0, 1, c0, (mkP 2 false [⟨#[99, 111, 109, 109, 97, 110, 100]⟩])⟩, ⟨A1, 1, c1, (mkP 1 false [⟨#[114, 101, 115, 117, 108, 116]⟩])⟩] (u1.alloc (.cells #[.slice A0 1 c0, .slice A1 1 c1] 55)) ⟨hlit, by intro r hr; simp only [List.mem_cons, List.not_mem_nil, or_false] at hr; rcases hr with rfl | rfl <;> first | exact ⟨hr0, by show 1 ≤ 100; omega⟩ | exact ⟨hr1, by show 1 ≤ 100; omega⟩⟩ (by omega)
  have Hof := Lib.hid hof
  clear hof hlit hsz hr0 hr1
  replace a0 := blk_old a0 hbs (blk_lt a0)
  replace hb := bnx hb hbs
  clear hbs
  go_wp2_with fail
  go_fit Hof.out
  unfold RetFm
  rintro e v ⟨A, n, c, rfl, hr, hbx⟩
  replace a0 := blk_old a0 hbx (blk_lt a0)
  replace hb := bnx hb hbx
  clear hbx Hof
  have hb' := below_setRow hb (Nat.le_refl _) (#[.string ⟨#[67, 79, 77, 77, 65, 78, 68, 95, 65, 67, 75]⟩, .slice A n c] : Array Value)
  have b0 := setRow_heap _ _ _ (#[.string ⟨#[67, 79, 77, 77, 65, 78, 68, 95, 65, 67, 75]⟩, .slice A n c] : Array Value) _ _ a0
  have hrq : RdP (v.setRow w.heap.size #[.string ⟨#[67, 79, 77, 77, 65, 78, 68, 95, 65, 67, 75]⟩, .slice A n c]) (v.setRow w.heap.size #[.string ⟨#[67, 79, 77, 77, 65, 78, 68, 95, 65, 67, 75]⟩, .slice A n c]).heap.size A n c fm77.2 := rdP_set hr a0 (#[.string ⟨#[67, 79, 77, 77, 65, 78, 68, 95, 65, 67, 75]⟩, .slice A n c] : Array Value)
  go_wp2_with (first | (with_reducible refine stop_storeT 57 ?_))
  refine go_ (wpList_store_row rfl _ _ _ rfl w.heap.size #[.string ⟨#[67, 79, 77, 77, 65, 78, 68, 95, 65, 67, 75]⟩, .slice A n c] rfl rfl _ _ a0 (by kernel_rfl) rfl (by kernel_rfl) ?_)
  generalize (v.setRow w.heap.size #[.string ⟨#[67, 79, 77, 77, 65, 78, 68, 95, 65, 67, 75]⟩, .slice A n c]) = w9 at *
  have e0 := blk_cell (i := 0) (v := .string ⟨#[67, 79, 77, 77, 65, 78, 68, 95, 65, 67, 75]⟩) b0 rfl
  have e1 := blk_cell (i := 1) (v := .slice A n c) b0 rfl
  clear hr a0 b0 hb
  go_wp2
  exact bodyPost_ret (v := .agg #[.string ⟨#[67, 79, 77, 77, 65, 78, 68, 95, 65, 67, 75]⟩, .slice A n c]) (by simp [results, go_sem, e0, e1]) rfl ⟨A, n, c, rfl, hrq, hb'⟩
set_option maxRecDepth 20000 in
set_option maxHeartbeats 4000000 in
theorem asked_no (id : Int) (h35 : ¬ id = 35) (h36 : ¬ id = 36) (h42 : ¬ id = 42) (h44 : ¬ id = 44) (h47 : ¬ id = 47) (h66 : ¬ id = 66) (h77 : ¬ id = 77) (w : World) : Calls Tryz.prog 51 #[.int .i64 id] w (RetFm fmNone w) := by
  have q35 : (id == 35) = false := by rw [beq_eq_false_iff_ne]; exact h35
  have q36 : (id == 36) = false := by rw [beq_eq_false_iff_ne]; exact h36
  have q42 : (id == 42) = false := by rw [beq_eq_false_iff_ne]; exact h42
  have q44 : (id == 44) = false := by rw [beq_eq_false_iff_ne]; exact h44
  have q47 : (id == 47) = false := by rw [beq_eq_false_iff_ne]; exact h47
  have q66 : (id == 66) = false := by rw [beq_eq_false_iff_ne]; exact h66
  have q77 : (id == 77) = false := by rw [beq_eq_false_iff_ne]; exact h77
  have a0 := heap_alloc_new w (.cells #[.string ⟨#[]⟩, .slice none 0 0] 57)
  have hb : Below w.heap.size w (w.alloc (.cells #[.string ⟨#[]⟩, .slice none 0 0] 57)) := (Below.refl _ _).alloc (Nat.le_refl _) _
  have hb' := below_setRow hb (Nat.le_refl _) (#[.string ⟨#[]⟩, .slice none 0 0] : Array Value)
  have b0 := setRow_heap _ _ _ (#[.string ⟨#[]⟩, .slice none 0 0] : Array Value) _ _ a0
  go_enter Tryz.func51, Tryz.ntmps51
  go_wp2_with (first | (with_reducible refine stop_buildF 57 ?_))
  refine go_ ?_
  generalize (w.alloc (.cells #[.string ⟨#[]⟩, .slice none 0 0] 57)) = v at *
  go_wp2_with (first | (with_reducible refine stop_storeT 57 ?_))
  refine go_ (wpList_store_row rfl _ _ _ rfl w.heap.size #[.string ⟨#[]⟩, .slice none 0 0] rfl rfl _ _ a0 (by kernel_rfl) rfl (by kernel_rfl) ?_)
  generalize (v.setRow w.heap.size #[.string ⟨#[]⟩, .slice none 0 0]) = w9 at *
  have e0 := blk_cell (i := 0) (v := .string ⟨#[]⟩) b0 rfl
  have e1 := blk_cell (i := 1) (v := .slice none 0 0) b0 rfl
  clear a0 b0 hb
  go_wp2
  exact bodyPost_ret (v := .agg #[.string ⟨#[]⟩, .slice none 0 0]) (by simp [results, go_sem, e0, e1]) rfl ⟨none, 0, 0, rfl, RdR.none_ _ _ _, hb'⟩
theorem asked_any (id : Int) (w : World) : Calls Tryz.prog 51 #[.int .i64 id] w (RetFm (frmA id) w) := by
  unfold frmA
  by_cases h35 : id = 35
  · subst h35
    rw [if_pos rfl]
    exact asked_35 w
  rw [if_neg h35]
  by_cases h36 : id = 36
  · subst h36
    rw [if_pos rfl]
    exact asked_36 w
  rw [if_neg h36]
  by_cases h42 : id = 42
  · subst h42
    rw [if_pos rfl]
    exact asked_42 w
  rw [if_neg h42]
  by_cases h44 : id = 44
  · subst h44
    rw [if_pos rfl]
    exact asked_44 w
  rw [if_neg h44]
  by_cases h47 : id = 47
  · subst h47
    rw [if_pos rfl]
    exact asked_47 w
  rw [if_neg h47]
  by_cases h66 : id = 66
  · subst h66
    rw [if_pos rfl]
    exact asked_66 w
  rw [if_neg h66]
  by_cases h77 : id = 77
  · subst h77
    rw [if_pos rfl]
    exact asked_77 w
  rw [if_neg h77]
  exact asked_no id h35 h36 h42 h44 h47 h66 h77 w

end Go.Proofs.YtonejdjhdjckjaaGreat
