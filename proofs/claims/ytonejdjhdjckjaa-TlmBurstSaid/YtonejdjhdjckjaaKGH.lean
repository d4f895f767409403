/-
  Several texts in one: Sch2S Sch2N Sch2A Sch2O Sch3.
-/
import Derived.Test.YtonejdjhdjckjaaKGF
/-
  the forms of state walked (printed by gen_sch3.py).
-/
set_option linter.unusedSimpArgs false
set_option linter.unusedVariables false
namespace Go.Proofs.Ytonejdjhdjckjaa
open Go.RowKit NumLaw
attribute [local go_sem] Addr.add_mid

set_option maxRecDepth 20000 in
set_option maxHeartbeats 4000000 in
theorem state_0 (w : World) : Calls Try.prog 72 #[.int .i64 0] w (RetFm fm0 w) := by
  have a0 := heap_alloc_new w (.cells #[.string ⟨#[]⟩, .slice none 0 0] 65)
  have hb : Below w.heap.size w (w.alloc (.cells #[.string ⟨#[]⟩, .slice none 0 0] 65)) := (Below.refl _ _).alloc (Nat.le_refl _) _
  have hz : (w.alloc (.cells #[.string ⟨#[]⟩, .slice none 0 0] 65)).heap.size = w.heap.size + 1 := World.size_alloc _ _
  have Hz := Lib.hid hz
  clear hz
  go_enter Try.func72, Try.ntmps72
  have hS := strs_lit (w.alloc (.cells #[.string ⟨#[]⟩, .slice none 0 0] 65)) [⟨#[116, 121, 112, 101]⟩, ⟨#[97, 117, 116, 111, 112, 105, 108, 111, 116]⟩, ⟨#[98, 97, 115, 101, 95, 109, 111, 100, 101]⟩] #[.string ⟨#[116, 121, 112, 101]⟩, .string ⟨#[97, 117, 116, 111, 112, 105, 108, 111, 116]⟩, .string ⟨#[98, 97, 115, 101, 95, 109, 111, 100, 101]⟩] rfl 3 rfl (by omega)
  have hbs := (Below.refl (w.alloc (.cells #[.string ⟨#[]⟩, .slice none 0 0] 65)).heap.size (w.alloc (.cells #[.string ⟨#[]⟩, .slice none 0 0] 65))).alloc (Nat.le_refl _) (.cells #[.string ⟨#[116, 121, 112, 101]⟩, .string ⟨#[97, 117, 116, 111, 112, 105, 108, 111, 116]⟩, .string ⟨#[98, 97, 115, 101, 95, 109, 111, 100, 101]⟩] 9)
  rw [Hz.out] at hS
  have HS := Lib.hid hS
  clear hS
  go_wp2_with fail
  go_fit (u8_any (some ⟨w.heap.size + 1, 0, none⟩) 3 3 [⟨#[116, 121, 112, 101]⟩, ⟨#[97, 117, 116, 111, 112, 105, 108, 111, 116]⟩, ⟨#[98, 97, 115, 101, 95, 109, 111, 100, 101]⟩] _ HS.out (by omega))
  unfold RetP
  rintro e u0 ⟨A0, n0, c0, rfl, hl, own, hbx⟩
  obtain rfl : n0 = 3 := hl
  have hbq := bnx hbs hbx
  replace a0 := blk_old a0 hbq (blk_lt a0)
  replace hb := bnx hb hbq
  have hr0 : RdP u0 u0.heap.size A0 3 c0 (mkP 1 false [⟨#[116, 121, 112, 101]⟩, ⟨#[97, 117, 116, 111, 112, 105, 108, 111, 116]⟩, ⟨#[98, 97, 115, 101, 95, 109, 111, 100, 101]⟩]) := RdP.own own rfl
  clear own hbx hbq HS hbs
  have hS := strs_lit u0 [⟨#[99, 117, 115, 116, 111, 109, 95, 109, 111, 100, 101]⟩] #[.string ⟨#[99, 117, 115, 116, 111, 109, 95, 109, 111, 100, 101]⟩] rfl 1 rfl (by omega)
  have hbs := (Below.refl u0.heap.size u0).alloc (Nat.le_refl _) (.cells #[.string ⟨#[99, 117, 115, 116, 111, 109, 95, 109, 111, 100, 101]⟩] 9)
  have HS := Lib.hid hS
  clear hS
  go_wp2_with fail
  go_fit (u32_any (some ⟨u0.heap.size, 0, none⟩) 1 1 [⟨#[99, 117, 115, 116, 111, 109, 95, 109, 111, 100, 101]⟩] _ HS.out (by omega))
  unfold RetP
  rintro e u1 ⟨A1, n1, c1, rfl, hl, own, hbx⟩
  obtain rfl : n1 = 1 := hl
  have hbq := bnx hbs hbx
  replace a0 := blk_old a0 hbq (blk_lt a0)
  replace hb := bnx hb hbq
  replace hr0 : RdP _ _ A0 3 c0 _ := RdR.nx hr0 hbq
  have hr1 : RdP u1 u1.heap.size A1 1 c1 (mkP 4 false [⟨#[99, 117, 115, 116, 111, 109, 95, 109, 111, 100, 101]⟩]) := RdP.own own rfl
  clear own hbx hbq HS hbs
  have hS := strs_lit u1 [⟨#[115, 121, 115, 116, 101, 109, 95, 115, 116, 97, 116, 117, 115]⟩, ⟨#[109, 97, 118, 108, 105, 110, 107, 95, 118, 101, 114, 115, 105, 111, 110]⟩] #[.string ⟨#[115, 121, 115, 116, 101, 109, 95, 115, 116, 97, 116, 117, 115]⟩, .string ⟨#[109, 97, 118, 108, 105, 110, 107, 95, 118, 101, 114, 115, 105, 111, 110]⟩] rfl 2 rfl (by omega)
  have hbs := (Below.refl u1.heap.size u1).alloc (Nat.le_refl _) (.cells #[.string ⟨#[115, 121, 115, 116, 101, 109, 95, 115, 116, 97, 116, 117, 115]⟩, .string ⟨#[109, 97, 118, 108, 105, 110, 107, 95, 118, 101, 114, 115, 105, 111, 110]⟩] 9)
  have HS := Lib.hid hS
  clear hS
  go_wp2_with fail
  go_fit (u8_any (some ⟨u1.heap.size, 0, none⟩) 2 2 [⟨#[115, 121, 115, 116, 101, 109, 95, 115, 116, 97, 116, 117, 115]⟩, ⟨#[109, 97, 118, 108, 105, 110, 107, 95, 118, 101, 114, 115, 105, 111, 110]⟩] _ HS.out (by omega))
  unfold RetP
  rintro e u2 ⟨A2, n2, c2, rfl, hl, own, hbx⟩
  obtain rfl : n2 = 2 := hl
  have hbq := bnx hbs hbx
  replace a0 := blk_old a0 hbq (blk_lt a0)
  replace hb := bnx hb hbq
  replace hr0 : RdP _ _ A0 3 c0 _ := RdR.nx hr0 hbq
  replace hr1 : RdP _ _ A1 1 c1 _ := RdR.nx hr1 hbq
  have hr2 : RdP u2 u2.heap.size A2 2 c2 (mkP 1 false [⟨#[115, 121, 115, 116, 101, 109, 95, 115, 116, 97, 116, 117, 115]⟩, ⟨#[109, 97, 118, 108, 105, 110, 107, 95, 118, 101, 114, 115, 105, 111, 110]⟩]) := RdP.own own rfl
  clear own hbx hbq HS hbs
  have hbs := (Below.refl u2.heap.size u2).alloc (Nat.le_refl _) (.cells #[.slice A0 3 c0, .slice A1 1 c1, .slice A2 2 c2] 22)
  replace hr0 : RdP _ _ A0 3 c0 _ := RdR.nx hr0 hbs
  replace hr1 : RdP _ _ A1 1 c1 _ := RdR.nx hr1 hbs
  replace hr2 : RdP _ _ A2 2 c2 _ := RdR.nx hr2 hbs
  have hsz : (u2.alloc (.cells #[.slice A0 3 c0, .slice A1 1 c1, .slice A2 2 c2] 22)).heap.size = u2.heap.size + 1 := World.size_alloc _ _
  have hlit := RdR.lit (size := 1) (e := 22) u2 [[.slice A0 3 c0], [.slice A1 1 c1], [.slice A2 2 c2]] #[.slice A0 3 c0, .slice A1 1 c1, .slice A2 2 c2] rfl (by intro r hr; simp only [List.mem_cons, List.not_mem_nil, or_false] at hr; rcases hr with rfl | rfl | rfl <;> rfl) (by simp [maxLen]) 3 rfl
  rw [← hsz] at hlit
  have hof := of_any ⟨#[72, 69, 65, 82, 84, 66, 69, 65, 84]⟩ (some ⟨u2.heap.size, 0, none⟩) 3 3 [⟨A0, 3, c0, (mkP 1 false [⟨#[116, 121, 112, 101]⟩, ⟨#[97, 117, 116, 111, 112, 105, 108, 111, 116]⟩, ⟨#[98, 97, 115, 101, 95, 109, 111, 100, 101]⟩])⟩, ⟨A1, 1, c1, (mkP 4 false [⟨#[99, 117, 115, 116, 111, 109, 95, 109, 111, 100, 101]⟩])⟩, ⟨A2, 2, c2, (mkP 1 false [⟨#[115, 121, 115, 116, 101, 109, 95, 115, 116, 97, 116, 117, 115]⟩, ⟨#[109, 97, 118, 108, 105, 110, 107, 95, 118, 101, 114, 115, 105, 111, 110]⟩])⟩] (u2.alloc (.cells #[.slice A0 3 c0, .slice A1 1 c1, .slice A2 2 c2] 22)) ⟨hlit, by intro r hr; simp only [List.mem_cons, List.not_mem_nil, or_false] at hr; rcases hr with rfl | rfl | rfl <;> first | exact ⟨hr0, by show 3 ≤ 100; omega⟩ | exact ⟨hr1, by show 1 ≤ 100; omega⟩ | exact ⟨hr2, by show 2 ≤ 100; omega⟩⟩ (by omega)
  have Hof := Lib.hid hof
  clear hof hlit hsz hr0 hr1 hr2
  replace a0 := blk_old a0 hbs (blk_lt a0)
  replace hb := bnx hb hbs
  clear hbs
  go_wp2_with fail
  go_fit Hof.out
  unfold RetFm
  rintro e v ⟨A, n, c, rfl, hr, hbx⟩
  replace a0 := blk_old a0 hbx (blk_lt a0)
  replace hb := bnx hb hbx
  clear hbx Hof
  have hb' := below_setRow hb (Nat.le_refl _) (#[.string ⟨#[72, 69, 65, 82, 84, 66, 69, 65, 84]⟩, .slice A n c] : Array Value)
  have b0 := setRow_heap _ _ _ (#[.string ⟨#[72, 69, 65, 82, 84, 66, 69, 65, 84]⟩, .slice A n c] : Array Value) _ _ a0
  have hrq : RdP (v.setRow w.heap.size #[.string ⟨#[72, 69, 65, 82, 84, 66, 69, 65, 84]⟩, .slice A n c]) (v.setRow w.heap.size #[.string ⟨#[72, 69, 65, 82, 84, 66, 69, 65, 84]⟩, .slice A n c]).heap.size A n c fm0.2 := rdP_set hr a0 (#[.string ⟨#[72, 69, 65, 82, 84, 66, 69, 65, 84]⟩, .slice A n c] : Array Value)
  go_wp2_with (first | (with_reducible refine stop_storeT 65 ?_))
  refine go_ (wpList_store_row rfl _ _ _ rfl w.heap.size #[.string ⟨#[72, 69, 65, 82, 84, 66, 69, 65, 84]⟩, .slice A n c] rfl rfl _ _ a0 (by kernel_rfl) rfl (by kernel_rfl) ?_)
  generalize (v.setRow w.heap.size #[.string ⟨#[72, 69, 65, 82, 84, 66, 69, 65, 84]⟩, .slice A n c]) = w9 at *
  have e0 := blk_cell (i := 0) (v := .string ⟨#[72, 69, 65, 82, 84, 66, 69, 65, 84]⟩) b0 rfl
  have e1 := blk_cell (i := 1) (v := .slice A n c) b0 rfl
  clear hr a0 b0 hb
  go_wp2
  exact bodyPost_ret (v := .agg #[.string ⟨#[72, 69, 65, 82, 84, 66, 69, 65, 84]⟩, .slice A n c]) (by simp [results, go_sem, e0, e1]) rfl ⟨A, n, c, rfl, hrq, hb'⟩
set_option maxRecDepth 20000 in
set_option maxHeartbeats 4000000 in
theorem state_1 (w : World) : Calls Try.prog 72 #[.int .i64 1] w (RetFm fm1 w) := by
  have a0 := heap_alloc_new w (.cells #[.string ⟨#[]⟩, .slice none 0 0] 65)
  have hb : Below w.heap.size w (w.alloc (.cells #[.string ⟨#[]⟩, .slice none 0 0] 65)) := (Below.refl _ _).alloc (Nat.le_refl _) _
  have hz : (w.alloc (.cells #[.string ⟨#[]⟩, .slice none 0 0] 65)).heap.size = w.heap.size + 1 := World.size_alloc _ _
  have Hz := Lib.hid hz
  clear hz
  go_enter Try.func72, Try.ntmps72
  have hS := strs_lit (w.alloc (.cells #[.string ⟨#[]⟩, .slice none 0 0] 65)) [⟨#[111, 110, 98, 111, 97, 114, 100, 95, 99, 111, 110, 116, 114, 111, 108, 95, 115, 101, 110, 115, 111, 114, 115, 95, 112, 114, 101, 115, 101, 110, 116]⟩, ⟨#[111, 110, 98, 111, 97, 114, 100, 95, 99, 111, 110, 116, 114, 111, 108, 95, 115, 101, 110, 115, 111, 114, 115, 95, 101, 110, 97, 98, 108, 101, 100]⟩, ⟨#[111, 110, 98, 111, 97, 114, 100, 95, 99, 111, 110, 116, 114, 111, 108, 95, 115, 101, 110, 115, 111, 114, 115, 95, 104, 101, 97, 108, 116, 104]⟩] #[.string ⟨#[111, 110, 98, 111, 97, 114, 100, 95, 99, 111, 110, 116, 114, 111, 108, 95, 115, 101, 110, 115, 111, 114, 115, 95, 112, 114, 101, 115, 101, 110, 116]⟩, .string ⟨#[111, 110, 98, 111, 97, 114, 100, 95, 99, 111, 110, 116, 114, 111, 108, 95, 115, 101, 110, 115, 111, 114, 115, 95, 101, 110, 97, 98, 108, 101, 100]⟩, .string ⟨#[111, 110, 98, 111, 97, 114, 100, 95, 99, 111, 110, 116, 114, 111, 108, 95, 115, 101, 110, 115, 111, 114, 115, 95, 104, 101, 97, 108, 116, 104]⟩] rfl 3 rfl (by omega)
  have hbs := (Below.refl (w.alloc (.cells #[.string ⟨#[]⟩, .slice none 0 0] 65)).heap.size (w.alloc (.cells #[.string ⟨#[]⟩, .slice none 0 0] 65))).alloc (Nat.le_refl _) (.cells #[.string ⟨#[111, 110, 98, 111, 97, 114, 100, 95, 99, 111, 110, 116, 114, 111, 108, 95, 115, 101, 110, 115, 111, 114, 115, 95, 112, 114, 101, 115, 101, 110, 116]⟩, .string ⟨#[111, 110, 98, 111, 97, 114, 100, 95, 99, 111, 110, 116, 114, 111, 108, 95, 115, 101, 110, 115, 111, 114, 115, 95, 101, 110, 97, 98, 108, 101, 100]⟩, .string ⟨#[111, 110, 98, 111, 97, 114, 100, 95, 99, 111, 110, 116, 114, 111, 108, 95, 115, 101, 110, 115, 111, 114, 115, 95, 104, 101, 97, 108, 116, 104]⟩] 9)
  rw [Hz.out] at hS
  have HS := Lib.hid hS
  clear hS
  go_wp2_with fail
  go_fit (u32_any (some ⟨w.heap.size + 1, 0, none⟩) 3 3 [⟨#[111, 110, 98, 111, 97, 114, 100, 95, 99, 111, 110, 116, 114, 111, 108, 95, 115, 101, 110, 115, 111, 114, 115, 95, 112, 114, 101, 115, 101, 110, 116]⟩, ⟨#[111, 110, 98, 111, 97, 114, 100, 95, 99, 111, 110, 116, 114, 111, 108, 95, 115, 101, 110, 115, 111, 114, 115, 95, 101, 110, 97, 98, 108, 101, 100]⟩, ⟨#[111, 110, 98, 111, 97, 114, 100, 95, 99, 111, 110, 116, 114, 111, 108, 95, 115, 101, 110, 115, 111, 114, 115, 95, 104, 101, 97, 108, 116, 104]⟩] _ HS.out (by omega))
  unfold RetP
  rintro e u0 ⟨A0, n0, c0, rfl, hl, own, hbx⟩
  obtain rfl : n0 = 3 := hl
  have hbq := bnx hbs hbx
  replace a0 := blk_old a0 hbq (blk_lt a0)
  replace hb := bnx hb hbq
  have hr0 : RdP u0 u0.heap.size A0 3 c0 (mkP 4 false [⟨#[111, 110, 98, 111, 97, 114, 100, 95, 99, 111, 110, 116, 114, 111, 108, 95, 115, 101, 110, 115, 111, 114, 115, 95, 112, 114, 101, 115, 101, 110, 116]⟩, ⟨#[111, 110, 98, 111, 97, 114, 100, 95, 99, 111, 110, 116, 114, 111, 108, 95, 115, 101, 110, 115, 111, 114, 115, 95, 101, 110, 97, 98, 108, 101, 100]⟩, ⟨#[111, 110, 98, 111, 97, 114, 100, 95, 99, 111, 110, 116, 114, 111, 108, 95, 115, 101, 110, 115, 111, 114, 115, 95, 104, 101, 97, 108, 116, 104]⟩]) := RdP.own own rfl
  clear own hbx hbq HS hbs
  have hS := strs_lit u0 [⟨#[108, 111, 97, 100]⟩, ⟨#[118, 111, 108, 116, 97, 103, 101, 95, 98, 97, 116, 116, 101, 114, 121]⟩] #[.string ⟨#[108, 111, 97, 100]⟩, .string ⟨#[118, 111, 108, 116, 97, 103, 101, 95, 98, 97, 116, 116, 101, 114, 121]⟩] rfl 2 rfl (by omega)
  have hbs := (Below.refl u0.heap.size u0).alloc (Nat.le_refl _) (.cells #[.string ⟨#[108, 111, 97, 100]⟩, .string ⟨#[118, 111, 108, 116, 97, 103, 101, 95, 98, 97, 116, 116, 101, 114, 121]⟩] 9)
  have HS := Lib.hid hS
  clear hS
  go_wp2_with fail
  go_fit (u16_any (some ⟨u0.heap.size, 0, none⟩) 2 2 [⟨#[108, 111, 97, 100]⟩, ⟨#[118, 111, 108, 116, 97, 103, 101, 95, 98, 97, 116, 116, 101, 114, 121]⟩] _ HS.out (by omega))
  unfold RetP
  rintro e u1 ⟨A1, n1, c1, rfl, hl, own, hbx⟩
  obtain rfl : n1 = 2 := hl
  have hbq := bnx hbs hbx
  replace a0 := blk_old a0 hbq (blk_lt a0)
  replace hb := bnx hb hbq
  replace hr0 : RdP _ _ A0 3 c0 _ := RdR.nx hr0 hbq
  have hr1 : RdP u1 u1.heap.size A1 2 c1 (mkP 2 false [⟨#[108, 111, 97, 100]⟩, ⟨#[118, 111, 108, 116, 97, 103, 101, 95, 98, 97, 116, 116, 101, 114, 121]⟩]) := RdP.own own rfl
  clear own hbx hbq HS hbs
  have hS := strs_lit u1 [⟨#[99, 117, 114, 114, 101, 110, 116, 95, 98, 97, 116, 116, 101, 114, 121]⟩] #[.string ⟨#[99, 117, 114, 114, 101, 110, 116, 95, 98, 97, 116, 116, 101, 114, 121]⟩] rfl 1 rfl (by omega)
  have hbs := (Below.refl u1.heap.size u1).alloc (Nat.le_refl _) (.cells #[.string ⟨#[99, 117, 114, 114, 101, 110, 116, 95, 98, 97, 116, 116, 101, 114, 121]⟩] 9)
  have HS := Lib.hid hS
  clear hS
  go_wp2_with fail
  go_fit (i16_any (some ⟨u1.heap.size, 0, none⟩) 1 1 [⟨#[99, 117, 114, 114, 101, 110, 116, 95, 98, 97, 116, 116, 101, 114, 121]⟩] _ HS.out (by omega))
  unfold RetP
  rintro e u2 ⟨A2, n2, c2, rfl, hl, own, hbx⟩
  obtain rfl : n2 = 1 := hl
  have hbq := bnx hbs hbx
  replace a0 := blk_old a0 hbq (blk_lt a0)
  replace hb := bnx hb hbq
  replace hr0 : RdP _ _ A0 3 c0 _ := RdR.nx hr0 hbq
  replace hr1 : RdP _ _ A1 2 c1 _ := RdR.nx hr1 hbq
  have hr2 : RdP u2 u2.heap.size A2 1 c2 (mkP 2 true [⟨#[99, 117, 114, 114, 101, 110, 116, 95, 98, 97, 116, 116, 101, 114, 121]⟩]) := RdP.own own rfl
  clear own hbx hbq HS hbs
  have hS := strs_lit u2 [⟨#[98, 97, 116, 116, 101, 114, 121, 95, 114, 101, 109, 97, 105, 110, 105, 110, 103]⟩] #[.string ⟨#[98, 97, 116, 116, 101, 114, 121, 95, 114, 101, 109, 97, 105, 110, 105, 110, 103]⟩] rfl 1 rfl (by omega)
  have hbs := (Below.refl u2.heap.size u2).alloc (Nat.le_refl _) (.cells #[.string ⟨#[98, 97, 116, 116, 101, 114, 121, 95, 114, 101, 109, 97, 105, 110, 105, 110, 103]⟩] 9)
  have HS := Lib.hid hS
  clear hS
  go_wp2_with fail
  go_fit (i8_any (some ⟨u2.heap.size, 0, none⟩) 1 1 [⟨#[98, 97, 116, 116, 101, 114, 121, 95, 114, 101, 109, 97, 105, 110, 105, 110, 103]⟩] _ HS.out (by omega))
  unfold RetP
  rintro e u3 ⟨A3, n3, c3, rfl, hl, own, hbx⟩
  obtain rfl : n3 = 1 := hl
  have hbq := bnx hbs hbx
  replace a0 := blk_old a0 hbq (blk_lt a0)
  replace hb := bnx hb hbq
  replace hr0 : RdP _ _ A0 3 c0 _ := RdR.nx hr0 hbq
  replace hr1 : RdP _ _ A1 2 c1 _ := RdR.nx hr1 hbq
  replace hr2 : RdP _ _ A2 1 c2 _ := RdR.nx hr2 hbq
  have hr3 : RdP u3 u3.heap.size A3 1 c3 (mkP 1 true [⟨#[98, 97, 116, 116, 101, 114, 121, 95, 114, 101, 109, 97, 105, 110, 105, 110, 103]⟩]) := RdP.own own rfl
  clear own hbx hbq HS hbs
  have hS := strs_lit u3 [⟨#[100, 114, 111, 112, 95, 114, 97, 116, 101, 95, 99, 111, 109, 109]⟩, ⟨#[101, 114, 114, 111, 114, 115, 95, 99, 111, 109, 109]⟩, ⟨#[101, 114, 114, 111, 114, 115, 95, 99, 111, 117, 110, 116, 49]⟩, ⟨#[101, 114, 114, 111, 114, 115, 95, 99, 111, 117, 110, 116, 50]⟩, ⟨#[101, 114, 114, 111, 114, 115, 95, 99, 111, 117, 110, 116, 51]⟩, ⟨#[101, 114, 114, 111, 114, 115, 95, 99, 111, 117, 110, 116, 52]⟩] #[.string ⟨#[100, 114, 111, 112, 95, 114, 97, 116, 101, 95, 99, 111, 109, 109]⟩, .string ⟨#[101, 114, 114, 111, 114, 115, 95, 99, 111, 109, 109]⟩, .string ⟨#[101, 114, 114, 111, 114, 115, 95, 99, 111, 117, 110, 116, 49]⟩, .string ⟨#[101, 114, 114, 111, 114, 115, 95, 99, 111, 117, 110, 116, 50]⟩, .string ⟨#[101, 114, 114, 111, 114, 115, 95, 99, 111, 117, 110, 116, 51]⟩, .string ⟨#[101, 114, 114, 111, 114, 115, 95, 99, 111, 117, 110, 116, 52]⟩] rfl 6 rfl (by omega)
  have hbs := (Below.refl u3.heap.size u3).alloc (Nat.le_refl _) (.cells #[.string ⟨#[100, 114, 111, 112, 95, 114, 97, 116, 101, 95, 99, 111, 109, 109]⟩, .string ⟨#[101, 114, 114, 111, 114, 115, 95, 99, 111, 109, 109]⟩, .string ⟨#[101, 114, 114, 111, 114, 115, 95, 99, 111, 117, 110, 116, 49]⟩, .string ⟨#[101, 114, 114, 111, 114, 115, 95, 99, 111, 117, 110, 116, 50]⟩, .string ⟨#[101, 114, 114, 111, 114, 115, 95, 99, 111, 117, 110, 116, 51]⟩, .string ⟨#[101, 114, 114, 111, 114, 115, 95, 99, 111, 117, 110, 116, 52]⟩] 9)
  have HS := Lib.hid hS
  clear hS
  go_wp2_with fail
  go_fit (u16_any (some ⟨u3.heap.size, 0, none⟩) 6 6 [⟨#[100, 114, 111, 112, 95, 114, 97, 116, 101, 95, 99, 111, 109, 109]⟩, ⟨#[101, 114, 114, 111, 114, 115, 95, 99, 111, 109, 109]⟩, ⟨#[101, 114, 114, 111, 114, 115, 95, 99, 111, 117, 110, 116, 49]⟩, ⟨#[101, 114, 114, 111, 114, 115, 95, 99, 111, 117, 110, 116, 50]⟩, ⟨#[101, 114, 114, 111, 114, 115, 95, 99, 111, 117, 110, 116, 51]⟩, ⟨#[101, 114, 114, 111, 114, 115, 95, 99, 111, 117, 110, 116, 52]⟩] _ HS.out (by omega))
  unfold RetP
  rintro e u4 ⟨A4, n4, c4, rfl, hl, own, hbx⟩
  obtain rfl : n4 = 6 := hl
  have hbq := bnx hbs hbx
  replace a0 := blk_old a0 hbq (blk_lt a0)
  replace hb := bnx hb hbq
  replace hr0 : RdP _ _ A0 3 c0 _ := RdR.nx hr0 hbq
  replace hr1 : RdP _ _ A1 2 c1 _ := RdR.nx hr1 hbq
  replace hr2 : RdP _ _ A2 1 c2 _ := RdR.nx hr2 hbq
  replace hr3 : RdP _ _ A3 1 c3 _ := RdR.nx hr3 hbq
  have hr4 : RdP u4 u4.heap.size A4 6 c4 (mkP 2 false [⟨#[100, 114, 111, 112, 95, 114, 97, 116, 101, 95, 99, 111, 109, 109]⟩, ⟨#[101, 114, 114, 111, 114, 115, 95, 99, 111, 109, 109]⟩, ⟨#[101, 114, 114, 111, 114, 115, 95, 99, 111, 117, 110, 116, 49]⟩, ⟨#[101, 114, 114, 111, 114, 115, 95, 99, 111, 117, 110, 116, 50]⟩, ⟨#[101, 114, 114, 111, 114, 115, 95, 99, 111, 117, 110, 116, 51]⟩, ⟨#[101, 114, 114, 111, 114, 115, 95, 99, 111, 117, 110, 116, 52]⟩]) := RdP.own own rfl
  clear own hbx hbq HS hbs
  have hbs := (Below.refl u4.heap.size u4).alloc (Nat.le_refl _) (.cells #[.slice A0 3 c0, .slice A1 2 c1, .slice A2 1 c2, .slice A3 1 c3, .slice A4 6 c4] 22)
  replace hr0 : RdP _ _ A0 3 c0 _ := RdR.nx hr0 hbs
  replace hr1 : RdP _ _ A1 2 c1 _ := RdR.nx hr1 hbs
  replace hr2 : RdP _ _ A2 1 c2 _ := RdR.nx hr2 hbs
  replace hr3 : RdP _ _ A3 1 c3 _ := RdR.nx hr3 hbs
  replace hr4 : RdP _ _ A4 6 c4 _ := RdR.nx hr4 hbs
  have hsz : (u4.alloc (.cells #[.slice A0 3 c0, .slice A1 2 c1, .slice A2 1 c2, .slice A3 1 c3, .slice A4 6 c4] 22)).heap.size = u4.heap.size + 1 := World.size_alloc _ _
  have hlit := RdR.lit (size := 1) (e := 22) u4 [[.slice A0 3 c0], [.slice A1 2 c1], [.slice A2 1 c2], [.slice A3 1 c3], [.slice A4 6 c4]] #[.slice A0 3 c0, .slice A1 2 c1, .slice A2 1 c2, .slice A3 1 c3, .slice A4 6 c4] rfl (by intro r hr; simp only [List.mem_cons, List.not_mem_nil, or_false] at hr; rcases hr with rfl | rfl | rfl | rfl | rfl <;> rfl) (by simp [maxLen]) 5 rfl
  rw [← hsz] at hlit
  have hof := of_any ⟨#[83, 89, 83, 95, 83, 84, 65, 84, 85, 83]⟩ (some ⟨u4.heap.size, 0, none⟩) 5 5 [⟨A0, 3, c0, (mkP 4 false [⟨#[111, 110, 98, 111, 97, 114, 100, 95, 99, 111, 110, 116, 114, 111, 108, 95, 115, 101, 110, 115, 111, 114, 115, 95, 112, 114, 101, 115, 101, 110, 116]⟩, ⟨#[111, 110, 98, 111, 97, 114, 100, 95, 99, 111, 110, 116, 114, 111, 108, 95, 115, 101, 110, 115, 111, 114, 115, 95, 101, 110, 97, 98, 108, 101, 100]⟩, ⟨#[111, 110, 98, 111, 97, 114, 100, 95, 99, 111, 110, 116, 114, 111, 108, 95, 115, 101, 110, 115, 111, 114, 115, 95, 104, 101, 97, 108, 116, 104]⟩])⟩, ⟨A1, 2, c1, (mkP 2 false [⟨#[108, 111, 97, 100]⟩, ⟨#[118, 111, 108, 116, 97, 103, 101, 95, 98, 97, 116, 116, 101, 114, 121]⟩])⟩, ⟨A2, 1, c2, (mkP 2 true [⟨#[99, 117, 114, 114, 101, 110, 116, 95, 98, 97, 116, 116, 101, 114, 121]⟩])⟩, ⟨A3, 1, c3, (mkP 1 true [⟨#[98, 97, 116, 116, 101, 114, 121, 95, 114, 101, 109, 97, 105, 110, 105, 110, 103]⟩])⟩, ⟨A4, 6, c4, (mkP 2 false [⟨#[100, 114, 111, 112, 95, 114, 97, 116, 101, 95, 99, 111, 109, 109]⟩, ⟨#[101, 114, 114, 111, 114, 115, 95, 99, 111, 109, 109]⟩, ⟨#[101, 114, 114, 111, 114, 115, 95, 99, 111, 117, 110, 116, 49]⟩, ⟨#[101, 114, 114, 111, 114, 115, 95, 99, 111, 117, 110, 116, 50]⟩, ⟨#[101, 114, 114, 111, 114, 115, 95, 99, 111, 117, 110, 116, 51]⟩, ⟨#[101, 114, 114, 111, 114, 115, 95, 99, 111, 117, 110, 116, 52]⟩])⟩] (u4.alloc (.cells #[.slice A0 3 c0, .slice A1 2 c1, .slice A2 1 c2, .slice A3 1 c3, .slice A4 6 c4] 22)) ⟨hlit, by intro r hr; simp only [List.mem_cons, List.not_mem_nil, or_false] at hr; rcases hr with rfl | rfl | rfl | rfl | rfl <;> first | exact ⟨hr0, by show 3 ≤ 100; omega⟩ | exact ⟨hr1, by show 2 ≤ 100; omega⟩ | exact ⟨hr2, by show 1 ≤ 100; omega⟩ | exact ⟨hr3, by show 1 ≤ 100; omega⟩ | exact ⟨hr4, by show 6 ≤ 100; omega⟩⟩ (by omega)
  have Hof := Lib.hid hof
  clear hof hlit hsz hr0 hr1 hr2 hr3 hr4
  replace a0 := blk_old a0 hbs (blk_lt a0)
  replace hb := bnx hb hbs
  clear hbs
  go_wp2_with fail
  go_fit Hof.out
  unfold RetFm
  rintro e v ⟨A, n, c, rfl, hr, hbx⟩
  replace a0 := blk_old a0 hbx (blk_lt a0)
  replace hb := bnx hb hbx
  clear hbx Hof
  have hb' := below_setRow hb (Nat.le_refl _) (#[.string ⟨#[83, 89, 83, 95, 83, 84, 65, 84, 85, 83]⟩, .slice A n c] : Array Value)
  have b0 := setRow_heap _ _ _ (#[.string ⟨#[83, 89, 83, 95, 83, 84, 65, 84, 85, 83]⟩, .slice A n c] : Array Value) _ _ a0
  have hrq : RdP (v.setRow w.heap.size #[.string ⟨#[83, 89, 83, 95, 83, 84, 65, 84, 85, 83]⟩, .slice A n c]) (v.setRow w.heap.size #[.string ⟨#[83, 89, 83, 95, 83, 84, 65, 84, 85, 83]⟩, .slice A n c]).heap.size A n c fm1.2 := rdP_set hr a0 (#[.string ⟨#[83, 89, 83, 95, 83, 84, 65, 84, 85, 83]⟩, .slice A n c] : Array Value)
  go_wp2_with (first | (with_reducible refine stop_storeT 65 ?_))
  refine go_ (wpList_store_row rfl _ _ _ rfl w.heap.size #[.string ⟨#[83, 89, 83, 95, 83, 84, 65, 84, 85, 83]⟩, .slice A n c] rfl rfl _ _ a0 (by kernel_rfl) rfl (by kernel_rfl) ?_)
  generalize (v.setRow w.heap.size #[.string ⟨#[83, 89, 83, 95, 83, 84, 65, 84, 85, 83]⟩, .slice A n c]) = w9 at *
  have e0 := blk_cell (i := 0) (v := .string ⟨#[83, 89, 83, 95, 83, 84, 65, 84, 85, 83]⟩) b0 rfl
  have e1 := blk_cell (i := 1) (v := .slice A n c) b0 rfl
  clear hr a0 b0 hb
  go_wp2
  exact bodyPost_ret (v := .agg #[.string ⟨#[83, 89, 83, 95, 83, 84, 65, 84, 85, 83]⟩, .slice A n c]) (by simp [results, go_sem, e0, e1]) rfl ⟨A, n, c, rfl, hrq, hb'⟩
set_option maxRecDepth 20000 in
set_option maxHeartbeats 4000000 in
theorem state_2 (w : World) : Calls Try.prog 72 #[.int .i64 2] w (RetFm fm2 w) := by
  have a0 := heap_alloc_new w (.cells #[.string ⟨#[]⟩, .slice none 0 0] 65)
  have hb : Below w.heap.size w (w.alloc (.cells #[.string ⟨#[]⟩, .slice none 0 0] 65)) := (Below.refl _ _).alloc (Nat.le_refl _) _
  have hz : (w.alloc (.cells #[.string ⟨#[]⟩, .slice none 0 0] 65)).heap.size = w.heap.size + 1 := World.size_alloc _ _
  have Hz := Lib.hid hz
  clear hz
  go_enter Try.func72, Try.ntmps72
  have hS := strs_lit (w.alloc (.cells #[.string ⟨#[]⟩, .slice none 0 0] 65)) [⟨#[116, 105, 109, 101, 95, 117, 110, 105, 120, 95, 117, 115, 101, 99]⟩] #[.string ⟨#[116, 105, 109, 101, 95, 117, 110, 105, 120, 95, 117, 115, 101, 99]⟩] rfl 1 rfl (by omega)
  have hbs := (Below.refl (w.alloc (.cells #[.string ⟨#[]⟩, .slice none 0 0] 65)).heap.size (w.alloc (.cells #[.string ⟨#[]⟩, .slice none 0 0] 65))).alloc (Nat.le_refl _) (.cells #[.string ⟨#[116, 105, 109, 101, 95, 117, 110, 105, 120, 95, 117, 115, 101, 99]⟩] 9)
  rw [Hz.out] at hS
  have HS := Lib.hid hS
  clear hS
  go_wp2_with fail
  go_fit (u64_any (some ⟨w.heap.size + 1, 0, none⟩) 1 1 [⟨#[116, 105, 109, 101, 95, 117, 110, 105, 120, 95, 117, 115, 101, 99]⟩] _ HS.out (by omega))
  unfold RetP
  rintro e u0 ⟨A0, n0, c0, rfl, hl, own, hbx⟩
  obtain rfl : n0 = 1 := hl
  have hbq := bnx hbs hbx
  replace a0 := blk_old a0 hbq (blk_lt a0)
  replace hb := bnx hb hbq
  have hr0 : RdP u0 u0.heap.size A0 1 c0 (mkP 8 false [⟨#[116, 105, 109, 101, 95, 117, 110, 105, 120, 95, 117, 115, 101, 99]⟩]) := RdP.own own rfl
  clear own hbx hbq HS hbs
  have hS := strs_lit u0 [⟨#[116, 105, 109, 101, 95, 98, 111, 111, 116, 95, 109, 115]⟩] #[.string ⟨#[116, 105, 109, 101, 95, 98, 111, 111, 116, 95, 109, 115]⟩] rfl 1 rfl (by omega)
  have hbs := (Below.refl u0.heap.size u0).alloc (Nat.le_refl _) (.cells #[.string ⟨#[116, 105, 109, 101, 95, 98, 111, 111, 116, 95, 109, 115]⟩] 9)
  have HS := Lib.hid hS
  clear hS
  go_wp2_with fail
  go_fit (u32_any (some ⟨u0.heap.size, 0, none⟩) 1 1 [⟨#[116, 105, 109, 101, 95, 98, 111, 111, 116, 95, 109, 115]⟩] _ HS.out (by omega))
  unfold RetP
  rintro e u1 ⟨A1, n1, c1, rfl, hl, own, hbx⟩
  obtain rfl : n1 = 1 := hl
  have hbq := bnx hbs hbx
  replace a0 := blk_old a0 hbq (blk_lt a0)
  replace hb := bnx hb hbq
  replace hr0 : RdP _ _ A0 1 c0 _ := RdR.nx hr0 hbq
  have hr1 : RdP u1 u1.heap.size A1 1 c1 (mkP 4 false [⟨#[116, 105, 109, 101, 95, 98, 111, 111, 116, 95, 109, 115]⟩]) := RdP.own own rfl
  clear own hbx hbq HS hbs
  have hbs := (Below.refl u1.heap.size u1).alloc (Nat.le_refl _) (.cells #[.slice A0 1 c0, .slice A1 1 c1] 22)
  replace hr0 : RdP _ _ A0 1 c0 _ := RdR.nx hr0 hbs
  replace hr1 : RdP _ _ A1 1 c1 _ := RdR.nx hr1 hbs
  have hsz : (u1.alloc (.cells #[.slice A0 1 c0, .slice A1 1 c1] 22)).heap.size = u1.heap.size + 1 := World.size_alloc _ _
  have hlit := RdR.lit (size := 1) (e := 22) u1 [[.slice A0 1 c0], [.slice A1 1 c1]] #[.slice A0 1 c0, .slice A1 1 c1] rfl (by intro r hr; simp only [List.mem_cons, List.not_mem_nil, or_false] at hr; rcases hr with rfl | rfl <;> rfl) (by simp [maxLen]) 2 rfl
  rw [← hsz] at hlit
  have hof := of_any ⟨#[83, 89, 83, 84, 69, 77, 95, 84, 73, 77, 69]⟩ (some ⟨u1.heap.size, 0, none⟩) 2 2 [⟨A0, 1, c0, (mkP 8 false [⟨#[116, 105, 109, 101, 95, 117, 110, 105, 120, 95, 117, 115, 101, 99]⟩])⟩, ⟨A1, 1, c1, (mkP 4 false [⟨#[116, 105, 109, 101, 95, 98, 111, 111, 116, 95, 109, 115]⟩])⟩] (u1.alloc (.cells #[.slice A0 1 c0, .slice A1 1 c1] 22)) ⟨hlit, by intro r hr; simp only [List.mem_cons, List.not_mem_nil, or_false] at hr; rcases hr with rfl | rfl <;> first | exact ⟨hr0, by show 1 ≤ 100; omega⟩ | exact ⟨hr1, by show 1 ≤ 100; omega⟩⟩ (by omega)
  have Hof := Lib.hid hof
  clear hof hlit hsz hr0 hr1
  replace a0 := blk_old a0 hbs (blk_lt a0)
  replace hb := bnx hb hbs
  clear hbs
  go_wp2_with fail
  go_fit Hof.out
  unfold RetFm
  rintro e v ⟨A, n, c, rfl, hr, hbx⟩
  replace a0 := blk_old a0 hbx (blk_lt a0)
  replace hb := bnx hb hbx
  clear hbx Hof
  have hb' := below_setRow hb (Nat.le_refl _) (#[.string ⟨#[83, 89, 83, 84, 69, 77, 95, 84, 73, 77, 69]⟩, .slice A n c] : Array Value)
  have b0 := setRow_heap _ _ _ (#[.string ⟨#[83, 89, 83, 84, 69, 77, 95, 84, 73, 77, 69]⟩, .slice A n c] : Array Value) _ _ a0
  have hrq : RdP (v.setRow w.heap.size #[.string ⟨#[83, 89, 83, 84, 69, 77, 95, 84, 73, 77, 69]⟩, .slice A n c]) (v.setRow w.heap.size #[.string ⟨#[83, 89, 83, 84, 69, 77, 95, 84, 73, 77, 69]⟩, .slice A n c]).heap.size A n c fm2.2 := rdP_set hr a0 (#[.string ⟨#[83, 89, 83, 84, 69, 77, 95, 84, 73, 77, 69]⟩, .slice A n c] : Array Value)
  go_wp2_with (first | (with_reducible refine stop_storeT 65 ?_))
  refine go_ (wpList_store_row rfl _ _ _ rfl w.heap.size #[.string ⟨#[83, 89, 83, 84, 69, 77, 95, 84, 73, 77, 69]⟩, .slice A n c] rfl rfl _ _ a0 (by kernel_rfl) rfl (by kernel_rfl) ?_)
  generalize (v.setRow w.heap.size #[.string ⟨#[83, 89, 83, 84, 69, 77, 95, 84, 73, 77, 69]⟩, .slice A n c]) = w9 at *
  have e0 := blk_cell (i := 0) (v := .string ⟨#[83, 89, 83, 84, 69, 77, 95, 84, 73, 77, 69]⟩) b0 rfl
  have e1 := blk_cell (i := 1) (v := .slice A n c) b0 rfl
  clear hr a0 b0 hb
  go_wp2
  exact bodyPost_ret (v := .agg #[.string ⟨#[83, 89, 83, 84, 69, 77, 95, 84, 73, 77, 69]⟩, .slice A n c]) (by simp [results, go_sem, e0, e1]) rfl ⟨A, n, c, rfl, hrq, hb'⟩
set_option maxRecDepth 20000 in
set_option maxHeartbeats 4000000 in
theorem state_4 (w : World) : Calls Try.prog 72 #[.int .i64 4] w (RetFm fm4 w) := by
  have a0 := heap_alloc_new w (.cells #[.string ⟨#[]⟩, .slice none 0 0] 65)
  have hb : Below w.heap.size w (w.alloc (.cells #[.string ⟨#[]⟩, .slice none 0 0] 65)) := (Below.refl _ _).alloc (Nat.le_refl _) _
  have hz : (w.alloc (.cells #[.string ⟨#[]⟩, .slice none 0 0] 65)).heap.size = w.heap.size + 1 := World.size_alloc _ _
  have Hz := Lib.hid hz
  clear hz
  go_enter Try.func72, Try.ntmps72
  have hS := strs_lit (w.alloc (.cells #[.string ⟨#[]⟩, .slice none 0 0] 65)) [⟨#[116, 105, 109, 101, 95, 117, 115, 101, 99]⟩] #[.string ⟨#[116, 105, 109, 101, 95, 117, 115, 101, 99]⟩] rfl 1 rfl (by omega)
  have hbs := (Below.refl (w.alloc (.cells #[.string ⟨#[]⟩, .slice none 0 0] 65)).heap.size (w.alloc (.cells #[.string ⟨#[]⟩, .slice none 0 0] 65))).alloc (Nat.le_refl _) (.cells #[.string ⟨#[116, 105, 109, 101, 95, 117, 115, 101, 99]⟩] 9)
  rw [Hz.out] at hS
  have HS := Lib.hid hS
  clear hS
  go_wp2_with fail
  go_fit (u64_any (some ⟨w.heap.size + 1, 0, none⟩) 1 1 [⟨#[116, 105, 109, 101, 95, 117, 115, 101, 99]⟩] _ HS.out (by omega))
  unfold RetP
  rintro e u0 ⟨A0, n0, c0, rfl, hl, own, hbx⟩
  obtain rfl : n0 = 1 := hl
  have hbq := bnx hbs hbx
  replace a0 := blk_old a0 hbq (blk_lt a0)
  replace hb := bnx hb hbq
  have hr0 : RdP u0 u0.heap.size A0 1 c0 (mkP 8 false [⟨#[116, 105, 109, 101, 95, 117, 115, 101, 99]⟩]) := RdP.own own rfl
  clear own hbx hbq HS hbs
  have hS := strs_lit u0 [⟨#[115, 101, 113]⟩] #[.string ⟨#[115, 101, 113]⟩] rfl 1 rfl (by omega)
  have hbs := (Below.refl u0.heap.size u0).alloc (Nat.le_refl _) (.cells #[.string ⟨#[115, 101, 113]⟩] 9)
  have HS := Lib.hid hS
  clear hS
  go_wp2_with fail
  go_fit (u32_any (some ⟨u0.heap.size, 0, none⟩) 1 1 [⟨#[115, 101, 113]⟩] _ HS.out (by omega))
  unfold RetP
  rintro e u1 ⟨A1, n1, c1, rfl, hl, own, hbx⟩
  obtain rfl : n1 = 1 := hl
  have hbq := bnx hbs hbx
  replace a0 := blk_old a0 hbq (blk_lt a0)
  replace hb := bnx hb hbq
  replace hr0 : RdP _ _ A0 1 c0 _ := RdR.nx hr0 hbq
  have hr1 : RdP u1 u1.heap.size A1 1 c1 (mkP 4 false [⟨#[115, 101, 113]⟩]) := RdP.own own rfl
  clear own hbx hbq HS hbs
  have hS := strs_lit u1 [⟨#[116, 97, 114, 103, 101, 116, 95, 115, 121, 115, 116, 101, 109]⟩, ⟨#[116, 97, 114, 103, 101, 116, 95, 99, 111, 109, 112, 111, 110, 101, 110, 116]⟩] #[.string ⟨#[116, 97, 114, 103, 101, 116, 95, 115, 121, 115, 116, 101, 109]⟩, .string ⟨#[116, 97, 114, 103, 101, 116, 95, 99, 111, 109, 112, 111, 110, 101, 110, 116]⟩] rfl 2 rfl (by omega)
  have hbs := (Below.refl u1.heap.size u1).alloc (Nat.le_refl _) (.cells #[.string ⟨#[116, 97, 114, 103, 101, 116, 95, 115, 121, 115, 116, 101, 109]⟩, .string ⟨#[116, 97, 114, 103, 101, 116, 95, 99, 111, 109, 112, 111, 110, 101, 110, 116]⟩] 9)
  have HS := Lib.hid hS
  clear hS
  go_wp2_with fail
  go_fit (u8_any (some ⟨u1.heap.size, 0, none⟩) 2 2 [⟨#[116, 97, 114, 103, 101, 116, 95, 115, 121, 115, 116, 101, 109]⟩, ⟨#[116, 97, 114, 103, 101, 116, 95, 99, 111, 109, 112, 111, 110, 101, 110, 116]⟩] _ HS.out (by omega))
  unfold RetP
  rintro e u2 ⟨A2, n2, c2, rfl, hl, own, hbx⟩
  obtain rfl : n2 = 2 := hl
  have hbq := bnx hbs hbx
  replace a0 := blk_old a0 hbq (blk_lt a0)
  replace hb := bnx hb hbq
  replace hr0 : RdP _ _ A0 1 c0 _ := RdR.nx hr0 hbq
  replace hr1 : RdP _ _ A1 1 c1 _ := RdR.nx hr1 hbq
  have hr2 : RdP u2 u2.heap.size A2 2 c2 (mkP 1 false [⟨#[116, 97, 114, 103, 101, 116, 95, 115, 121, 115, 116, 101, 109]⟩, ⟨#[116, 97, 114, 103, 101, 116, 95, 99, 111, 109, 112, 111, 110, 101, 110, 116]⟩]) := RdP.own own rfl
  clear own hbx hbq HS hbs
  have hbs := (Below.refl u2.heap.size u2).alloc (Nat.le_refl _) (.cells #[.slice A0 1 c0, .slice A1 1 c1, .slice A2 2 c2] 22)
  replace hr0 : RdP _ _ A0 1 c0 _ := RdR.nx hr0 hbs
  replace hr1 : RdP _ _ A1 1 c1 _ := RdR.nx hr1 hbs
  replace hr2 : RdP _ _ A2 2 c2 _ := RdR.nx hr2 hbs
  have hsz : (u2.alloc (.cells #[.slice A0 1 c0, .slice A1 1 c1, .slice A2 2 c2] 22)).heap.size = u2.heap.size + 1 := World.size_alloc _ _
  have hlit := RdR.lit (size := 1) (e := 22) u2 [[.slice A0 1 c0], [.slice A1 1 c1], [.slice A2 2 c2]] #[.slice A0 1 c0, .slice A1 1 c1, .slice A2 2 c2] rfl (by intro r hr; simp only [List.mem_cons, List.not_mem_nil, or_false] at hr; rcases hr with rfl | rfl | rfl <;> rfl) (by simp [maxLen]) 3 rfl
  rw [← hsz] at hlit
  have hof := of_any ⟨#[80, 73, 78, 71]⟩ (some ⟨u2.heap.size, 0, none⟩) 3 3 [⟨A0, 1, c0, (mkP 8 false [⟨#[116, 105, 109, 101, 95, 117, 115, 101, 99]⟩])⟩, ⟨A1, 1, c1, (mkP 4 false [⟨#[115, 101, 113]⟩])⟩, ⟨A2, 2, c2, (mkP 1 false [⟨#[116, 97, 114, 103, 101, 116, 95, 115, 121, 115, 116, 101, 109]⟩, ⟨#[116, 97, 114, 103, 101, 116, 95, 99, 111, 109, 112, 111, 110, 101, 110, 116]⟩])⟩] (u2.alloc (.cells #[.slice A0 1 c0, .slice A1 1 c1, .slice A2 2 c2] 22)) ⟨hlit, by intro r hr; simp only [List.mem_cons, List.not_mem_nil, or_false] at hr; rcases hr with rfl | rfl | rfl <;> first | exact ⟨hr0, by show 1 ≤ 100; omega⟩ | exact ⟨hr1, by show 1 ≤ 100; omega⟩ | exact ⟨hr2, by show 2 ≤ 100; omega⟩⟩ (by omega)
  have Hof := Lib.hid hof
  clear hof hlit hsz hr0 hr1 hr2
  replace a0 := blk_old a0 hbs (blk_lt a0)
  replace hb := bnx hb hbs
  clear hbs
  go_wp2_with fail
  go_fit Hof.out
  unfold RetFm
  rintro e v ⟨A, n, c, rfl, hr, hbx⟩
  replace a0 := blk_old a0 hbx (blk_lt a0)
  replace hb := bnx hb hbx
  clear hbx Hof
  have hb' := below_setRow hb (Nat.le_refl _) (#[.string ⟨#[80, 73, 78, 71]⟩, .slice A n c] : Array Value)
  have b0 := setRow_heap _ _ _ (#[.string ⟨#[80, 73, 78, 71]⟩, .slice A n c] : Array Value) _ _ a0
  have hrq : RdP (v.setRow w.heap.size #[.string ⟨#[80, 73, 78, 71]⟩, .slice A n c]) (v.setRow w.heap.size #[.string ⟨#[80, 73, 78, 71]⟩, .slice A n c]).heap.size A n c fm4.2 := rdP_set hr a0 (#[.string ⟨#[80, 73, 78, 71]⟩, .slice A n c] : Array Value)
  go_wp2_with (first | (with_reducible refine stop_storeT 65 ?_))
  refine go_ (wpList_store_row rfl _ _ _ rfl w.heap.size #[.string ⟨#[80, 73, 78, 71]⟩, .slice A n c] rfl rfl _ _ a0 (by kernel_rfl) rfl (by kernel_rfl) ?_)
  generalize (v.setRow w.heap.size #[.string ⟨#[80, 73, 78, 71]⟩, .slice A n c]) = w9 at *
  have e0 := blk_cell (i := 0) (v := .string ⟨#[80, 73, 78, 71]⟩) b0 rfl
  have e1 := blk_cell (i := 1) (v := .slice A n c) b0 rfl
  clear hr a0 b0 hb
  go_wp2
  exact bodyPost_ret (v := .agg #[.string ⟨#[80, 73, 78, 71]⟩, .slice A n c]) (by simp [results, go_sem, e0, e1]) rfl ⟨A, n, c, rfl, hrq, hb'⟩
set_option maxRecDepth 20000 in
set_option maxHeartbeats 4000000 in
theorem state_111 (w : World) : Calls Try.prog 72 #[.int .i64 111] w (RetFm fm111 w) := by
  have a0 := heap_alloc_new w (.cells #[.string ⟨#[]⟩, .slice none 0 0] 65)
  have hb : Below w.heap.size w (w.alloc (.cells #[.string ⟨#[]⟩, .slice none 0 0] 65)) := (Below.refl _ _).alloc (Nat.le_refl _) _
  have hz : (w.alloc (.cells #[.string ⟨#[]⟩, .slice none 0 0] 65)).heap.size = w.heap.size + 1 := World.size_alloc _ _
  have Hz := Lib.hid hz
  clear hz
  go_enter Try.func72, Try.ntmps72
  have hS := strs_lit (w.alloc (.cells #[.string ⟨#[]⟩, .slice none 0 0] 65)) [⟨#[116, 99, 49]⟩, ⟨#[116, 115, 49]⟩] #[.string ⟨#[116, 99, 49]⟩, .string ⟨#[116, 115, 49]⟩] rfl 2 rfl (by omega)
  have hbs := (Below.refl (w.alloc (.cells #[.string ⟨#[]⟩, .slice none 0 0] 65)).heap.size (w.alloc (.cells #[.string ⟨#[]⟩, .slice none 0 0] 65))).alloc (Nat.le_refl _) (.cells #[.string ⟨#[116, 99, 49]⟩, .string ⟨#[116, 115, 49]⟩] 9)
  rw [Hz.out] at hS
  have HS := Lib.hid hS
  clear hS
  go_wp2_with fail
  go_fit (i64_any (some ⟨w.heap.size + 1, 0, none⟩) 2 2 [⟨#[116, 99, 49]⟩, ⟨#[116, 115, 49]⟩] _ HS.out (by omega))
  unfold RetP
  rintro e u0 ⟨A0, n0, c0, rfl, hl, own, hbx⟩
  obtain rfl : n0 = 2 := hl
  have hbq := bnx hbs hbx
  replace a0 := blk_old a0 hbq (blk_lt a0)
  replace hb := bnx hb hbq
  have hr0 : RdP u0 u0.heap.size A0 2 c0 (mkP 8 true [⟨#[116, 99, 49]⟩, ⟨#[116, 115, 49]⟩]) := RdP.own own rfl
  clear own hbx hbq HS hbs
  have hbs := (Below.refl u0.heap.size u0).alloc (Nat.le_refl _) (.cells #[.slice A0 2 c0] 22)
  replace hr0 : RdP _ _ A0 2 c0 _ := RdR.nx hr0 hbs
  have hsz : (u0.alloc (.cells #[.slice A0 2 c0] 22)).heap.size = u0.heap.size + 1 := World.size_alloc _ _
  have hlit := RdR.lit (size := 1) (e := 22) u0 [[.slice A0 2 c0]] #[.slice A0 2 c0] rfl (by intro r hr; simp only [List.mem_cons, List.not_mem_nil, or_false] at hr; rcases hr with rfl <;> rfl) (by simp [maxLen]) 1 rfl
  rw [← hsz] at hlit
  have hof := of_any ⟨#[84, 73, 77, 69, 83, 89, 78, 67]⟩ (some ⟨u0.heap.size, 0, none⟩) 1 1 [⟨A0, 2, c0, (mkP 8 true [⟨#[116, 99, 49]⟩, ⟨#[116, 115, 49]⟩])⟩] (u0.alloc (.cells #[.slice A0 2 c0] 22)) ⟨hlit, by intro r hr; simp only [List.mem_cons, List.not_mem_nil, or_false] at hr; rcases hr with rfl <;> first | exact ⟨hr0, by show 2 ≤ 100; omega⟩⟩ (by omega)
  have Hof := Lib.hid hof
  clear hof hlit hsz hr0
  replace a0 := blk_old a0 hbs (blk_lt a0)
  replace hb := bnx hb hbs
  clear hbs
  go_wp2_with fail
  go_fit Hof.out
  unfold RetFm
  rintro e v ⟨A, n, c, rfl, hr, hbx⟩
  replace a0 := blk_old a0 hbx (blk_lt a0)
  replace hb := bnx hb hbx
  clear hbx Hof
  have hb' := below_setRow hb (Nat.le_refl _) (#[.string ⟨#[84, 73, 77, 69, 83, 89, 78, 67]⟩, .slice A n c] : Array Value)
  have b0 := setRow_heap _ _ _ (#[.string ⟨#[84, 73, 77, 69, 83, 89, 78, 67]⟩, .slice A n c] : Array Value) _ _ a0
  have hrq : RdP (v.setRow w.heap.size #[.string ⟨#[84, 73, 77, 69, 83, 89, 78, 67]⟩, .slice A n c]) (v.setRow w.heap.size #[.string ⟨#[84, 73, 77, 69, 83, 89, 78, 67]⟩, .slice A n c]).heap.size A n c fm111.2 := rdP_set hr a0 (#[.string ⟨#[84, 73, 77, 69, 83, 89, 78, 67]⟩, .slice A n c] : Array Value)
  go_wp2_with (first | (with_reducible refine stop_storeT 65 ?_))
  refine go_ (wpList_store_row rfl _ _ _ rfl w.heap.size #[.string ⟨#[84, 73, 77, 69, 83, 89, 78, 67]⟩, .slice A n c] rfl rfl _ _ a0 (by kernel_rfl) rfl (by kernel_rfl) ?_)
  generalize (v.setRow w.heap.size #[.string ⟨#[84, 73, 77, 69, 83, 89, 78, 67]⟩, .slice A n c]) = w9 at *
  have e0 := blk_cell (i := 0) (v := .string ⟨#[84, 73, 77, 69, 83, 89, 78, 67]⟩) b0 rfl
  have e1 := blk_cell (i := 1) (v := .slice A n c) b0 rfl
  clear hr a0 b0 hb
  go_wp2
  exact bodyPost_ret (v := .agg #[.string ⟨#[84, 73, 77, 69, 83, 89, 78, 67]⟩, .slice A n c]) (by simp [results, go_sem, e0, e1]) rfl ⟨A, n, c, rfl, hrq, hb'⟩
set_option maxRecDepth 20000 in
set_option maxHeartbeats 4000000 in
theorem state_125 (w : World) : Calls Try.prog 72 #[.int .i64 125] w (RetFm fm125 w) := by
  have a0 := heap_alloc_new w (.cells #[.string ⟨#[]⟩, .slice none 0 0] 65)
  have hb : Below w.heap.size w (w.alloc (.cells #[.string ⟨#[]⟩, .slice none 0 0] 65)) := (Below.refl _ _).alloc (Nat.le_refl _) _
  have hz : (w.alloc (.cells #[.string ⟨#[]⟩, .slice none 0 0] 65)).heap.size = w.heap.size + 1 := World.size_alloc _ _
  have Hz := Lib.hid hz
  clear hz
  go_enter Try.func72, Try.ntmps72
  have hS := strs_lit (w.alloc (.cells #[.string ⟨#[]⟩, .slice none 0 0] 65)) [⟨#[86, 99, 99]⟩, ⟨#[86, 115, 101, 114, 118, 111]⟩, ⟨#[102, 108, 97, 103, 115]⟩] #[.string ⟨#[86, 99, 99]⟩, .string ⟨#[86, 115, 101, 114, 118, 111]⟩, .string ⟨#[102, 108, 97, 103, 115]⟩] rfl 3 rfl (by omega)
  have hbs := (Below.refl (w.alloc (.cells #[.string ⟨#[]⟩, .slice none 0 0] 65)).heap.size (w.alloc (.cells #[.string ⟨#[]⟩, .slice none 0 0] 65))).alloc (Nat.le_refl _) (.cells #[.string ⟨#[86, 99, 99]⟩, .string ⟨#[86, 115, 101, 114, 118, 111]⟩, .string ⟨#[102, 108, 97, 103, 115]⟩] 9)
  rw [Hz.out] at hS
  have HS := Lib.hid hS
  clear hS
  go_wp2_with fail
  go_fit (u16_any (some ⟨w.heap.size + 1, 0, none⟩) 3 3 [⟨#[86, 99, 99]⟩, ⟨#[86, 115, 101, 114, 118, 111]⟩, ⟨#[102, 108, 97, 103, 115]⟩] _ HS.out (by omega))
  unfold RetP
  rintro e u0 ⟨A0, n0, c0, rfl, hl, own, hbx⟩
  obtain rfl : n0 = 3 := hl
  have hbq := bnx hbs hbx
  replace a0 := blk_old a0 hbq (blk_lt a0)
  replace hb := bnx hb hbq
  have hr0 : RdP u0 u0.heap.size A0 3 c0 (mkP 2 false [⟨#[86, 99, 99]⟩, ⟨#[86, 115, 101, 114, 118, 111]⟩, ⟨#[102, 108, 97, 103, 115]⟩]) := RdP.own own rfl
  clear own hbx hbq HS hbs
  have hbs := (Below.refl u0.heap.size u0).alloc (Nat.le_refl _) (.cells #[.slice A0 3 c0] 22)
  replace hr0 : RdP _ _ A0 3 c0 _ := RdR.nx hr0 hbs
  have hsz : (u0.alloc (.cells #[.slice A0 3 c0] 22)).heap.size = u0.heap.size + 1 := World.size_alloc _ _
  have hlit := RdR.lit (size := 1) (e := 22) u0 [[.slice A0 3 c0]] #[.slice A0 3 c0] rfl (by intro r hr; simp only [List.mem_cons, List.not_mem_nil, or_false] at hr; rcases hr with rfl <;> rfl) (by simp [maxLen]) 1 rfl
  rw [← hsz] at hlit
  have hof := of_any ⟨#[80, 79, 87, 69, 82, 95, 83, 84, 65, 84, 85, 83]⟩ (some ⟨u0.heap.size, 0, none⟩) 1 1 [⟨A0, 3, c0, (mkP 2 false [⟨#[86, 99, 99]⟩, ⟨#[86, 115, 101, 114, 118, 111]⟩, ⟨#[102, 108, 97, 103, 115]⟩])⟩] (u0.alloc (.cells #[.slice A0 3 c0] 22)) ⟨hlit, by intro r hr; simp only [List.mem_cons, List.not_mem_nil, or_false] at hr; rcases hr with rfl <;> first | exact ⟨hr0, by show 3 ≤ 100; omega⟩⟩ (by omega)
  have Hof := Lib.hid hof
  clear hof hlit hsz hr0
  replace a0 := blk_old a0 hbs (blk_lt a0)
  replace hb := bnx hb hbs
  clear hbs
  go_wp2_with fail
  go_fit Hof.out
  unfold RetFm
  rintro e v ⟨A, n, c, rfl, hr, hbx⟩
  replace a0 := blk_old a0 hbx (blk_lt a0)
  replace hb := bnx hb hbx
  clear hbx Hof
  have hb' := below_setRow hb (Nat.le_refl _) (#[.string ⟨#[80, 79, 87, 69, 82, 95, 83, 84, 65, 84, 85, 83]⟩, .slice A n c] : Array Value)
  have b0 := setRow_heap _ _ _ (#[.string ⟨#[80, 79, 87, 69, 82, 95, 83, 84, 65, 84, 85, 83]⟩, .slice A n c] : Array Value) _ _ a0
  have hrq : RdP (v.setRow w.heap.size #[.string ⟨#[80, 79, 87, 69, 82, 95, 83, 84, 65, 84, 85, 83]⟩, .slice A n c]) (v.setRow w.heap.size #[.string ⟨#[80, 79, 87, 69, 82, 95, 83, 84, 65, 84, 85, 83]⟩, .slice A n c]).heap.size A n c fm125.2 := rdP_set hr a0 (#[.string ⟨#[80, 79, 87, 69, 82, 95, 83, 84, 65, 84, 85, 83]⟩, .slice A n c] : Array Value)
  go_wp2_with (first | (with_reducible refine stop_storeT 65 ?_))
  refine go_ (wpList_store_row rfl _ _ _ rfl w.heap.size #[.string ⟨#[80, 79, 87, 69, 82, 95, 83, 84, 65, 84, 85, 83]⟩, .slice A n c] rfl rfl _ _ a0 (by kernel_rfl) rfl (by kernel_rfl) ?_)
  generalize (v.setRow w.heap.size #[.string ⟨#[80, 79, 87, 69, 82, 95, 83, 84, 65, 84, 85, 83]⟩, .slice A n c]) = w9 at *
  have e0 := blk_cell (i := 0) (v := .string ⟨#[80, 79, 87, 69, 82, 95, 83, 84, 65, 84, 85, 83]⟩) b0 rfl
  have e1 := blk_cell (i := 1) (v := .slice A n c) b0 rfl
  clear hr a0 b0 hb
  go_wp2
  exact bodyPost_ret (v := .agg #[.string ⟨#[80, 79, 87, 69, 82, 95, 83, 84, 65, 84, 85, 83]⟩, .slice A n c]) (by simp [results, go_sem, e0, e1]) rfl ⟨A, n, c, rfl, hrq, hb'⟩
set_option maxRecDepth 20000 in
set_option maxHeartbeats 4000000 in
theorem state_no (id : Int) (h0 : ¬ id = 0) (h1 : ¬ id = 1) (h2 : ¬ id = 2) (h4 : ¬ id = 4) (h111 : ¬ id = 111) (h125 : ¬ id = 125) (w : World) : Calls Try.prog 72 #[.int .i64 id] w (RetFm fmNone w) := by
  have q0 : (id == 0) = false := by rw [beq_eq_false_iff_ne]; exact h0
  have q1 : (id == 1) = false := by rw [beq_eq_false_iff_ne]; exact h1
  have q2 : (id == 2) = false := by rw [beq_eq_false_iff_ne]; exact h2
  have q4 : (id == 4) = false := by rw [beq_eq_false_iff_ne]; exact h4
  have q111 : (id == 111) = false := by rw [beq_eq_false_iff_ne]; exact h111
  have q125 : (id == 125) = false := by rw [beq_eq_false_iff_ne]; exact h125
  have a0 := heap_alloc_new w (.cells #[.string ⟨#[]⟩, .slice none 0 0] 65)
  have hb : Below w.heap.size w (w.alloc (.cells #[.string ⟨#[]⟩, .slice none 0 0] 65)) := (Below.refl _ _).alloc (Nat.le_refl _) _
  have hb' := below_setRow hb (Nat.le_refl _) (#[.string ⟨#[]⟩, .slice none 0 0] : Array Value)
  have b0 := setRow_heap _ _ _ (#[.string ⟨#[]⟩, .slice none 0 0] : Array Value) _ _ a0
  go_enter Try.func72, Try.ntmps72
  go_wp2_with (first | (with_reducible refine stop_buildF 65 ?_))
  refine go_ ?_
  generalize (w.alloc (.cells #[.string ⟨#[]⟩, .slice none 0 0] 65)) = v at *
  go_wp2_with (first | (with_reducible refine stop_storeT 65 ?_))
  refine go_ (wpList_store_row rfl _ _ _ rfl w.heap.size #[.string ⟨#[]⟩, .slice none 0 0] rfl rfl _ _ a0 (by kernel_rfl) rfl (by kernel_rfl) ?_)
  generalize (v.setRow w.heap.size #[.string ⟨#[]⟩, .slice none 0 0]) = w9 at *
  have e0 := blk_cell (i := 0) (v := .string ⟨#[]⟩) b0 rfl
  have e1 := blk_cell (i := 1) (v := .slice none 0 0) b0 rfl
  clear a0 b0 hb
  go_wp2
  exact bodyPost_ret (v := .agg #[.string ⟨#[]⟩, .slice none 0 0]) (by simp [results, go_sem, e0, e1]) rfl ⟨none, 0, 0, rfl, RdR.none_ _ _ _, hb'⟩
theorem state_any (id : Int) (w : World) : Calls Try.prog 72 #[.int .i64 id] w (RetFm (frmS id) w) := by
  unfold frmS
  by_cases h0 : id = 0
  · subst h0
    rw [if_pos rfl]
    exact state_0 w
  rw [if_neg h0]
  by_cases h1 : id = 1
  · subst h1
    rw [if_pos rfl]
    exact state_1 w
  rw [if_neg h1]
  by_cases h2 : id = 2
  · subst h2
    rw [if_pos rfl]
    exact state_2 w
  rw [if_neg h2]
  by_cases h4 : id = 4
  · subst h4
    rw [if_pos rfl]
    exact state_4 w
  rw [if_neg h4]
  by_cases h111 : id = 111
  · subst h111
    rw [if_pos rfl]
    exact state_111 w
  rw [if_neg h111]
  by_cases h125 : id = 125
  · subst h125
    rw [if_pos rfl]
    exact state_125 w
  rw [if_neg h125]
  exact state_no id h0 h1 h2 h4 h111 h125 w

end Go.Proofs.Ytonejdjhdjckjaa

/-
  the forms of sensed walked (printed by gen_sch3.py).
-/
set_option linter.unusedSimpArgs false
set_option linter.unusedVariables false
namespace Go.Proofs.Ytonejdjhdjckjaa
open Go.RowKit NumLaw
attribute [local go_sem] Addr.add_mid

set_option maxRecDepth 20000 in
set_option maxHeartbeats 4000000 in
theorem sensed_24 (w : World) : Calls Try.prog 73 #[.int .i64 24] w (RetFm fm24 w) := by
  have a0 := heap_alloc_new w (.cells #[.string ⟨#[]⟩, .slice none 0 0] 65)
  have hb : Below w.heap.size w (w.alloc (.cells #[.string ⟨#[]⟩, .slice none 0 0] 65)) := (Below.refl _ _).alloc (Nat.le_refl _) _
  have hz : (w.alloc (.cells #[.string ⟨#[]⟩, .slice none 0 0] 65)).heap.size = w.heap.size + 1 := World.size_alloc _ _
  have Hz := Lib.hid hz
  clear hz
  go_enter Try.func73, Try.ntmps73
  have hS := strs_lit (w.alloc (.cells #[.string ⟨#[]⟩, .slice none 0 0] 65)) [⟨#[116, 105, 109, 101, 95, 117, 115, 101, 99]⟩] #[.string ⟨#[116, 105, 109, 101, 95, 117, 115, 101, 99]⟩] rfl 1 rfl (by omega)
  have hbs := (Below.refl (w.alloc (.cells #[.string ⟨#[]⟩, .slice none 0 0] 65)).heap.size (w.alloc (.cells #[.string ⟨#[]⟩, .slice none 0 0] 65))).alloc (Nat.le_refl _) (.cells #[.string ⟨#[116, 105, 109, 101, 95, 117, 115, 101, 99]⟩] 9)
  rw [Hz.out] at hS
  have HS := Lib.hid hS
  clear hS
  go_wp2_with fail
  go_fit (u64_any (some ⟨w.heap.size + 1, 0, none⟩) 1 1 [⟨#[116, 105, 109, 101, 95, 117, 115, 101, 99]⟩] _ HS.out (by omega))
  unfold RetP
  rintro e u0 ⟨A0, n0, c0, rfl, hl, own, hbx⟩
  obtain rfl : n0 = 1 := hl
  have hbq := bnx hbs hbx
  replace a0 := blk_old a0 hbq (blk_lt a0)
  replace hb := bnx hb hbq
  have hr0 : RdP u0 u0.heap.size A0 1 c0 (mkP 8 false [⟨#[116, 105, 109, 101, 95, 117, 115, 101, 99]⟩]) := RdP.own own rfl
  clear own hbx hbq HS hbs
  have hS := strs_lit u0 [⟨#[102, 105, 120, 95, 116, 121, 112, 101]⟩] #[.string ⟨#[102, 105, 120, 95, 116, 121, 112, 101]⟩] rfl 1 rfl (by omega)
  have hbs := (Below.refl u0.heap.size u0).alloc (Nat.le_refl _) (.cells #[.string ⟨#[102, 105, 120, 95, 116, 121, 112, 101]⟩] 9)
  have HS := Lib.hid hS
  clear hS
  go_wp2_with fail
  go_fit (u8_any (some ⟨u0.heap.size, 0, none⟩) 1 1 [⟨#[102, 105, 120, 95, 116, 121, 112, 101]⟩] _ HS.out (by omega))
  unfold RetP
  rintro e u1 ⟨A1, n1, c1, rfl, hl, own, hbx⟩
  obtain rfl : n1 = 1 := hl
  have hbq := bnx hbs hbx
  replace a0 := blk_old a0 hbq (blk_lt a0)
  replace hb := bnx hb hbq
  replace hr0 : RdP _ _ A0 1 c0 _ := RdR.nx hr0 hbq
  have hr1 : RdP u1 u1.heap.size A1 1 c1 (mkP 1 false [⟨#[102, 105, 120, 95, 116, 121, 112, 101]⟩]) := RdP.own own rfl
  clear own hbx hbq HS hbs
  have hS := strs_lit u1 [⟨#[108, 97, 116]⟩, ⟨#[108, 111, 110]⟩, ⟨#[97, 108, 116]⟩] #[.string ⟨#[108, 97, 116]⟩, .string ⟨#[108, 111, 110]⟩, .string ⟨#[97, 108, 116]⟩] rfl 3 rfl (by omega)
  have hbs := (Below.refl u1.heap.size u1).alloc (Nat.le_refl _) (.cells #[.string ⟨#[108, 97, 116]⟩, .string ⟨#[108, 111, 110]⟩, .string ⟨#[97, 108, 116]⟩] 9)
  have HS := Lib.hid hS
  clear hS
  go_wp2_with fail
  go_fit (i32_any (some ⟨u1.heap.size, 0, none⟩) 3 3 [⟨#[108, 97, 116]⟩, ⟨#[108, 111, 110]⟩, ⟨#[97, 108, 116]⟩] _ HS.out (by omega))
  unfold RetP
  rintro e u2 ⟨A2, n2, c2, rfl, hl, own, hbx⟩
  obtain rfl : n2 = 3 := hl
  have hbq := bnx hbs hbx
  replace a0 := blk_old a0 hbq (blk_lt a0)
  replace hb := bnx hb hbq
  replace hr0 : RdP _ _ A0 1 c0 _ := RdR.nx hr0 hbq
  replace hr1 : RdP _ _ A1 1 c1 _ := RdR.nx hr1 hbq
  have hr2 : RdP u2 u2.heap.size A2 3 c2 (mkP 4 true [⟨#[108, 97, 116]⟩, ⟨#[108, 111, 110]⟩, ⟨#[97, 108, 116]⟩]) := RdP.own own rfl
  clear own hbx hbq HS hbs
  have hS := strs_lit u2 [⟨#[101, 112, 104]⟩, ⟨#[101, 112, 118]⟩, ⟨#[118, 101, 108]⟩, ⟨#[99, 111, 103]⟩] #[.string ⟨#[101, 112, 104]⟩, .string ⟨#[101, 112, 118]⟩, .string ⟨#[118, 101, 108]⟩, .string ⟨#[99, 111, 103]⟩] rfl 4 rfl (by omega)
  have hbs := (Below.refl u2.heap.size u2).alloc (Nat.le_refl _) (.cells #[.string ⟨#[101, 112, 104]⟩, .string ⟨#[101, 112, 118]⟩, .string ⟨#[118, 101, 108]⟩, .string ⟨#[99, 111, 103]⟩] 9)
  have HS := Lib.hid hS
  clear hS
  go_wp2_with fail
  go_fit (u16_any (some ⟨u2.heap.size, 0, none⟩) 4 4 [⟨#[101, 112, 104]⟩, ⟨#[101, 112, 118]⟩, ⟨#[118, 101, 108]⟩, ⟨#[99, 111, 103]⟩] _ HS.out (by omega))
  unfold RetP
  rintro e u3 ⟨A3, n3, c3, rfl, hl, own, hbx⟩
  obtain rfl : n3 = 4 := hl
  have hbq := bnx hbs hbx
  replace a0 := blk_old a0 hbq (blk_lt a0)
  replace hb := bnx hb hbq
  replace hr0 : RdP _ _ A0 1 c0 _ := RdR.nx hr0 hbq
  replace hr1 : RdP _ _ A1 1 c1 _ := RdR.nx hr1 hbq
  replace hr2 : RdP _ _ A2 3 c2 _ := RdR.nx hr2 hbq
  have hr3 : RdP u3 u3.heap.size A3 4 c3 (mkP 2 false [⟨#[101, 112, 104]⟩, ⟨#[101, 112, 118]⟩, ⟨#[118, 101, 108]⟩, ⟨#[99, 111, 103]⟩]) := RdP.own own rfl
  clear own hbx hbq HS hbs
  have hS := strs_lit u3 [⟨#[115, 97, 116, 101, 108, 108, 105, 116, 101, 115, 95, 118, 105, 115, 105, 98, 108, 101]⟩] #[.string ⟨#[115, 97, 116, 101, 108, 108, 105, 116, 101, 115, 95, 118, 105, 115, 105, 98, 108, 101]⟩] rfl 1 rfl (by omega)
  have hbs := (Below.refl u3.heap.size u3).alloc (Nat.le_refl _) (.cells #[.string ⟨#[115, 97, 116, 101, 108, 108, 105, 116, 101, 115, 95, 118, 105, 115, 105, 98, 108, 101]⟩] 9)
  have HS := Lib.hid hS
  clear hS
  go_wp2_with fail
  go_fit (u8_any (some ⟨u3.heap.size, 0, none⟩) 1 1 [⟨#[115, 97, 116, 101, 108, 108, 105, 116, 101, 115, 95, 118, 105, 115, 105, 98, 108, 101]⟩] _ HS.out (by omega))
  unfold RetP
  rintro e u4 ⟨A4, n4, c4, rfl, hl, own, hbx⟩
  obtain rfl : n4 = 1 := hl
  have hbq := bnx hbs hbx
  replace a0 := blk_old a0 hbq (blk_lt a0)
  replace hb := bnx hb hbq
  replace hr0 : RdP _ _ A0 1 c0 _ := RdR.nx hr0 hbq
  replace hr1 : RdP _ _ A1 1 c1 _ := RdR.nx hr1 hbq
  replace hr2 : RdP _ _ A2 3 c2 _ := RdR.nx hr2 hbq
  replace hr3 : RdP _ _ A3 4 c3 _ := RdR.nx hr3 hbq
  have hr4 : RdP u4 u4.heap.size A4 1 c4 (mkP 1 false [⟨#[115, 97, 116, 101, 108, 108, 105, 116, 101, 115, 95, 118, 105, 115, 105, 98, 108, 101]⟩]) := RdP.own own rfl
  clear own hbx hbq HS hbs
  have hbs := (Below.refl u4.heap.size u4).alloc (Nat.le_refl _) (.cells #[.slice A0 1 c0, .slice A1 1 c1, .slice A2 3 c2, .slice A3 4 c3, .slice A4 1 c4] 22)
  replace hr0 : RdP _ _ A0 1 c0 _ := RdR.nx hr0 hbs
  replace hr1 : RdP _ _ A1 1 c1 _ := RdR.nx hr1 hbs
  replace hr2 : RdP _ _ A2 3 c2 _ := RdR.nx hr2 hbs
  replace hr3 : RdP _ _ A3 4 c3 _ := RdR.nx hr3 hbs
  replace hr4 : RdP _ _ A4 1 c4 _ := RdR.nx hr4 hbs
  have hsz : (u4.alloc (.cells #[.slice A0 1 c0, .slice A1 1 c1, .slice A2 3 c2, .slice A3 4 c3, .slice A4 1 c4] 22)).heap.size = u4.heap.size + 1 := World.size_alloc _ _
  have hlit := RdR.lit (size := 1) (e := 22) u4 [[.slice A0 1 c0], [.slice A1 1 c1], [.slice A2 3 c2], [.slice A3 4 c3], [.slice A4 1 c4]] #[.slice A0 1 c0, .slice A1 1 c1, .slice A2 3 c2, .slice A3 4 c3, .slice A4 1 c4] rfl (by intro r hr; simp only [List.mem_cons, List.not_mem_nil, or_false] at hr; rcases hr with rfl | rfl | rfl | rfl | rfl <;> rfl) (by simp [maxLen]) 5 rfl
  rw [← hsz] at hlit
  have hof := of_any ⟨#[71, 80, 83, 95, 82, 65, 87, 95, 73, 78, 84]⟩ (some ⟨u4.heap.size, 0, none⟩) 5 5 [⟨A0, 1, c0, (mkP 8 false [⟨#[116, 105, 109, 101, 95, 117, 115, 101, 99]⟩])⟩, ⟨A1, 1, c1, (mkP 1 false [⟨#[102, 105, 120, 95, 116, 121, 112, 101]⟩])⟩, ⟨A2, 3, c2, (mkP 4 true [⟨#[108, 97, 116]⟩, ⟨#[108, 111, 110]⟩, ⟨#[97, 108, 116]⟩])⟩, ⟨A3, 4, c3, (mkP 2 false [⟨#[101, 112, 104]⟩, ⟨#[101, 112, 118]⟩, ⟨#[118, 101, 108]⟩, ⟨#[99, 111, 103]⟩])⟩, ⟨A4, 1, c4, (mkP 1 false [⟨#[115, 97, 116, 101, 108, 108, 105, 116, 101, 115, 95, 118, 105, 115, 105, 98, 108, 101]⟩])⟩] (u4.alloc (.cells #[.slice A0 1 c0, .slice A1 1 c1, .slice A2 3 c2, .slice A3 4 c3, .slice A4 1 c4] 22)) ⟨hlit, by intro r hr; simp only [List.mem_cons, List.not_mem_nil, or_false] at hr; rcases hr with rfl | rfl | rfl | rfl | rfl <;> first | exact ⟨hr0, by show 1 ≤ 100; omega⟩ | exact ⟨hr1, by show 1 ≤ 100; omega⟩ | exact ⟨hr2, by show 3 ≤ 100; omega⟩ | exact ⟨hr3, by show 4 ≤ 100; omega⟩ | exact ⟨hr4, by show 1 ≤ 100; omega⟩⟩ (by omega)
  have Hof := Lib.hid hof
  clear hof hlit hsz hr0 hr1 hr2 hr3 hr4
  replace a0 := blk_old a0 hbs (blk_lt a0)
  replace hb := bnx hb hbs
  clear hbs
  go_wp2_with fail
  go_fit Hof.out
  unfold RetFm
  rintro e v ⟨A, n, c, rfl, hr, hbx⟩
  replace a0 := blk_old a0 hbx (blk_lt a0)
  replace hb := bnx hb hbx
  clear hbx Hof
  have hb' := below_setRow hb (Nat.le_refl _) (#[.string ⟨#[71, 80, 83, 95, 82, 65, 87, 95, 73, 78, 84]⟩, .slice A n c] : Array Value)
  have b0 := setRow_heap _ _ _ (#[.string ⟨#[71, 80, 83, 95, 82, 65, 87, 95, 73, 78, 84]⟩, .slice A n c] : Array Value) _ _ a0
  have hrq : RdP (v.setRow w.heap.size #[.string ⟨#[71, 80, 83, 95, 82, 65, 87, 95, 73, 78, 84]⟩, .slice A n c]) (v.setRow w.heap.size #[.string ⟨#[71, 80, 83, 95, 82, 65, 87, 95, 73, 78, 84]⟩, .slice A n c]).heap.size A n c fm24.2 := rdP_set hr a0 (#[.string ⟨#[71, 80, 83, 95, 82, 65, 87, 95, 73, 78, 84]⟩, .slice A n c] : Array Value)
  go_wp2_with (first | (with_reducible refine stop_storeT 65 ?_))
  refine go_ (wpList_store_row rfl _ _ _ rfl w.heap.size #[.string ⟨#[71, 80, 83, 95, 82, 65, 87, 95, 73, 78, 84]⟩, .slice A n c] rfl rfl _ _ a0 (by kernel_rfl) rfl (by kernel_rfl) ?_)
  generalize (v.setRow w.heap.size #[.string ⟨#[71, 80, 83, 95, 82, 65, 87, 95, 73, 78, 84]⟩, .slice A n c]) = w9 at *
  have e0 := blk_cell (i := 0) (v := .string ⟨#[71, 80, 83, 95, 82, 65, 87, 95, 73, 78, 84]⟩) b0 rfl
  have e1 := blk_cell (i := 1) (v := .slice A n c) b0 rfl
  clear hr a0 b0 hb
  go_wp2
  exact bodyPost_ret (v := .agg #[.string ⟨#[71, 80, 83, 95, 82, 65, 87, 95, 73, 78, 84]⟩, .slice A n c]) (by simp [results, go_sem, e0, e1]) rfl ⟨A, n, c, rfl, hrq, hb'⟩
set_option maxRecDepth 20000 in
set_option maxHeartbeats 4000000 in
theorem sensed_25 (w : World) : Calls Try.prog 73 #[.int .i64 25] w (RetFm fm25 w) := by
  have a0 := heap_alloc_new w (.cells #[.string ⟨#[]⟩, .slice none 0 0] 65)
  have hb : Below w.heap.size w (w.alloc (.cells #[.string ⟨#[]⟩, .slice none 0 0] 65)) := (Below.refl _ _).alloc (Nat.le_refl _) _
  have hz : (w.alloc (.cells #[.string ⟨#[]⟩, .slice none 0 0] 65)).heap.size = w.heap.size + 1 := World.size_alloc _ _
  have Hz := Lib.hid hz
  clear hz
  go_enter Try.func73, Try.ntmps73
  have hS := strs_lit (w.alloc (.cells #[.string ⟨#[]⟩, .slice none 0 0] 65)) [⟨#[115, 97, 116, 101, 108, 108, 105, 116, 101, 115, 95, 118, 105, 115, 105, 98, 108, 101]⟩] #[.string ⟨#[115, 97, 116, 101, 108, 108, 105, 116, 101, 115, 95, 118, 105, 115, 105, 98, 108, 101]⟩] rfl 1 rfl (by omega)
  have hbs := (Below.refl (w.alloc (.cells #[.string ⟨#[]⟩, .slice none 0 0] 65)).heap.size (w.alloc (.cells #[.string ⟨#[]⟩, .slice none 0 0] 65))).alloc (Nat.le_refl _) (.cells #[.string ⟨#[115, 97, 116, 101, 108, 108, 105, 116, 101, 115, 95, 118, 105, 115, 105, 98, 108, 101]⟩] 9)
  rw [Hz.out] at hS
  have HS := Lib.hid hS
  clear hS
  go_wp2_with fail
  go_fit (u8_any (some ⟨w.heap.size + 1, 0, none⟩) 1 1 [⟨#[115, 97, 116, 101, 108, 108, 105, 116, 101, 115, 95, 118, 105, 115, 105, 98, 108, 101]⟩] _ HS.out (by omega))
  unfold RetP
  rintro e u0 ⟨A0, n0, c0, rfl, hl, own, hbx⟩
  obtain rfl : n0 = 1 := hl
  have hbq := bnx hbs hbx
  replace a0 := blk_old a0 hbq (blk_lt a0)
  replace hb := bnx hb hbq
  have hr0 : RdP u0 u0.heap.size A0 1 c0 (mkP 1 false [⟨#[115, 97, 116, 101, 108, 108, 105, 116, 101, 115, 95, 118, 105, 115, 105, 98, 108, 101]⟩]) := RdP.own own rfl
  clear own hbx hbq HS hbs
  have hS := strs_lit u0 [⟨#[115, 97, 116, 101, 108, 108, 105, 116, 101, 95, 112, 114, 110]⟩, ⟨#[115, 97, 116, 101, 108, 108, 105, 116, 101, 95, 117, 115, 101, 100]⟩, ⟨#[115, 97, 116, 101, 108, 108, 105, 116, 101, 95, 101, 108, 101, 118, 97, 116, 105, 111, 110]⟩, ⟨#[115, 97, 116, 101, 108, 108, 105, 116, 101, 95, 97, 122, 105, 109, 117, 116, 104]⟩, ⟨#[115, 97, 116, 101, 108, 108, 105, 116, 101, 95, 115, 110, 114]⟩] #[.string ⟨#[115, 97, 116, 101, 108, 108, 105, 116, 101, 95, 112, 114, 110]⟩, .string ⟨#[115, 97, 116, 101, 108, 108, 105, 116, 101, 95, 117, 115, 101, 100]⟩, .string ⟨#[115, 97, 116, 101, 108, 108, 105, 116, 101, 95, 101, 108, 101, 118, 97, 116, 105, 111, 110]⟩, .string ⟨#[115, 97, 116, 101, 108, 108, 105, 116, 101, 95, 97, 122, 105, 109, 117, 116, 104]⟩, .string ⟨#[115, 97, 116, 101, 108, 108, 105, 116, 101, 95, 115, 110, 114]⟩] rfl 5 rfl (by omega)
  have hbs := (Below.refl u0.heap.size u0).alloc (Nat.le_refl _) (.cells #[.string ⟨#[115, 97, 116, 101, 108, 108, 105, 116, 101, 95, 112, 114, 110]⟩, .string ⟨#[115, 97, 116, 101, 108, 108, 105, 116, 101, 95, 117, 115, 101, 100]⟩, .string ⟨#[115, 97, 116, 101, 108, 108, 105, 116, 101, 95, 101, 108, 101, 118, 97, 116, 105, 111, 110]⟩, .string ⟨#[115, 97, 116, 101, 108, 108, 105, 116, 101, 95, 97, 122, 105, 109, 117, 116, 104]⟩, .string ⟨#[115, 97, 116, 101, 108, 108, 105, 116, 101, 95, 115, 110, 114]⟩] 9)
  have HS := Lib.hid hS
  clear hS
  go_wp2_with fail
  go_fit (array_any 20 (some ⟨u0.heap.size, 0, none⟩) 5 5 [⟨#[115, 97, 116, 101, 108, 108, 105, 116, 101, 95, 112, 114, 110]⟩, ⟨#[115, 97, 116, 101, 108, 108, 105, 116, 101, 95, 117, 115, 101, 100]⟩, ⟨#[115, 97, 116, 101, 108, 108, 105, 116, 101, 95, 101, 108, 101, 118, 97, 116, 105, 111, 110]⟩, ⟨#[115, 97, 116, 101, 108, 108, 105, 116, 101, 95, 97, 122, 105, 109, 117, 116, 104]⟩, ⟨#[115, 97, 116, 101, 108, 108, 105, 116, 101, 95, 115, 110, 114]⟩] _ HS.out (by omega))
  unfold RetP
  rintro e u1 ⟨A1, n1, c1, rfl, hl, own, hbx⟩
  obtain rfl : n1 = 5 := hl
  have hbq := bnx hbs hbx
  replace a0 := blk_old a0 hbq (blk_lt a0)
  replace hb := bnx hb hbq
  replace hr0 : RdP _ _ A0 1 c0 _ := RdR.nx hr0 hbq
  have hr1 : RdP u1 u1.heap.size A1 5 c1 ((mkP 1 false [⟨#[115, 97, 116, 101, 108, 108, 105, 116, 101, 95, 112, 114, 110]⟩, ⟨#[115, 97, 116, 101, 108, 108, 105, 116, 101, 95, 117, 115, 101, 100]⟩, ⟨#[115, 97, 116, 101, 108, 108, 105, 116, 101, 95, 101, 108, 101, 118, 97, 116, 105, 111, 110]⟩, ⟨#[115, 97, 116, 101, 108, 108, 105, 116, 101, 95, 97, 122, 105, 109, 117, 116, 104]⟩, ⟨#[115, 97, 116, 101, 108, 108, 105, 116, 101, 95, 115, 110, 114]⟩]).map (setM 20)) := RdP.own own rfl
  clear own hbx hbq HS hbs
  have hbs := (Below.refl u1.heap.size u1).alloc (Nat.le_refl _) (.cells #[.slice A0 1 c0, .slice A1 5 c1] 22)
  replace hr0 : RdP _ _ A0 1 c0 _ := RdR.nx hr0 hbs
  replace hr1 : RdP _ _ A1 5 c1 _ := RdR.nx hr1 hbs
  have hsz : (u1.alloc (.cells #[.slice A0 1 c0, .slice A1 5 c1] 22)).heap.size = u1.heap.size + 1 := World.size_alloc _ _
  have hlit := RdR.lit (size := 1) (e := 22) u1 [[.slice A0 1 c0], [.slice A1 5 c1]] #[.slice A0 1 c0, .slice A1 5 c1] rfl (by intro r hr; simp only [List.mem_cons, List.not_mem_nil, or_false] at hr; rcases hr with rfl | rfl <;> rfl) (by simp [maxLen]) 2 rfl
  rw [← hsz] at hlit
  have hof := of_any ⟨#[71, 80, 83, 95, 83, 84, 65, 84, 85, 83]⟩ (some ⟨u1.heap.size, 0, none⟩) 2 2 [⟨A0, 1, c0, (mkP 1 false [⟨#[115, 97, 116, 101, 108, 108, 105, 116, 101, 115, 95, 118, 105, 115, 105, 98, 108, 101]⟩])⟩, ⟨A1, 5, c1, ((mkP 1 false [⟨#[115, 97, 116, 101, 108, 108, 105, 116, 101, 95, 112, 114, 110]⟩, ⟨#[115, 97, 116, 101, 108, 108, 105, 116, 101, 95, 117, 115, 101, 100]⟩, ⟨#[115, 97, 116, 101, 108, 108, 105, 116, 101, 95, 101, 108, 101, 118, 97, 116, 105, 111, 110]⟩, ⟨#[115, 97, 116, 101, 108, 108, 105, 116, 101, 95, 97, 122, 105, 109, 117, 116, 104]⟩, ⟨#[115, 97, 116, 101, 108, 108, 105, 116, 101, 95, 115, 110, 114]⟩]).map (setM 20))⟩] (u1.alloc (.cells #[.slice A0 1 c0, .slice A1 5 c1] 22)) ⟨hlit, by intro r hr; simp only [List.mem_cons, List.not_mem_nil, or_false] at hr; rcases hr with rfl | rfl <;> first | exact ⟨hr0, by show 1 ≤ 100; omega⟩ | exact ⟨hr1, by show 5 ≤ 100; omega⟩⟩ (by omega)
  have Hof := Lib.hid hof
  clear hof hlit hsz hr0 hr1
  replace a0 := blk_old a0 hbs (blk_lt a0)
  replace hb := bnx hb hbs
  clear hbs
  go_wp2_with fail
  go_fit Hof.out
  unfold RetFm
  rintro e v ⟨A, n, c, rfl, hr, hbx⟩
  replace a0 := blk_old a0 hbx (blk_lt a0)
  replace hb := bnx hb hbx
  clear hbx Hof
  have hb' := below_setRow hb (Nat.le_refl _) (#[.string ⟨#[71, 80, 83, 95, 83, 84, 65, 84, 85, 83]⟩, .slice A n c] : Array Value)
  have b0 := setRow_heap _ _ _ (#[.string ⟨#[71, 80, 83, 95, 83, 84, 65, 84, 85, 83]⟩, .slice A n c] : Array Value) _ _ a0
  have hrq : RdP (v.setRow w.heap.size #[.string ⟨#[71, 80, 83, 95, 83, 84, 65, 84, 85, 83]⟩, .slice A n c]) (v.setRow w.heap.size #[.string ⟨#[71, 80, 83, 95, 83, 84, 65, 84, 85, 83]⟩, .slice A n c]).heap.size A n c fm25.2 := rdP_set hr a0 (#[.string ⟨#[71, 80, 83, 95, 83, 84, 65, 84, 85, 83]⟩, .slice A n c] : Array Value)
  go_wp2_with (first | (with_reducible refine stop_storeT 65 ?_))
  refine go_ (wpList_store_row rfl _ _ _ rfl w.heap.size #[.string ⟨#[71, 80, 83, 95, 83, 84, 65, 84, 85, 83]⟩, .slice A n c] rfl rfl _ _ a0 (by kernel_rfl) rfl (by kernel_rfl) ?_)
  generalize (v.setRow w.heap.size #[.string ⟨#[71, 80, 83, 95, 83, 84, 65, 84, 85, 83]⟩, .slice A n c]) = w9 at *
  have e0 := blk_cell (i := 0) (v := .string ⟨#[71, 80, 83, 95, 83, 84, 65, 84, 85, 83]⟩) b0 rfl
  have e1 := blk_cell (i := 1) (v := .slice A n c) b0 rfl
  clear hr a0 b0 hb
  go_wp2
  exact bodyPost_ret (v := .agg #[.string ⟨#[71, 80, 83, 95, 83, 84, 65, 84, 85, 83]⟩, .slice A n c]) (by simp [results, go_sem, e0, e1]) rfl ⟨A, n, c, rfl, hrq, hb'⟩
set_option maxRecDepth 20000 in
set_option maxHeartbeats 4000000 in
theorem sensed_26 (w : World) : Calls Try.prog 73 #[.int .i64 26] w (RetFm fm26 w) := by
  have a0 := heap_alloc_new w (.cells #[.string ⟨#[]⟩, .slice none 0 0] 65)
  have hb : Below w.heap.size w (w.alloc (.cells #[.string ⟨#[]⟩, .slice none 0 0] 65)) := (Below.refl _ _).alloc (Nat.le_refl _) _
  have hz : (w.alloc (.cells #[.string ⟨#[]⟩, .slice none 0 0] 65)).heap.size = w.heap.size + 1 := World.size_alloc _ _
  have Hz := Lib.hid hz
  clear hz
  go_enter Try.func73, Try.ntmps73
  have hS := strs_lit (w.alloc (.cells #[.string ⟨#[]⟩, .slice none 0 0] 65)) [⟨#[116, 105, 109, 101, 95, 98, 111, 111, 116, 95, 109, 115]⟩] #[.string ⟨#[116, 105, 109, 101, 95, 98, 111, 111, 116, 95, 109, 115]⟩] rfl 1 rfl (by omega)
  have hbs := (Below.refl (w.alloc (.cells #[.string ⟨#[]⟩, .slice none 0 0] 65)).heap.size (w.alloc (.cells #[.string ⟨#[]⟩, .slice none 0 0] 65))).alloc (Nat.le_refl _) (.cells #[.string ⟨#[116, 105, 109, 101, 95, 98, 111, 111, 116, 95, 109, 115]⟩] 9)
  rw [Hz.out] at hS
  have HS := Lib.hid hS
  clear hS
  go_wp2_with fail
  go_fit (u32_any (some ⟨w.heap.size + 1, 0, none⟩) 1 1 [⟨#[116, 105, 109, 101, 95, 98, 111, 111, 116, 95, 109, 115]⟩] _ HS.out (by omega))
  unfold RetP
  rintro e u0 ⟨A0, n0, c0, rfl, hl, own, hbx⟩
  obtain rfl : n0 = 1 := hl
  have hbq := bnx hbs hbx
  replace a0 := blk_old a0 hbq (blk_lt a0)
  replace hb := bnx hb hbq
  have hr0 : RdP u0 u0.heap.size A0 1 c0 (mkP 4 false [⟨#[116, 105, 109, 101, 95, 98, 111, 111, 116, 95, 109, 115]⟩]) := RdP.own own rfl
  clear own hbx hbq HS hbs
  go_wp2_with fail
  go_fit (inertial_any _)
  unfold RetP
  rintro e u1 ⟨A1, n1, c1, rfl, hl, own, hbx⟩
  obtain rfl : n1 = 9 := hl
  have hbq := hbx
  replace a0 := blk_old a0 hbq (blk_lt a0)
  replace hb := bnx hb hbq
  replace hr0 : RdP _ _ A0 1 c0 _ := RdR.nx hr0 hbq
  have hr1 : RdP u1 u1.heap.size A1 9 c1 (mkP 2 true [⟨#[120, 97, 99, 99]⟩, ⟨#[121, 97, 99, 99]⟩, ⟨#[122, 97, 99, 99]⟩, ⟨#[120, 103, 121, 114, 111]⟩, ⟨#[121, 103, 121, 114, 111]⟩, ⟨#[122, 103, 121, 114, 111]⟩, ⟨#[120, 109, 97, 103]⟩, ⟨#[121, 109, 97, 103]⟩, ⟨#[122, 109, 97, 103]⟩]) := RdP.own own rfl
  clear own hbx hbq
  have hbs := (Below.refl u1.heap.size u1).alloc (Nat.le_refl _) (.cells #[.slice A0 1 c0, .slice A1 9 c1] 22)
  replace hr0 : RdP _ _ A0 1 c0 _ := RdR.nx hr0 hbs
  replace hr1 : RdP _ _ A1 9 c1 _ := RdR.nx hr1 hbs
  have hsz : (u1.alloc (.cells #[.slice A0 1 c0, .slice A1 9 c1] 22)).heap.size = u1.heap.size + 1 := World.size_alloc _ _
  have hlit := RdR.lit (size := 1) (e := 22) u1 [[.slice A0 1 c0], [.slice A1 9 c1]] #[.slice A0 1 c0, .slice A1 9 c1] rfl (by intro r hr; simp only [List.mem_cons, List.not_mem_nil, or_false] at hr; rcases hr with rfl | rfl <;> rfl) (by simp [maxLen]) 2 rfl
  rw [← hsz] at hlit
  have hof := of_any ⟨#[83, 67, 65, 76, 69, 68, 95, 73, 77, 85]⟩ (some ⟨u1.heap.size, 0, none⟩) 2 2 [⟨A0, 1, c0, (mkP 4 false [⟨#[116, 105, 109, 101, 95, 98, 111, 111, 116, 95, 109, 115]⟩])⟩, ⟨A1, 9, c1, (mkP 2 true [⟨#[120, 97, 99, 99]⟩, ⟨#[121, 97, 99, 99]⟩, ⟨#[122, 97, 99, 99]⟩, ⟨#[120, 103, 121, 114, 111]⟩, ⟨#[121, 103, 121, 114, 111]⟩, ⟨#[122, 103, 121, 114, 111]⟩, ⟨#[120, 109, 97, 103]⟩, ⟨#[121, 109, 97, 103]⟩, ⟨#[122, 109, 97, 103]⟩])⟩] (u1.alloc (.cells #[.slice A0 1 c0, .slice A1 9 c1] 22)) ⟨hlit, by intro r hr; simp only [List.mem_cons, List.not_mem_nil, or_false] at hr; rcases hr with rfl | rfl <;> first | exact ⟨hr0, by show 1 ≤ 100; omega⟩ | exact ⟨hr1, by show 9 ≤ 100; omega⟩⟩ (by omega)
  have Hof := Lib.hid hof
  clear hof hlit hsz hr0 hr1
  replace a0 := blk_old a0 hbs (blk_lt a0)
  replace hb := bnx hb hbs
  clear hbs
  go_wp2_with fail
  go_fit Hof.out
  unfold RetFm
  rintro e v ⟨A, n, c, rfl, hr, hbx⟩
  replace a0 := blk_old a0 hbx (blk_lt a0)
  replace hb := bnx hb hbx
  clear hbx Hof
  have hb' := below_setRow hb (Nat.le_refl _) (#[.string ⟨#[83, 67, 65, 76, 69, 68, 95, 73, 77, 85]⟩, .slice A n c] : Array Value)
  have b0 := setRow_heap _ _ _ (#[.string ⟨#[83, 67, 65, 76, 69, 68, 95, 73, 77, 85]⟩, .slice A n c] : Array Value) _ _ a0
  have hrq : RdP (v.setRow w.heap.size #[.string ⟨#[83, 67, 65, 76, 69, 68, 95, 73, 77, 85]⟩, .slice A n c]) (v.setRow w.heap.size #[.string ⟨#[83, 67, 65, 76, 69, 68, 95, 73, 77, 85]⟩, .slice A n c]).heap.size A n c fm26.2 := rdP_set hr a0 (#[.string ⟨#[83, 67, 65, 76, 69, 68, 95, 73, 77, 85]⟩, .slice A n c] : Array Value)
  go_wp2_with (first | (with_reducible refine stop_storeT 65 ?_))
  refine go_ (wpList_store_row rfl _ _ _ rfl w.heap.size #[.string ⟨#[83, 67, 65, 76, 69, 68, 95, 73, 77, 85]⟩, .slice A n c] rfl rfl _ _ a0 (by kernel_rfl) rfl (by kernel_rfl) ?_)
  generalize (v.setRow w.heap.size #[.string ⟨#[83, 67, 65, 76, 69, 68, 95, 73, 77, 85]⟩, .slice A n c]) = w9 at *
  have e0 := blk_cell (i := 0) (v := .string ⟨#[83, 67, 65, 76, 69, 68, 95, 73, 77, 85]⟩) b0 rfl
  have e1 := blk_cell (i := 1) (v := .slice A n c) b0 rfl
  clear hr a0 b0 hb
  go_wp2
  exact bodyPost_ret (v := .agg #[.string ⟨#[83, 67, 65, 76, 69, 68, 95, 73, 77, 85]⟩, .slice A n c]) (by simp [results, go_sem, e0, e1]) rfl ⟨A, n, c, rfl, hrq, hb'⟩
set_option maxRecDepth 20000 in
set_option maxHeartbeats 4000000 in
theorem sensed_27 (w : World) : Calls Try.prog 73 #[.int .i64 27] w (RetFm fm27 w) := by
  have a0 := heap_alloc_new w (.cells #[.string ⟨#[]⟩, .slice none 0 0] 65)
  have hb : Below w.heap.size w (w.alloc (.cells #[.string ⟨#[]⟩, .slice none 0 0] 65)) := (Below.refl _ _).alloc (Nat.le_refl _) _
  have hz : (w.alloc (.cells #[.string ⟨#[]⟩, .slice none 0 0] 65)).heap.size = w.heap.size + 1 := World.size_alloc _ _
  have Hz := Lib.hid hz
  clear hz
  go_enter Try.func73, Try.ntmps73
  have hS := strs_lit (w.alloc (.cells #[.string ⟨#[]⟩, .slice none 0 0] 65)) [⟨#[116, 105, 109, 101, 95, 117, 115, 101, 99]⟩] #[.string ⟨#[116, 105, 109, 101, 95, 117, 115, 101, 99]⟩] rfl 1 rfl (by omega)
  have hbs := (Below.refl (w.alloc (.cells #[.string ⟨#[]⟩, .slice none 0 0] 65)).heap.size (w.alloc (.cells #[.string ⟨#[]⟩, .slice none 0 0] 65))).alloc (Nat.le_refl _) (.cells #[.string ⟨#[116, 105, 109, 101, 95, 117, 115, 101, 99]⟩] 9)
  rw [Hz.out] at hS
  have HS := Lib.hid hS
  clear hS
  go_wp2_with fail
  go_fit (u64_any (some ⟨w.heap.size + 1, 0, none⟩) 1 1 [⟨#[116, 105, 109, 101, 95, 117, 115, 101, 99]⟩] _ HS.out (by omega))
  unfold RetP
  rintro e u0 ⟨A0, n0, c0, rfl, hl, own, hbx⟩
  obtain rfl : n0 = 1 := hl
  have hbq := bnx hbs hbx
  replace a0 := blk_old a0 hbq (blk_lt a0)
  replace hb := bnx hb hbq
  have hr0 : RdP u0 u0.heap.size A0 1 c0 (mkP 8 false [⟨#[116, 105, 109, 101, 95, 117, 115, 101, 99]⟩]) := RdP.own own rfl
  clear own hbx hbq HS hbs
  go_wp2_with fail
  go_fit (inertial_any _)
  unfold RetP
  rintro e u1 ⟨A1, n1, c1, rfl, hl, own, hbx⟩
  obtain rfl : n1 = 9 := hl
  have hbq := hbx
  replace a0 := blk_old a0 hbq (blk_lt a0)
  replace hb := bnx hb hbq
  replace hr0 : RdP _ _ A0 1 c0 _ := RdR.nx hr0 hbq
  have hr1 : RdP u1 u1.heap.size A1 9 c1 (mkP 2 true [⟨#[120, 97, 99, 99]⟩, ⟨#[121, 97, 99, 99]⟩, ⟨#[122, 97, 99, 99]⟩, ⟨#[120, 103, 121, 114, 111]⟩, ⟨#[121, 103, 121, 114, 111]⟩, ⟨#[122, 103, 121, 114, 111]⟩, ⟨#[120, 109, 97, 103]⟩, ⟨#[121, 109, 97, 103]⟩, ⟨#[122, 109, 97, 103]⟩]) := RdP.own own rfl
  clear own hbx hbq
  have hbs := (Below.refl u1.heap.size u1).alloc (Nat.le_refl _) (.cells #[.slice A0 1 c0, .slice A1 9 c1] 22)
  replace hr0 : RdP _ _ A0 1 c0 _ := RdR.nx hr0 hbs
  replace hr1 : RdP _ _ A1 9 c1 _ := RdR.nx hr1 hbs
  have hsz : (u1.alloc (.cells #[.slice A0 1 c0, .slice A1 9 c1] 22)).heap.size = u1.heap.size + 1 := World.size_alloc _ _
  have hlit := RdR.lit (size := 1) (e := 22) u1 [[.slice A0 1 c0], [.slice A1 9 c1]] #[.slice A0 1 c0, .slice A1 9 c1] rfl (by intro r hr; simp only [List.mem_cons, List.not_mem_nil, or_false] at hr; rcases hr with rfl | rfl <;> rfl) (by simp [maxLen]) 2 rfl
  rw [← hsz] at hlit
  have hof := of_any ⟨#[82, 65, 87, 95, 73, 77, 85]⟩ (some ⟨u1.heap.size, 0, none⟩) 2 2 [⟨A0, 1, c0, (mkP 8 false [⟨#[116, 105, 109, 101, 95, 117, 115, 101, 99]⟩])⟩, ⟨A1, 9, c1, (mkP 2 true [⟨#[120, 97, 99, 99]⟩, ⟨#[121, 97, 99, 99]⟩, ⟨#[122, 97, 99, 99]⟩, ⟨#[120, 103, 121, 114, 111]⟩, ⟨#[121, 103, 121, 114, 111]⟩, ⟨#[122, 103, 121, 114, 111]⟩, ⟨#[120, 109, 97, 103]⟩, ⟨#[121, 109, 97, 103]⟩, ⟨#[122, 109, 97, 103]⟩])⟩] (u1.alloc (.cells #[.slice A0 1 c0, .slice A1 9 c1] 22)) ⟨hlit, by intro r hr; simp only [List.mem_cons, List.not_mem_nil, or_false] at hr; rcases hr with rfl | rfl <;> first | exact ⟨hr0, by show 1 ≤ 100; omega⟩ | exact ⟨hr1, by show 9 ≤ 100; omega⟩⟩ (by omega)
  have Hof := Lib.hid hof
  clear hof hlit hsz hr0 hr1
  replace a0 := blk_old a0 hbs (blk_lt a0)
  replace hb := bnx hb hbs
  clear hbs
  go_wp2_with fail
  go_fit Hof.out
  unfold RetFm
  rintro e v ⟨A, n, c, rfl, hr, hbx⟩
  replace a0 := blk_old a0 hbx (blk_lt a0)
  replace hb := bnx hb hbx
  clear hbx Hof
  have hb' := below_setRow hb (Nat.le_refl _) (#[.string ⟨#[82, 65, 87, 95, 73, 77, 85]⟩, .slice A n c] : Array Value)
  have b0 := setRow_heap _ _ _ (#[.string ⟨#[82, 65, 87, 95, 73, 77, 85]⟩, .slice A n c] : Array Value) _ _ a0
  have hrq : RdP (v.setRow w.heap.size #[.string ⟨#[82, 65, 87, 95, 73, 77, 85]⟩, .slice A n c]) (v.setRow w.heap.size #[.string ⟨#[82, 65, 87, 95, 73, 77, 85]⟩, .slice A n c]).heap.size A n c fm27.2 := rdP_set hr a0 (#[.string ⟨#[82, 65, 87, 95, 73, 77, 85]⟩, .slice A n c] : Array Value)
  go_wp2_with (first | (with_reducible refine stop_storeT 65 ?_))
  refine go_ (wpList_store_row rfl _ _ _ rfl w.heap.size #[.string ⟨#[82, 65, 87, 95, 73, 77, 85]⟩, .slice A n c] rfl rfl _ _ a0 (by kernel_rfl) rfl (by kernel_rfl) ?_)
  generalize (v.setRow w.heap.size #[.string ⟨#[82, 65, 87, 95, 73, 77, 85]⟩, .slice A n c]) = w9 at *
  have e0 := blk_cell (i := 0) (v := .string ⟨#[82, 65, 87, 95, 73, 77, 85]⟩) b0 rfl
  have e1 := blk_cell (i := 1) (v := .slice A n c) b0 rfl
  clear hr a0 b0 hb
  go_wp2
  exact bodyPost_ret (v := .agg #[.string ⟨#[82, 65, 87, 95, 73, 77, 85]⟩, .slice A n c]) (by simp [results, go_sem, e0, e1]) rfl ⟨A, n, c, rfl, hrq, hb'⟩
set_option maxRecDepth 20000 in
set_option maxHeartbeats 4000000 in
theorem sensed_28 (w : World) : Calls Try.prog 73 #[.int .i64 28] w (RetFm fm28 w) := by
  have a0 := heap_alloc_new w (.cells #[.string ⟨#[]⟩, .slice none 0 0] 65)
  have hb : Below w.heap.size w (w.alloc (.cells #[.string ⟨#[]⟩, .slice none 0 0] 65)) := (Below.refl _ _).alloc (Nat.le_refl _) _
  have hz : (w.alloc (.cells #[.string ⟨#[]⟩, .slice none 0 0] 65)).heap.size = w.heap.size + 1 := World.size_alloc _ _
  have Hz := Lib.hid hz
  clear hz
  go_enter Try.func73, Try.ntmps73
  have hS := strs_lit (w.alloc (.cells #[.string ⟨#[]⟩, .slice none 0 0] 65)) [⟨#[116, 105, 109, 101, 95, 117, 115, 101, 99]⟩] #[.string ⟨#[116, 105, 109, 101, 95, 117, 115, 101, 99]⟩] rfl 1 rfl (by omega)
  have hbs := (Below.refl (w.alloc (.cells #[.string ⟨#[]⟩, .slice none 0 0] 65)).heap.size (w.alloc (.cells #[.string ⟨#[]⟩, .slice none 0 0] 65))).alloc (Nat.le_refl _) (.cells #[.string ⟨#[116, 105, 109, 101, 95, 117, 115, 101, 99]⟩] 9)
  rw [Hz.out] at hS
  have HS := Lib.hid hS
  clear hS
  go_wp2_with fail
  go_fit (u64_any (some ⟨w.heap.size + 1, 0, none⟩) 1 1 [⟨#[116, 105, 109, 101, 95, 117, 115, 101, 99]⟩] _ HS.out (by omega))
  unfold RetP
  rintro e u0 ⟨A0, n0, c0, rfl, hl, own, hbx⟩
  obtain rfl : n0 = 1 := hl
  have hbq := bnx hbs hbx
  replace a0 := blk_old a0 hbq (blk_lt a0)
  replace hb := bnx hb hbq
  have hr0 : RdP u0 u0.heap.size A0 1 c0 (mkP 8 false [⟨#[116, 105, 109, 101, 95, 117, 115, 101, 99]⟩]) := RdP.own own rfl
  clear own hbx hbq HS hbs
  have hS := strs_lit u0 [⟨#[112, 114, 101, 115, 115, 95, 97, 98, 115]⟩, ⟨#[112, 114, 101, 115, 115, 95, 100, 105, 102, 102, 49]⟩, ⟨#[112, 114, 101, 115, 115, 95, 100, 105, 102, 102, 50]⟩, ⟨#[116, 101, 109, 112, 101, 114, 97, 116, 117, 114, 101]⟩] #[.string ⟨#[112, 114, 101, 115, 115, 95, 97, 98, 115]⟩, .string ⟨#[112, 114, 101, 115, 115, 95, 100, 105, 102, 102, 49]⟩, .string ⟨#[112, 114, 101, 115, 115, 95, 100, 105, 102, 102, 50]⟩, .string ⟨#[116, 101, 109, 112, 101, 114, 97, 116, 117, 114, 101]⟩] rfl 4 rfl (by omega)
  have hbs := (Below.refl u0.heap.size u0).alloc (Nat.le_refl _) (.cells #[.string ⟨#[112, 114, 101, 115, 115, 95, 97, 98, 115]⟩, .string ⟨#[112, 114, 101, 115, 115, 95, 100, 105, 102, 102, 49]⟩, .string ⟨#[112, 114, 101, 115, 115, 95, 100, 105, 102, 102, 50]⟩, .string ⟨#[116, 101, 109, 112, 101, 114, 97, 116, 117, 114, 101]⟩] 9)
  have HS := Lib.hid hS
  clear hS
  go_wp2_with fail
  go_fit (i16_any (some ⟨u0.heap.size, 0, none⟩) 4 4 [⟨#[112, 114, 101, 115, 115, 95, 97, 98, 115]⟩, ⟨#[112, 114, 101, 115, 115, 95, 100, 105, 102, 102, 49]⟩, ⟨#[112, 114, 101, 115, 115, 95, 100, 105, 102, 102, 50]⟩, ⟨#[116, 101, 109, 112, 101, 114, 97, 116, 117, 114, 101]⟩] _ HS.out (by omega))
  unfold RetP
  rintro e u1 ⟨A1, n1, c1, rfl, hl, own, hbx⟩
  obtain rfl : n1 = 4 := hl
  have hbq := bnx hbs hbx
  replace a0 := blk_old a0 hbq (blk_lt a0)
  replace hb := bnx hb hbq
  replace hr0 : RdP _ _ A0 1 c0 _ := RdR.nx hr0 hbq
  have hr1 : RdP u1 u1.heap.size A1 4 c1 (mkP 2 true [⟨#[112, 114, 101, 115, 115, 95, 97, 98, 115]⟩, ⟨#[112, 114, 101, 115, 115, 95, 100, 105, 102, 102, 49]⟩, ⟨#[112, 114, 101, 115, 115, 95, 100, 105, 102, 102, 50]⟩, ⟨#[116, 101, 109, 112, 101, 114, 97, 116, 117, 114, 101]⟩]) := RdP.own own rfl
  clear own hbx hbq HS hbs
  have hbs := (Below.refl u1.heap.size u1).alloc (Nat.le_refl _) (.cells #[.slice A0 1 c0, .slice A1 4 c1] 22)
  replace hr0 : RdP _ _ A0 1 c0 _ := RdR.nx hr0 hbs
  replace hr1 : RdP _ _ A1 4 c1 _ := RdR.nx hr1 hbs
  have hsz : (u1.alloc (.cells #[.slice A0 1 c0, .slice A1 4 c1] 22)).heap.size = u1.heap.size + 1 := World.size_alloc _ _
  have hlit := RdR.lit (size := 1) (e := 22) u1 [[.slice A0 1 c0], [.slice A1 4 c1]] #[.slice A0 1 c0, .slice A1 4 c1] rfl (by intro r hr; simp only [List.mem_cons, List.not_mem_nil, or_false] at hr; rcases hr with rfl | rfl <;> rfl) (by simp [maxLen]) 2 rfl
  rw [← hsz] at hlit
  have hof := of_any ⟨#[82, 65, 87, 95, 80, 82, 69, 83, 83, 85, 82, 69]⟩ (some ⟨u1.heap.size, 0, none⟩) 2 2 [⟨A0, 1, c0, (mkP 8 false [⟨#[116, 105, 109, 101, 95, 117, 115, 101, 99]⟩])⟩, ⟨A1, 4, c1, (mkP 2 true [⟨#[112, 114, 101, 115, 115, 95, 97, 98, 115]⟩, ⟨#[112, 114, 101, 115, 115, 95, 100, 105, 102, 102, 49]⟩, ⟨#[112, 114, 101, 115, 115, 95, 100, 105, 102, 102, 50]⟩, ⟨#[116, 101, 109, 112, 101, 114, 97, 116, 117, 114, 101]⟩])⟩] (u1.alloc (.cells #[.slice A0 1 c0, .slice A1 4 c1] 22)) ⟨hlit, by intro r hr; simp only [List.mem_cons, List.not_mem_nil, or_false] at hr; rcases hr with rfl | rfl <;> first | exact ⟨hr0, by show 1 ≤ 100; omega⟩ | exact ⟨hr1, by show 4 ≤ 100; omega⟩⟩ (by omega)
  have Hof := Lib.hid hof
  clear hof hlit hsz hr0 hr1
  replace a0 := blk_old a0 hbs (blk_lt a0)
  replace hb := bnx hb hbs
  clear hbs
  go_wp2_with fail
  go_fit Hof.out
  unfold RetFm
  rintro e v ⟨A, n, c, rfl, hr, hbx⟩
  replace a0 := blk_old a0 hbx (blk_lt a0)
  replace hb := bnx hb hbx
  clear hbx Hof
  have hb' := below_setRow hb (Nat.le_refl _) (#[.string ⟨#[82, 65, 87, 95, 80, 82, 69, 83, 83, 85, 82, 69]⟩, .slice A n c] : Array Value)
  have b0 := setRow_heap _ _ _ (#[.string ⟨#[82, 65, 87, 95, 80, 82, 69, 83, 83, 85, 82, 69]⟩, .slice A n c] : Array Value) _ _ a0
  have hrq : RdP (v.setRow w.heap.size #[.string ⟨#[82, 65, 87, 95, 80, 82, 69, 83, 83, 85, 82, 69]⟩, .slice A n c]) (v.setRow w.heap.size #[.string ⟨#[82, 65, 87, 95, 80, 82, 69, 83, 83, 85, 82, 69]⟩, .slice A n c]).heap.size A n c fm28.2 := rdP_set hr a0 (#[.string ⟨#[82, 65, 87, 95, 80, 82, 69, 83, 83, 85, 82, 69]⟩, .slice A n c] : Array Value)
  go_wp2_with (first | (with_reducible refine stop_storeT 65 ?_))
  refine go_ (wpList_store_row rfl _ _ _ rfl w.heap.size #[.string ⟨#[82, 65, 87, 95, 80, 82, 69, 83, 83, 85, 82, 69]⟩, .slice A n c] rfl rfl _ _ a0 (by kernel_rfl) rfl (by kernel_rfl) ?_)
  generalize (v.setRow w.heap.size #[.string ⟨#[82, 65, 87, 95, 80, 82, 69, 83, 83, 85, 82, 69]⟩, .slice A n c]) = w9 at *
  have e0 := blk_cell (i := 0) (v := .string ⟨#[82, 65, 87, 95, 80, 82, 69, 83, 83, 85, 82, 69]⟩) b0 rfl
  have e1 := blk_cell (i := 1) (v := .slice A n c) b0 rfl
  clear hr a0 b0 hb
  go_wp2
  exact bodyPost_ret (v := .agg #[.string ⟨#[82, 65, 87, 95, 80, 82, 69, 83, 83, 85, 82, 69]⟩, .slice A n c]) (by simp [results, go_sem, e0, e1]) rfl ⟨A, n, c, rfl, hrq, hb'⟩
set_option maxRecDepth 20000 in
set_option maxHeartbeats 4000000 in
theorem sensed_33 (w : World) : Calls Try.prog 73 #[.int .i64 33] w (RetFm fm33 w) := by
  have a0 := heap_alloc_new w (.cells #[.string ⟨#[]⟩, .slice none 0 0] 65)
  have hb : Below w.heap.size w (w.alloc (.cells #[.string ⟨#[]⟩, .slice none 0 0] 65)) := (Below.refl _ _).alloc (Nat.le_refl _) _
  have hz : (w.alloc (.cells #[.string ⟨#[]⟩, .slice none 0 0] 65)).heap.size = w.heap.size + 1 := World.size_alloc _ _
  have Hz := Lib.hid hz
  clear hz
  go_enter Try.func73, Try.ntmps73
  have hS := strs_lit (w.alloc (.cells #[.string ⟨#[]⟩, .slice none 0 0] 65)) [⟨#[116, 105, 109, 101, 95, 98, 111, 111, 116, 95, 109, 115]⟩] #[.string ⟨#[116, 105, 109, 101, 95, 98, 111, 111, 116, 95, 109, 115]⟩] rfl 1 rfl (by omega)
  have hbs := (Below.refl (w.alloc (.cells #[.string ⟨#[]⟩, .slice none 0 0] 65)).heap.size (w.alloc (.cells #[.string ⟨#[]⟩, .slice none 0 0] 65))).alloc (Nat.le_refl _) (.cells #[.string ⟨#[116, 105, 109, 101, 95, 98, 111, 111, 116, 95, 109, 115]⟩] 9)
  rw [Hz.out] at hS
  have HS := Lib.hid hS
  clear hS
  go_wp2_with fail
  go_fit (u32_any (some ⟨w.heap.size + 1, 0, none⟩) 1 1 [⟨#[116, 105, 109, 101, 95, 98, 111, 111, 116, 95, 109, 115]⟩] _ HS.out (by omega))
  unfold RetP
  rintro e u0 ⟨A0, n0, c0, rfl, hl, own, hbx⟩
  obtain rfl : n0 = 1 := hl
  have hbq := bnx hbs hbx
  replace a0 := blk_old a0 hbq (blk_lt a0)
  replace hb := bnx hb hbq
  have hr0 : RdP u0 u0.heap.size A0 1 c0 (mkP 4 false [⟨#[116, 105, 109, 101, 95, 98, 111, 111, 116, 95, 109, 115]⟩]) := RdP.own own rfl
  clear own hbx hbq HS hbs
  have hS := strs_lit u0 [⟨#[108, 97, 116]⟩, ⟨#[108, 111, 110]⟩, ⟨#[97, 108, 116]⟩, ⟨#[114, 101, 108, 97, 116, 105, 118, 101, 95, 97, 108, 116]⟩] #[.string ⟨#[108, 97, 116]⟩, .string ⟨#[108, 111, 110]⟩, .string ⟨#[97, 108, 116]⟩, .string ⟨#[114, 101, 108, 97, 116, 105, 118, 101, 95, 97, 108, 116]⟩] rfl 4 rfl (by omega)
  have hbs := (Below.refl u0.heap.size u0).alloc (Nat.le_refl _) (.cells #[.string ⟨#[108, 97, 116]⟩, .string ⟨#[108, 111, 110]⟩, .string ⟨#[97, 108, 116]⟩, .string ⟨#[114, 101, 108, 97, 116, 105, 118, 101, 95, 97, 108, 116]⟩] 9)
  have HS := Lib.hid hS
  clear hS
  go_wp2_with fail
  go_fit (i32_any (some ⟨u0.heap.size, 0, none⟩) 4 4 [⟨#[108, 97, 116]⟩, ⟨#[108, 111, 110]⟩, ⟨#[97, 108, 116]⟩, ⟨#[114, 101, 108, 97, 116, 105, 118, 101, 95, 97, 108, 116]⟩] _ HS.out (by omega))
  unfold RetP
  rintro e u1 ⟨A1, n1, c1, rfl, hl, own, hbx⟩
  obtain rfl : n1 = 4 := hl
  have hbq := bnx hbs hbx
  replace a0 := blk_old a0 hbq (blk_lt a0)
  replace hb := bnx hb hbq
  replace hr0 : RdP _ _ A0 1 c0 _ := RdR.nx hr0 hbq
  have hr1 : RdP u1 u1.heap.size A1 4 c1 (mkP 4 true [⟨#[108, 97, 116]⟩, ⟨#[108, 111, 110]⟩, ⟨#[97, 108, 116]⟩, ⟨#[114, 101, 108, 97, 116, 105, 118, 101, 95, 97, 108, 116]⟩]) := RdP.own own rfl
  clear own hbx hbq HS hbs
  have hS := strs_lit u1 [⟨#[118, 120]⟩, ⟨#[118, 121]⟩, ⟨#[118, 122]⟩] #[.string ⟨#[118, 120]⟩, .string ⟨#[118, 121]⟩, .string ⟨#[118, 122]⟩] rfl 3 rfl (by omega)
  have hbs := (Below.refl u1.heap.size u1).alloc (Nat.le_refl _) (.cells #[.string ⟨#[118, 120]⟩, .string ⟨#[118, 121]⟩, .string ⟨#[118, 122]⟩] 9)
  have HS := Lib.hid hS
  clear hS
  go_wp2_with fail
  go_fit (i16_any (some ⟨u1.heap.size, 0, none⟩) 3 3 [⟨#[118, 120]⟩, ⟨#[118, 121]⟩, ⟨#[118, 122]⟩] _ HS.out (by omega))
  unfold RetP
  rintro e u2 ⟨A2, n2, c2, rfl, hl, own, hbx⟩
  obtain rfl : n2 = 3 := hl
  have hbq := bnx hbs hbx
  replace a0 := blk_old a0 hbq (blk_lt a0)
  replace hb := bnx hb hbq
  replace hr0 : RdP _ _ A0 1 c0 _ := RdR.nx hr0 hbq
  replace hr1 : RdP _ _ A1 4 c1 _ := RdR.nx hr1 hbq
  have hr2 : RdP u2 u2.heap.size A2 3 c2 (mkP 2 true [⟨#[118, 120]⟩, ⟨#[118, 121]⟩, ⟨#[118, 122]⟩]) := RdP.own own rfl
  clear own hbx hbq HS hbs
  have hS := strs_lit u2 [⟨#[104, 100, 103]⟩] #[.string ⟨#[104, 100, 103]⟩] rfl 1 rfl (by omega)
  have hbs := (Below.refl u2.heap.size u2).alloc (Nat.le_refl _) (.cells #[.string ⟨#[104, 100, 103]⟩] 9)
  have HS := Lib.hid hS
  clear hS
  go_wp2_with fail
  go_fit (u16_any (some ⟨u2.heap.size, 0, none⟩) 1 1 [⟨#[104, 100, 103]⟩] _ HS.out (by omega))
  unfold RetP
  rintro e u3 ⟨A3, n3, c3, rfl, hl, own, hbx⟩
  obtain rfl : n3 = 1 := hl
  have hbq := bnx hbs hbx
  replace a0 := blk_old a0 hbq (blk_lt a0)
  replace hb := bnx hb hbq
  replace hr0 : RdP _ _ A0 1 c0 _ := RdR.nx hr0 hbq
  replace hr1 : RdP _ _ A1 4 c1 _ := RdR.nx hr1 hbq
  replace hr2 : RdP _ _ A2 3 c2 _ := RdR.nx hr2 hbq
  have hr3 : RdP u3 u3.heap.size A3 1 c3 (mkP 2 false [⟨#[104, 100, 103]⟩]) := RdP.own own rfl
  clear own hbx hbq HS hbs
  have hbs := (Below.refl u3.heap.size u3).alloc (Nat.le_refl _) (.cells #[.slice A0 1 c0, .slice A1 4 c1, .slice A2 3 c2, .slice A3 1 c3] 22)
  replace hr0 : RdP _ _ A0 1 c0 _ := RdR.nx hr0 hbs
  replace hr1 : RdP _ _ A1 4 c1 _ := RdR.nx hr1 hbs
  replace hr2 : RdP _ _ A2 3 c2 _ := RdR.nx hr2 hbs
  replace hr3 : RdP _ _ A3 1 c3 _ := RdR.nx hr3 hbs
  have hsz : (u3.alloc (.cells #[.slice A0 1 c0, .slice A1 4 c1, .slice A2 3 c2, .slice A3 1 c3] 22)).heap.size = u3.heap.size + 1 := World.size_alloc _ _
  have hlit := RdR.lit (size := 1) (e := 22) u3 [[.slice A0 1 c0], [.slice A1 4 c1], [.slice A2 3 c2], [.slice A3 1 c3]] #[.slice A0 1 c0, .slice A1 4 c1, .slice A2 3 c2, .slice A3 1 c3] rfl (by intro r hr; simp only [List.mem_cons, List.not_mem_nil, or_false] at hr; rcases hr with rfl | rfl | rfl | rfl <;> rfl) (by simp [maxLen]) 4 rfl
  rw [← hsz] at hlit
  have hof := of_any ⟨#[71, 76, 79, 66, 65, 76, 95, 80, 79, 83, 73, 84, 73, 79, 78, 95, 73, 78, 84]⟩ (some ⟨u3.heap.size, 0, none⟩) 4 4 [⟨A0, 1, c0, (mkP 4 false [⟨#[116, 105, 109, 101, 95, 98, 111, 111, 116, 95, 109, 115]⟩])⟩, ⟨A1, 4, c1, (mkP 4 true [⟨#[108, 97, 116]⟩, ⟨#[108, 111, 110]⟩, ⟨#[97, 108, 116]⟩, ⟨#[114, 101, 108, 97, 116, 105, 118, 101, 95, 97, 108, 116]⟩])⟩, ⟨A2, 3, c2, (mkP 2 true [⟨#[118, 120]⟩, ⟨#[118, 121]⟩, ⟨#[118, 122]⟩])⟩, ⟨A3, 1, c3, (mkP 2 false [⟨#[104, 100, 103]⟩])⟩] (u3.alloc (.cells #[.slice A0 1 c0, .slice A1 4 c1, .slice A2 3 c2, .slice A3 1 c3] 22)) ⟨hlit, by intro r hr; simp only [List.mem_cons, List.not_mem_nil, or_false] at hr; rcases hr with rfl | rfl | rfl | rfl <;> first | exact ⟨hr0, by show 1 ≤ 100; omega⟩ | exact ⟨hr1, by show 4 ≤ 100; omega⟩ | exact ⟨hr2, by show 3 ≤ 100; omega⟩ | exact ⟨hr3, by show 1 ≤ 100; omega⟩⟩ (by omega)
  have Hof := Lib.hid hof
  clear hof hlit hsz hr0 hr1 hr2 hr3
  replace a0 := blk_old a0 hbs (blk_lt a0)
  replace hb := bnx hb hbs
  clear hbs
  go_wp2_with fail
  go_fit Hof.out
  unfold RetFm
  rintro e v ⟨A, n, c, rfl, hr, hbx⟩
  replace a0 := blk_old a0 hbx (blk_lt a0)
  replace hb := bnx hb hbx
  clear hbx Hof
  have hb' := below_setRow hb (Nat.le_refl _) (#[.string ⟨#[71, 76, 79, 66, 65, 76, 95, 80, 79, 83, 73, 84, 73, 79, 78, 95, 73, 78, 84]⟩, .slice A n c] : Array Value)
  have b0 := setRow_heap _ _ _ (#[.string ⟨#[71, 76, 79, 66, 65, 76, 95, 80, 79, 83, 73, 84, 73, 79, 78, 95, 73, 78, 84]⟩, .slice A n c] : Array Value) _ _ a0
  have hrq : RdP (v.setRow w.heap.size #[.string ⟨#[71, 76, 79, 66, 65, 76, 95, 80, 79, 83, 73, 84, 73, 79, 78, 95, 73, 78, 84]⟩, .slice A n c]) (v.setRow w.heap.size #[.string ⟨#[71, 76, 79, 66, 65, 76, 95, 80, 79, 83, 73, 84, 73, 79, 78, 95, 73, 78, 84]⟩, .slice A n c]).heap.size A n c fm33.2 := rdP_set hr a0 (#[.string ⟨#[71, 76, 79, 66, 65, 76, 95, 80, 79, 83, 73, 84, 73, 79, 78, 95, 73, 78, 84]⟩, .slice A n c] : Array Value)
  go_wp2_with (first | (with_reducible refine stop_storeT 65 ?_))
  refine go_ (wpList_store_row rfl _ _ _ rfl w.heap.size #[.string ⟨#[71, 76, 79, 66, 65, 76, 95, 80, 79, 83, 73, 84, 73, 79, 78, 95, 73, 78, 84]⟩, .slice A n c] rfl rfl _ _ a0 (by kernel_rfl) rfl (by kernel_rfl) ?_)
  generalize (v.setRow w.heap.size #[.string ⟨#[71, 76, 79, 66, 65, 76, 95, 80, 79, 83, 73, 84, 73, 79, 78, 95, 73, 78, 84]⟩, .slice A n c]) = w9 at *
  have e0 := blk_cell (i := 0) (v := .string ⟨#[71, 76, 79, 66, 65, 76, 95, 80, 79, 83, 73, 84, 73, 79, 78, 95, 73, 78, 84]⟩) b0 rfl
  have e1 := blk_cell (i := 1) (v := .slice A n c) b0 rfl
  clear hr a0 b0 hb
  go_wp2
  exact bodyPost_ret (v := .agg #[.string ⟨#[71, 76, 79, 66, 65, 76, 95, 80, 79, 83, 73, 84, 73, 79, 78, 95, 73, 78, 84]⟩, .slice A n c]) (by simp [results, go_sem, e0, e1]) rfl ⟨A, n, c, rfl, hrq, hb'⟩
set_option maxRecDepth 20000 in
set_option maxHeartbeats 4000000 in
theorem sensed_no (id : Int) (h24 : ¬ id = 24) (h25 : ¬ id = 25) (h26 : ¬ id = 26) (h27 : ¬ id = 27) (h28 : ¬ id = 28) (h33 : ¬ id = 33) (w : World) : Calls Try.prog 73 #[.int .i64 id] w (RetFm fmNone w) := by
  have q24 : (id == 24) = false := by rw [beq_eq_false_iff_ne]; exact h24
  have q25 : (id == 25) = false := by rw [beq_eq_false_iff_ne]; exact h25
  have q26 : (id == 26) = false := by rw [beq_eq_false_iff_ne]; exact h26
  have q27 : (id == 27) = false := by rw [beq_eq_false_iff_ne]; exact h27
  have q28 : (id == 28) = false := by rw [beq_eq_false_iff_ne]; exact h28
  have q33 : (id == 33) = false := by rw [beq_eq_false_iff_ne]; exact h33
  have a0 := heap_alloc_new w (.cells #[.string ⟨#[]⟩, .slice none 0 0] 65)
  have hb : Below w.heap.size w (w.alloc (.cells #[.string ⟨#[]⟩, .slice none 0 0] 65)) := (Below.refl _ _).alloc (Nat.le_refl _) _
  have hb' := below_setRow hb (Nat.le_refl _) (#[.string ⟨#[]⟩, .slice none 0 0] : Array Value)
  have b0 := setRow_heap _ _ _ (#[.string ⟨#[]⟩, .slice none 0 0] : Array Value) _ _ a0
  go_enter Try.func73, Try.ntmps73
  go_wp2_with (first | (with_reducible refine stop_buildF 65 ?_))
  refine go_ ?_
  generalize (w.alloc (.cells #[.string ⟨#[]⟩, .slice none 0 0] 65)) = v at *
  go_wp2_with (first | (with_reducible refine stop_storeT 65 ?_))
  refine go_ (wpList_store_row rfl _ _ _ rfl w.heap.size #[.string ⟨#[]⟩, .slice none 0 0] rfl rfl _ _ a0 (by kernel_rfl) rfl (by kernel_rfl) ?_)
  generalize (v.setRow w.heap.size #[.string ⟨#[]⟩, .slice none 0 0]) = w9 at *
  have e0 := blk_cell (i := 0) (v := .string ⟨#[]⟩) b0 rfl
  have e1 := blk_cell (i := 1) (v := .slice none 0 0) b0 rfl
  clear a0 b0 hb
  go_wp2
  exact bodyPost_ret (v := .agg #[.string ⟨#[]⟩, .slice none 0 0]) (by simp [results, go_sem, e0, e1]) rfl ⟨none, 0, 0, rfl, RdR.none_ _ _ _, hb'⟩
theorem sensed_any (id : Int) (w : World) : Calls Try.prog 73 #[.int .i64 id] w (RetFm (frmN id) w) := by
  unfold frmN
  by_cases h24 : id = 24
  · subst h24
    rw [if_pos rfl]
    exact sensed_24 w
  rw [if_neg h24]
  by_cases h25 : id = 25
  · subst h25
    rw [if_pos rfl]
    exact sensed_25 w
  rw [if_neg h25]
  by_cases h26 : id = 26
  · subst h26
    rw [if_pos rfl]
    exact sensed_26 w
  rw [if_neg h26]
  by_cases h27 : id = 27
  · subst h27
    rw [if_pos rfl]
    exact sensed_27 w
  rw [if_neg h27]
  by_cases h28 : id = 28
  · subst h28
    rw [if_pos rfl]
    exact sensed_28 w
  rw [if_neg h28]
  by_cases h33 : id = 33
  · subst h33
    rw [if_pos rfl]
    exact sensed_33 w
  rw [if_neg h33]
  exact sensed_no id h24 h25 h26 h27 h28 h33 w

end Go.Proofs.Ytonejdjhdjckjaa

/-
  the forms of asked walked (printed by gen_sch3.py).
-/
set_option linter.unusedSimpArgs false
set_option linter.unusedVariables false
namespace Go.Proofs.Ytonejdjhdjckjaa
open Go.RowKit NumLaw
attribute [local go_sem] Addr.add_mid

set_option maxRecDepth 20000 in
set_option maxHeartbeats 4000000 in
theorem asked_35 (w : World) : Calls Try.prog 74 #[.int .i64 35] w (RetFm fm35 w) := by
  have a0 := heap_alloc_new w (.cells #[.string ⟨#[]⟩, .slice none 0 0] 65)
  have hb : Below w.heap.size w (w.alloc (.cells #[.string ⟨#[]⟩, .slice none 0 0] 65)) := (Below.refl _ _).alloc (Nat.le_refl _) _
  have hz : (w.alloc (.cells #[.string ⟨#[]⟩, .slice none 0 0] 65)).heap.size = w.heap.size + 1 := World.size_alloc _ _
  have Hz := Lib.hid hz
  clear hz
  go_enter Try.func74, Try.ntmps74
  have hS := strs_lit (w.alloc (.cells #[.string ⟨#[]⟩, .slice none 0 0] 65)) [⟨#[116, 105, 109, 101, 95, 98, 111, 111, 116, 95, 109, 115]⟩] #[.string ⟨#[116, 105, 109, 101, 95, 98, 111, 111, 116, 95, 109, 115]⟩] rfl 1 rfl (by omega)
  have hbs := (Below.refl (w.alloc (.cells #[.string ⟨#[]⟩, .slice none 0 0] 65)).heap.size (w.alloc (.cells #[.string ⟨#[]⟩, .slice none 0 0] 65))).alloc (Nat.le_refl _) (.cells #[.string ⟨#[116, 105, 109, 101, 95, 98, 111, 111, 116, 95, 109, 115]⟩] 9)
  rw [Hz.out] at hS
  have HS := Lib.hid hS
  clear hS
  go_wp2_with fail
  go_fit (u32_any (some ⟨w.heap.size + 1, 0, none⟩) 1 1 [⟨#[116, 105, 109, 101, 95, 98, 111, 111, 116, 95, 109, 115]⟩] _ HS.out (by omega))
  unfold RetP
  rintro e u0 ⟨A0, n0, c0, rfl, hl, own, hbx⟩
  obtain rfl : n0 = 1 := hl
  have hbq := bnx hbs hbx
  replace a0 := blk_old a0 hbq (blk_lt a0)
  replace hb := bnx hb hbq
  have hr0 : RdP u0 u0.heap.size A0 1 c0 (mkP 4 false [⟨#[116, 105, 109, 101, 95, 98, 111, 111, 116, 95, 109, 115]⟩]) := RdP.own own rfl
  clear own hbx hbq HS hbs
  have hS := strs_lit u0 [⟨#[112, 111, 114, 116]⟩] #[.string ⟨#[112, 111, 114, 116]⟩] rfl 1 rfl (by omega)
  have hbs := (Below.refl u0.heap.size u0).alloc (Nat.le_refl _) (.cells #[.string ⟨#[112, 111, 114, 116]⟩] 9)
  have HS := Lib.hid hS
  clear hS
  go_wp2_with fail
  go_fit (u8_any (some ⟨u0.heap.size, 0, none⟩) 1 1 [⟨#[112, 111, 114, 116]⟩] _ HS.out (by omega))
  unfold RetP
  rintro e u1 ⟨A1, n1, c1, rfl, hl, own, hbx⟩
  obtain rfl : n1 = 1 := hl
  have hbq := bnx hbs hbx
  replace a0 := blk_old a0 hbq (blk_lt a0)
  replace hb := bnx hb hbq
  replace hr0 : RdP _ _ A0 1 c0 _ := RdR.nx hr0 hbq
  have hr1 : RdP u1 u1.heap.size A1 1 c1 (mkP 1 false [⟨#[112, 111, 114, 116]⟩]) := RdP.own own rfl
  clear own hbx hbq HS hbs
  have hS := strs_lit u1 [⟨#[99, 104, 97, 110, 49, 95, 114, 97, 119]⟩, ⟨#[99, 104, 97, 110, 50, 95, 114, 97, 119]⟩, ⟨#[99, 104, 97, 110, 51, 95, 114, 97, 119]⟩, ⟨#[99, 104, 97, 110, 52, 95, 114, 97, 119]⟩, ⟨#[99, 104, 97, 110, 53, 95, 114, 97, 119]⟩, ⟨#[99, 104, 97, 110, 54, 95, 114, 97, 119]⟩, ⟨#[99, 104, 97, 110, 55, 95, 114, 97, 119]⟩, ⟨#[99, 104, 97, 110, 56, 95, 114, 97, 119]⟩] #[.string ⟨#[99, 104, 97, 110, 49, 95, 114, 97, 119]⟩, .string ⟨#[99, 104, 97, 110, 50, 95, 114, 97, 119]⟩, .string ⟨#[99, 104, 97, 110, 51, 95, 114, 97, 119]⟩, .string ⟨#[99, 104, 97, 110, 52, 95, 114, 97, 119]⟩, .string ⟨#[99, 104, 97, 110, 53, 95, 114, 97, 119]⟩, .string ⟨#[99, 104, 97, 110, 54, 95, 114, 97, 119]⟩, .string ⟨#[99, 104, 97, 110, 55, 95, 114, 97, 119]⟩, .string ⟨#[99, 104, 97, 110, 56, 95, 114, 97, 119]⟩] rfl 8 rfl (by omega)
  have hbs := (Below.refl u1.heap.size u1).alloc (Nat.le_refl _) (.cells #[.string ⟨#[99, 104, 97, 110, 49, 95, 114, 97, 119]⟩, .string ⟨#[99, 104, 97, 110, 50, 95, 114, 97, 119]⟩, .string ⟨#[99, 104, 97, 110, 51, 95, 114, 97, 119]⟩, .string ⟨#[99, 104, 97, 110, 52, 95, 114, 97, 119]⟩, .string ⟨#[99, 104, 97, 110, 53, 95, 114, 97, 119]⟩, .string ⟨#[99, 104, 97, 110, 54, 95, 114, 97, 119]⟩, .string ⟨#[99, 104, 97, 110, 55, 95, 114, 97, 119]⟩, .string ⟨#[99, 104, 97, 110, 56, 95, 114, 97, 119]⟩] 9)
  have HS := Lib.hid hS
  clear hS
  go_wp2_with fail
  go_fit (u16_any (some ⟨u1.heap.size, 0, none⟩) 8 8 [⟨#[99, 104, 97, 110, 49, 95, 114, 97, 119]⟩, ⟨#[99, 104, 97, 110, 50, 95, 114, 97, 119]⟩, ⟨#[99, 104, 97, 110, 51, 95, 114, 97, 119]⟩, ⟨#[99, 104, 97, 110, 52, 95, 114, 97, 119]⟩, ⟨#[99, 104, 97, 110, 53, 95, 114, 97, 119]⟩, ⟨#[99, 104, 97, 110, 54, 95, 114, 97, 119]⟩, ⟨#[99, 104, 97, 110, 55, 95, 114, 97, 119]⟩, ⟨#[99, 104, 97, 110, 56, 95, 114, 97, 119]⟩] _ HS.out (by omega))
  unfold RetP
  rintro e u2 ⟨A2, n2, c2, rfl, hl, own, hbx⟩
  obtain rfl : n2 = 8 := hl
  have hbq := bnx hbs hbx
  replace a0 := blk_old a0 hbq (blk_lt a0)
  replace hb := bnx hb hbq
  replace hr0 : RdP _ _ A0 1 c0 _ := RdR.nx hr0 hbq
  replace hr1 : RdP _ _ A1 1 c1 _ := RdR.nx hr1 hbq
  have hr2 : RdP u2 u2.heap.size A2 8 c2 (mkP 2 false [⟨#[99, 104, 97, 110, 49, 95, 114, 97, 119]⟩, ⟨#[99, 104, 97, 110, 50, 95, 114, 97, 119]⟩, ⟨#[99, 104, 97, 110, 51, 95, 114, 97, 119]⟩, ⟨#[99, 104, 97, 110, 52, 95, 114, 97, 119]⟩, ⟨#[99, 104, 97, 110, 53, 95, 114, 97, 119]⟩, ⟨#[99, 104, 97, 110, 54, 95, 114, 97, 119]⟩, ⟨#[99, 104, 97, 110, 55, 95, 114, 97, 119]⟩, ⟨#[99, 104, 97, 110, 56, 95, 114, 97, 119]⟩]) := RdP.own own rfl
  clear own hbx hbq HS hbs
  have hS := strs_lit u2 [⟨#[114, 115, 115, 105]⟩] #[.string ⟨#[114, 115, 115, 105]⟩] rfl 1 rfl (by omega)
  have hbs := (Below.refl u2.heap.size u2).alloc (Nat.le_refl _) (.cells #[.string ⟨#[114, 115, 115, 105]⟩] 9)
  have HS := Lib.hid hS
  clear hS
  go_wp2_with fail
  go_fit (u8_any (some ⟨u2.heap.size, 0, none⟩) 1 1 [⟨#[114, 115, 115, 105]⟩] _ HS.out (by omega))
  unfold RetP
  rintro e u3 ⟨A3, n3, c3, rfl, hl, own, hbx⟩
  obtain rfl : n3 = 1 := hl
  have hbq := bnx hbs hbx
  replace a0 := blk_old a0 hbq (blk_lt a0)
  replace hb := bnx hb hbq
  replace hr0 : RdP _ _ A0 1 c0 _ := RdR.nx hr0 hbq
  replace hr1 : RdP _ _ A1 1 c1 _ := RdR.nx hr1 hbq
  replace hr2 : RdP _ _ A2 8 c2 _ := RdR.nx hr2 hbq
  have hr3 : RdP u3 u3.heap.size A3 1 c3 (mkP 1 false [⟨#[114, 115, 115, 105]⟩]) := RdP.own own rfl
  clear own hbx hbq HS hbs
  have hbs := (Below.refl u3.heap.size u3).alloc (Nat.le_refl _) (.cells #[.slice A0 1 c0, .slice A1 1 c1, .slice A2 8 c2, .slice A3 1 c3] 22)
  replace hr0 : RdP _ _ A0 1 c0 _ := RdR.nx hr0 hbs
  replace hr1 : RdP _ _ A1 1 c1 _ := RdR.nx hr1 hbs
  replace hr2 : RdP _ _ A2 8 c2 _ := RdR.nx hr2 hbs
  replace hr3 : RdP _ _ A3 1 c3 _ := RdR.nx hr3 hbs
  have hsz : (u3.alloc (.cells #[.slice A0 1 c0, .slice A1 1 c1, .slice A2 8 c2, .slice A3 1 c3] 22)).heap.size = u3.heap.size + 1 := World.size_alloc _ _
  have hlit := RdR.lit (size := 1) (e := 22) u3 [[.slice A0 1 c0], [.slice A1 1 c1], [.slice A2 8 c2], [.slice A3 1 c3]] #[.slice A0 1 c0, .slice A1 1 c1, .slice A2 8 c2, .slice A3 1 c3] rfl (by intro r hr; simp only [List.mem_cons, List.not_mem_nil, or_false] at hr; rcases hr with rfl | rfl | rfl | rfl <;> rfl) (by simp [maxLen]) 4 rfl
  rw [← hsz] at hlit
  have hof := of_any ⟨#[82, 67, 95, 67, 72, 65, 78, 78, 69, 76, 83, 95, 82, 65, 87]⟩ (some ⟨u3.heap.size, 0, none⟩) 4 4 [⟨A0, 1, c0, (mkP 4 false [⟨#[116, 105, 109, 101, 95, 98, 111, 111, 116, 95, 109, 115]⟩])⟩, ⟨A1, 1, c1, (mkP 1 false [⟨#[112, 111, 114, 116]⟩])⟩, ⟨A2, 8, c2, (mkP 2 false [⟨#[99, 104, 97, 110, 49, 95, 114, 97, 119]⟩, ⟨#[99, 104, 97, 110, 50, 95, 114, 97, 119]⟩, ⟨#[99, 104, 97, 110, 51, 95, 114, 97, 119]⟩, ⟨#[99, 104, 97, 110, 52, 95, 114, 97, 119]⟩, ⟨#[99, 104, 97, 110, 53, 95, 114, 97, 119]⟩, ⟨#[99, 104, 97, 110, 54, 95, 114, 97, 119]⟩, ⟨#[99, 104, 97, 110, 55, 95, 114, 97, 119]⟩, ⟨#[99, 104, 97, 110, 56, 95, 114, 97, 119]⟩])⟩, ⟨A3, 1, c3, (mkP 1 false [⟨#[114, 115, 115, 105]⟩])⟩] (u3.alloc (.cells #[.slice A0 1 c0, .slice A1 1 c1, .slice A2 8 c2, .slice A3 1 c3] 22)) ⟨hlit, by intro r hr; simp only [List.mem_cons, List.not_mem_nil, or_false] at hr; rcases hr with rfl | rfl | rfl | rfl <;> first | exact ⟨hr0, by show 1 ≤ 100; omega⟩ | exact ⟨hr1, by show 1 ≤ 100; omega⟩ | exact ⟨hr2, by show 8 ≤ 100; omega⟩ | exact ⟨hr3, by show 1 ≤ 100; omega⟩⟩ (by omega)
  have Hof := Lib.hid hof
  clear hof hlit hsz hr0 hr1 hr2 hr3
  replace a0 := blk_old a0 hbs (blk_lt a0)
  replace hb := bnx hb hbs
  clear hbs
  go_wp2_with fail
  go_fit Hof.out
  unfold RetFm
  rintro e v ⟨A, n, c, rfl, hr, hbx⟩
  replace a0 := blk_old a0 hbx (blk_lt a0)
  replace hb := bnx hb hbx
  clear hbx Hof
  have hb' := below_setRow hb (Nat.le_refl _) (#[.string ⟨#[82, 67, 95, 67, 72, 65, 78, 78, 69, 76, 83, 95, 82, 65, 87]⟩, .slice A n c] : Array Value)
  have b0 := setRow_heap _ _ _ (#[.string ⟨#[82, 67, 95, 67, 72, 65, 78, 78, 69, 76, 83, 95, 82, 65, 87]⟩, .slice A n c] : Array Value) _ _ a0
  have hrq : RdP (v.setRow w.heap.size #[.string ⟨#[82, 67, 95, 67, 72, 65, 78, 78, 69, 76, 83, 95, 82, 65, 87]⟩, .slice A n c]) (v.setRow w.heap.size #[.string ⟨#[82, 67, 95, 67, 72, 65, 78, 78, 69, 76, 83, 95, 82, 65, 87]⟩, .slice A n c]).heap.size A n c fm35.2 := rdP_set hr a0 (#[.string ⟨#[82, 67, 95, 67, 72, 65, 78, 78, 69, 76, 83, 95, 82, 65, 87]⟩, .slice A n c] : Array Value)
  go_wp2_with (first | (with_reducible refine stop_storeT 65 ?_))
  refine go_ (wpList_store_row rfl _ _ _ rfl w.heap.size #[.string ⟨#[82, 67, 95, 67, 72, 65, 78, 78, 69, 76, 83, 95, 82, 65, 87]⟩, .slice A n c] rfl rfl _ _ a0 (by kernel_rfl) rfl (by kernel_rfl) ?_)
  generalize (v.setRow w.heap.size #[.string ⟨#[82, 67, 95, 67, 72, 65, 78, 78, 69, 76, 83, 95, 82, 65, 87]⟩, .slice A n c]) = w9 at *
  have e0 := blk_cell (i := 0) (v := .string ⟨#[82, 67, 95, 67, 72, 65, 78, 78, 69, 76, 83, 95, 82, 65, 87]⟩) b0 rfl
  have e1 := blk_cell (i := 1) (v := .slice A n c) b0 rfl
  clear hr a0 b0 hb
  go_wp2
  exact bodyPost_ret (v := .agg #[.string ⟨#[82, 67, 95, 67, 72, 65, 78, 78, 69, 76, 83, 95, 82, 65, 87]⟩, .slice A n c]) (by simp [results, go_sem, e0, e1]) rfl ⟨A, n, c, rfl, hrq, hb'⟩
set_option maxRecDepth 20000 in
set_option maxHeartbeats 4000000 in
theorem asked_36 (w : World) : Calls Try.prog 74 #[.int .i64 36] w (RetFm fm36 w) := by
  have a0 := heap_alloc_new w (.cells #[.string ⟨#[]⟩, .slice none 0 0] 65)
  have hb : Below w.heap.size w (w.alloc (.cells #[.string ⟨#[]⟩, .slice none 0 0] 65)) := (Below.refl _ _).alloc (Nat.le_refl _) _
  have hz : (w.alloc (.cells #[.string ⟨#[]⟩, .slice none 0 0] 65)).heap.size = w.heap.size + 1 := World.size_alloc _ _
  have Hz := Lib.hid hz
  clear hz
  go_enter Try.func74, Try.ntmps74
  have hS := strs_lit (w.alloc (.cells #[.string ⟨#[]⟩, .slice none 0 0] 65)) [⟨#[116, 105, 109, 101, 95, 117, 115, 101, 99]⟩] #[.string ⟨#[116, 105, 109, 101, 95, 117, 115, 101, 99]⟩] rfl 1 rfl (by omega)
  have hbs := (Below.refl (w.alloc (.cells #[.string ⟨#[]⟩, .slice none 0 0] 65)).heap.size (w.alloc (.cells #[.string ⟨#[]⟩, .slice none 0 0] 65))).alloc (Nat.le_refl _) (.cells #[.string ⟨#[116, 105, 109, 101, 95, 117, 115, 101, 99]⟩] 9)
  rw [Hz.out] at hS
  have HS := Lib.hid hS
  clear hS
  go_wp2_with fail
  go_fit (u32_any (some ⟨w.heap.size + 1, 0, none⟩) 1 1 [⟨#[116, 105, 109, 101, 95, 117, 115, 101, 99]⟩] _ HS.out (by omega))
  unfold RetP
  rintro e u0 ⟨A0, n0, c0, rfl, hl, own, hbx⟩
  obtain rfl : n0 = 1 := hl
  have hbq := bnx hbs hbx
  replace a0 := blk_old a0 hbq (blk_lt a0)
  replace hb := bnx hb hbq
  have hr0 : RdP u0 u0.heap.size A0 1 c0 (mkP 4 false [⟨#[116, 105, 109, 101, 95, 117, 115, 101, 99]⟩]) := RdP.own own rfl
  clear own hbx hbq HS hbs
  have hS := strs_lit u0 [⟨#[112, 111, 114, 116]⟩] #[.string ⟨#[112, 111, 114, 116]⟩] rfl 1 rfl (by omega)
  have hbs := (Below.refl u0.heap.size u0).alloc (Nat.le_refl _) (.cells #[.string ⟨#[112, 111, 114, 116]⟩] 9)
  have HS := Lib.hid hS
  clear hS
  go_wp2_with fail
  go_fit (u8_any (some ⟨u0.heap.size, 0, none⟩) 1 1 [⟨#[112, 111, 114, 116]⟩] _ HS.out (by omega))
  unfold RetP
  rintro e u1 ⟨A1, n1, c1, rfl, hl, own, hbx⟩
  obtain rfl : n1 = 1 := hl
  have hbq := bnx hbs hbx
  replace a0 := blk_old a0 hbq (blk_lt a0)
  replace hb := bnx hb hbq
  replace hr0 : RdP _ _ A0 1 c0 _ := RdR.nx hr0 hbq
  have hr1 : RdP u1 u1.heap.size A1 1 c1 (mkP 1 false [⟨#[112, 111, 114, 116]⟩]) := RdP.own own rfl
  clear own hbx hbq HS hbs
  have hS := strs_lit u1 [⟨#[115, 101, 114, 118, 111, 49, 95, 114, 97, 119]⟩, ⟨#[115, 101, 114, 118, 111, 50, 95, 114, 97, 119]⟩, ⟨#[115, 101, 114, 118, 111, 51, 95, 114, 97, 119]⟩, ⟨#[115, 101, 114, 118, 111, 52, 95, 114, 97, 119]⟩, ⟨#[115, 101, 114, 118, 111, 53, 95, 114, 97, 119]⟩, ⟨#[115, 101, 114, 118, 111, 54, 95, 114, 97, 119]⟩, ⟨#[115, 101, 114, 118, 111, 55, 95, 114, 97, 119]⟩, ⟨#[115, 101, 114, 118, 111, 56, 95, 114, 97, 119]⟩] #[.string ⟨#[115, 101, 114, 118, 111, 49, 95, 114, 97, 119]⟩, .string ⟨#[115, 101, 114, 118, 111, 50, 95, 114, 97, 119]⟩, .string ⟨#[115, 101, 114, 118, 111, 51, 95, 114, 97, 119]⟩, .string ⟨#[115, 101, 114, 118, 111, 52, 95, 114, 97, 119]⟩, .string ⟨#[115, 101, 114, 118, 111, 53, 95, 114, 97, 119]⟩, .string ⟨#[115, 101, 114, 118, 111, 54, 95, 114, 97, 119]⟩, .string ⟨#[115, 101, 114, 118, 111, 55, 95, 114, 97, 119]⟩, .string ⟨#[115, 101, 114, 118, 111, 56, 95, 114, 97, 119]⟩] rfl 8 rfl (by omega)
  have hbs := (Below.refl u1.heap.size u1).alloc (Nat.le_refl _) (.cells #[.string ⟨#[115, 101, 114, 118, 111, 49, 95, 114, 97, 119]⟩, .string ⟨#[115, 101, 114, 118, 111, 50, 95, 114, 97, 119]⟩, .string ⟨#[115, 101, 114, 118, 111, 51, 95, 114, 97, 119]⟩, .string ⟨#[115, 101, 114, 118, 111, 52, 95, 114, 97, 119]⟩, .string ⟨#[115, 101, 114, 118, 111, 53, 95, 114, 97, 119]⟩, .string ⟨#[115, 101, 114, 118, 111, 54, 95, 114, 97, 119]⟩, .string ⟨#[115, 101, 114, 118, 111, 55, 95, 114, 97, 119]⟩, .string ⟨#[115, 101, 114, 118, 111, 56, 95, 114, 97, 119]⟩] 9)
  have HS := Lib.hid hS
  clear hS
  go_wp2_with fail
  go_fit (u16_any (some ⟨u1.heap.size, 0, none⟩) 8 8 [⟨#[115, 101, 114, 118, 111, 49, 95, 114, 97, 119]⟩, ⟨#[115, 101, 114, 118, 111, 50, 95, 114, 97, 119]⟩, ⟨#[115, 101, 114, 118, 111, 51, 95, 114, 97, 119]⟩, ⟨#[115, 101, 114, 118, 111, 52, 95, 114, 97, 119]⟩, ⟨#[115, 101, 114, 118, 111, 53, 95, 114, 97, 119]⟩, ⟨#[115, 101, 114, 118, 111, 54, 95, 114, 97, 119]⟩, ⟨#[115, 101, 114, 118, 111, 55, 95, 114, 97, 119]⟩, ⟨#[115, 101, 114, 118, 111, 56, 95, 114, 97, 119]⟩] _ HS.out (by omega))
  unfold RetP
  rintro e u2 ⟨A2, n2, c2, rfl, hl, own, hbx⟩
  obtain rfl : n2 = 8 := hl
  have hbq := bnx hbs hbx
  replace a0 := blk_old a0 hbq (blk_lt a0)
  replace hb := bnx hb hbq
  replace hr0 : RdP _ _ A0 1 c0 _ := RdR.nx hr0 hbq
  replace hr1 : RdP _ _ A1 1 c1 _ := RdR.nx hr1 hbq
  have hr2 : RdP u2 u2.heap.size A2 8 c2 (mkP 2 false [⟨#[115, 101, 114, 118, 111, 49, 95, 114, 97, 119]⟩, ⟨#[115, 101, 114, 118, 111, 50, 95, 114, 97, 119]⟩, ⟨#[115, 101, 114, 118, 111, 51, 95, 114, 97, 119]⟩, ⟨#[115, 101, 114, 118, 111, 52, 95, 114, 97, 119]⟩, ⟨#[115, 101, 114, 118, 111, 53, 95, 114, 97, 119]⟩, ⟨#[115, 101, 114, 118, 111, 54, 95, 114, 97, 119]⟩, ⟨#[115, 101, 114, 118, 111, 55, 95, 114, 97, 119]⟩, ⟨#[115, 101, 114, 118, 111, 56, 95, 114, 97, 119]⟩]) := RdP.own own rfl
  clear own hbx hbq HS hbs
  have hbs := (Below.refl u2.heap.size u2).alloc (Nat.le_refl _) (.cells #[.slice A0 1 c0, .slice A1 1 c1, .slice A2 8 c2] 22)
  replace hr0 : RdP _ _ A0 1 c0 _ := RdR.nx hr0 hbs
  replace hr1 : RdP _ _ A1 1 c1 _ := RdR.nx hr1 hbs
  replace hr2 : RdP _ _ A2 8 c2 _ := RdR.nx hr2 hbs
  have hsz : (u2.alloc (.cells #[.slice A0 1 c0, .slice A1 1 c1, .slice A2 8 c2] 22)).heap.size = u2.heap.size + 1 := World.size_alloc _ _
  have hlit := RdR.lit (size := 1) (e := 22) u2 [[.slice A0 1 c0], [.slice A1 1 c1], [.slice A2 8 c2]] #[.slice A0 1 c0, .slice A1 1 c1, .slice A2 8 c2] rfl (by intro r hr; simp only [List.mem_cons, List.not_mem_nil, or_false] at hr; rcases hr with rfl | rfl | rfl <;> rfl) (by simp [maxLen]) 3 rfl
  rw [← hsz] at hlit
  have hof := of_any ⟨#[83, 69, 82, 86, 79, 95, 79, 85, 84, 80, 85, 84, 95, 82, 65, 87]⟩ (some ⟨u2.heap.size, 0, none⟩) 3 3 [⟨A0, 1, c0, (mkP 4 false [⟨#[116, 105, 109, 101, 95, 117, 115, 101, 99]⟩])⟩, ⟨A1, 1, c1, (mkP 1 false [⟨#[112, 111, 114, 116]⟩])⟩, ⟨A2, 8, c2, (mkP 2 false [⟨#[115, 101, 114, 118, 111, 49, 95, 114, 97, 119]⟩, ⟨#[115, 101, 114, 118, 111, 50, 95, 114, 97, 119]⟩, ⟨#[115, 101, 114, 118, 111, 51, 95, 114, 97, 119]⟩, ⟨#[115, 101, 114, 118, 111, 52, 95, 114, 97, 119]⟩, ⟨#[115, 101, 114, 118, 111, 53, 95, 114, 97, 119]⟩, ⟨#[115, 101, 114, 118, 111, 54, 95, 114, 97, 119]⟩, ⟨#[115, 101, 114, 118, 111, 55, 95, 114, 97, 119]⟩, ⟨#[115, 101, 114, 118, 111, 56, 95, 114, 97, 119]⟩])⟩] (u2.alloc (.cells #[.slice A0 1 c0, .slice A1 1 c1, .slice A2 8 c2] 22)) ⟨hlit, by intro r hr; simp only [List.mem_cons, List.not_mem_nil, or_false] at hr; rcases hr with rfl | rfl | rfl <;> first | exact ⟨hr0, by show 1 ≤ 100; omega⟩ | exact ⟨hr1, by show 1 ≤ 100; omega⟩ | exact ⟨hr2, by show 8 ≤ 100; omega⟩⟩ (by omega)
  have Hof := Lib.hid hof
  clear hof hlit hsz hr0 hr1 hr2
  replace a0 := blk_old a0 hbs (blk_lt a0)
  replace hb := bnx hb hbs
  clear hbs
  go_wp2_with fail
  go_fit Hof.out
  unfold RetFm
  rintro e v ⟨A, n, c, rfl, hr, hbx⟩
  replace a0 := blk_old a0 hbx (blk_lt a0)
  replace hb := bnx hb hbx
  clear hbx Hof
  have hb' := below_setRow hb (Nat.le_refl _) (#[.string ⟨#[83, 69, 82, 86, 79, 95, 79, 85, 84, 80, 85, 84, 95, 82, 65, 87]⟩, .slice A n c] : Array Value)
  have b0 := setRow_heap _ _ _ (#[.string ⟨#[83, 69, 82, 86, 79, 95, 79, 85, 84, 80, 85, 84, 95, 82, 65, 87]⟩, .slice A n c] : Array Value) _ _ a0
  have hrq : RdP (v.setRow w.heap.size #[.string ⟨#[83, 69, 82, 86, 79, 95, 79, 85, 84, 80, 85, 84, 95, 82, 65, 87]⟩, .slice A n c]) (v.setRow w.heap.size #[.string ⟨#[83, 69, 82, 86, 79, 95, 79, 85, 84, 80, 85, 84, 95, 82, 65, 87]⟩, .slice A n c]).heap.size A n c fm36.2 := rdP_set hr a0 (#[.string ⟨#[83, 69, 82, 86, 79, 95, 79, 85, 84, 80, 85, 84, 95, 82, 65, 87]⟩, .slice A n c] : Array Value)
  go_wp2_with (first | (with_reducible refine stop_storeT 65 ?_))
  refine go_ (wpList_store_row rfl _ _ _ rfl w.heap.size #[.string ⟨#[83, 69, 82, 86, 79, 95, 79, 85, 84, 80, 85, 84, 95, 82, 65, 87]⟩, .slice A n c] rfl rfl _ _ a0 (by kernel_rfl) rfl (by kernel_rfl) ?_)
  generalize (v.setRow w.heap.size #[.string ⟨#[83, 69, 82, 86, 79, 95, 79, 85, 84, 80, 85, 84, 95, 82, 65, 87]⟩, .slice A n c]) = w9 at *
  have e0 := blk_cell (i := 0) (v := .string ⟨#[83, 69, 82, 86, 79, 95, 79, 85, 84, 80, 85, 84, 95, 82, 65, 87]⟩) b0 rfl
  have e1 := blk_cell (i := 1) (v := .slice A n c) b0 rfl
  clear hr a0 b0 hb
  go_wp2
  exact bodyPost_ret (v := .agg #[.string ⟨#[83, 69, 82, 86, 79, 95, 79, 85, 84, 80, 85, 84, 95, 82, 65, 87]⟩, .slice A n c]) (by simp [results, go_sem, e0, e1]) rfl ⟨A, n, c, rfl, hrq, hb'⟩
set_option maxRecDepth 20000 in
set_option maxHeartbeats 4000000 in
theorem asked_42 (w : World) : Calls Try.prog 74 #[.int .i64 42] w (RetFm fm42 w) := by
  have a0 := heap_alloc_new w (.cells #[.string ⟨#[]⟩, .slice none 0 0] 65)
  have hb : Below w.heap.size w (w.alloc (.cells #[.string ⟨#[]⟩, .slice none 0 0] 65)) := (Below.refl _ _).alloc (Nat.le_refl _) _
  have hz : (w.alloc (.cells #[.string ⟨#[]⟩, .slice none 0 0] 65)).heap.size = w.heap.size + 1 := World.size_alloc _ _
  have Hz := Lib.hid hz
  clear hz
  go_enter Try.func74, Try.ntmps74
  have hS := strs_lit (w.alloc (.cells #[.string ⟨#[]⟩, .slice none 0 0] 65)) [⟨#[115, 101, 113]⟩] #[.string ⟨#[115, 101, 113]⟩] rfl 1 rfl (by omega)
  have hbs := (Below.refl (w.alloc (.cells #[.string ⟨#[]⟩, .slice none 0 0] 65)).heap.size (w.alloc (.cells #[.string ⟨#[]⟩, .slice none 0 0] 65))).alloc (Nat.le_refl _) (.cells #[.string ⟨#[115, 101, 113]⟩] 9)
  rw [Hz.out] at hS
  have HS := Lib.hid hS
  clear hS
  go_wp2_with fail
  go_fit (u16_any (some ⟨w.heap.size + 1, 0, none⟩) 1 1 [⟨#[115, 101, 113]⟩] _ HS.out (by omega))
  unfold RetP
  rintro e u0 ⟨A0, n0, c0, rfl, hl, own, hbx⟩
  obtain rfl : n0 = 1 := hl
  have hbq := bnx hbs hbx
  replace a0 := blk_old a0 hbq (blk_lt a0)
  replace hb := bnx hb hbq
  have hr0 : RdP u0 u0.heap.size A0 1 c0 (mkP 2 false [⟨#[115, 101, 113]⟩]) := RdP.own own rfl
  clear own hbx hbq HS hbs
  have hbs := (Below.refl u0.heap.size u0).alloc (Nat.le_refl _) (.cells #[.slice A0 1 c0] 22)
  replace hr0 : RdP _ _ A0 1 c0 _ := RdR.nx hr0 hbs
  have hsz : (u0.alloc (.cells #[.slice A0 1 c0] 22)).heap.size = u0.heap.size + 1 := World.size_alloc _ _
  have hlit := RdR.lit (size := 1) (e := 22) u0 [[.slice A0 1 c0]] #[.slice A0 1 c0] rfl (by intro r hr; simp only [List.mem_cons, List.not_mem_nil, or_false] at hr; rcases hr with rfl <;> rfl) (by simp [maxLen]) 1 rfl
  rw [← hsz] at hlit
  have hof := of_any ⟨#[77, 73, 83, 83, 73, 79, 78, 95, 67, 85, 82, 82, 69, 78, 84]⟩ (some ⟨u0.heap.size, 0, none⟩) 1 1 [⟨A0, 1, c0, (mkP 2 false [⟨#[115, 101, 113]⟩])⟩] (u0.alloc (.cells #[.slice A0 1 c0] 22)) ⟨hlit, by intro r hr; simp only [List.mem_cons, List.not_mem_nil, or_false] at hr; rcases hr with rfl <;> first | exact ⟨hr0, by show 1 ≤ 100; omega⟩⟩ (by omega)
  have Hof := Lib.hid hof
  clear hof hlit hsz hr0
  replace a0 := blk_old a0 hbs (blk_lt a0)
  replace hb := bnx hb hbs
  clear hbs
  go_wp2_with fail
  go_fit Hof.out
  unfold RetFm
  rintro e v ⟨A, n, c, rfl, hr, hbx⟩
  replace a0 := blk_old a0 hbx (blk_lt a0)
  replace hb := bnx hb hbx
  clear hbx Hof
  have hb' := below_setRow hb (Nat.le_refl _) (#[.string ⟨#[77, 73, 83, 83, 73, 79, 78, 95, 67, 85, 82, 82, 69, 78, 84]⟩, .slice A n c] : Array Value)
  have b0 := setRow_heap _ _ _ (#[.string ⟨#[77, 73, 83, 83, 73, 79, 78, 95, 67, 85, 82, 82, 69, 78, 84]⟩, .slice A n c] : Array Value) _ _ a0
  have hrq : RdP (v.setRow w.heap.size #[.string ⟨#[77, 73, 83, 83, 73, 79, 78, 95, 67, 85, 82, 82, 69, 78, 84]⟩, .slice A n c]) (v.setRow w.heap.size #[.string ⟨#[77, 73, 83, 83, 73, 79, 78, 95, 67, 85, 82, 82, 69, 78, 84]⟩, .slice A n c]).heap.size A n c fm42.2 := rdP_set hr a0 (#[.string ⟨#[77, 73, 83, 83, 73, 79, 78, 95, 67, 85, 82, 82, 69, 78, 84]⟩, .slice A n c] : Array Value)
  go_wp2_with (first | (with_reducible refine stop_storeT 65 ?_))
  refine go_ (wpList_store_row rfl _ _ _ rfl w.heap.size #[.string ⟨#[77, 73, 83, 83, 73, 79, 78, 95, 67, 85, 82, 82, 69, 78, 84]⟩, .slice A n c] rfl rfl _ _ a0 (by kernel_rfl) rfl (by kernel_rfl) ?_)
  generalize (v.setRow w.heap.size #[.string ⟨#[77, 73, 83, 83, 73, 79, 78, 95, 67, 85, 82, 82, 69, 78, 84]⟩, .slice A n c]) = w9 at *
  have e0 := blk_cell (i := 0) (v := .string ⟨#[77, 73, 83, 83, 73, 79, 78, 95, 67, 85, 82, 82, 69, 78, 84]⟩) b0 rfl
  have e1 := blk_cell (i := 1) (v := .slice A n c) b0 rfl
  clear hr a0 b0 hb
  go_wp2
  exact bodyPost_ret (v := .agg #[.string ⟨#[77, 73, 83, 83, 73, 79, 78, 95, 67, 85, 82, 82, 69, 78, 84]⟩, .slice A n c]) (by simp [results, go_sem, e0, e1]) rfl ⟨A, n, c, rfl, hrq, hb'⟩
set_option maxRecDepth 20000 in
set_option maxHeartbeats 4000000 in
theorem asked_44 (w : World) : Calls Try.prog 74 #[.int .i64 44] w (RetFm fm44 w) := by
  have a0 := heap_alloc_new w (.cells #[.string ⟨#[]⟩, .slice none 0 0] 65)
  have hb : Below w.heap.size w (w.alloc (.cells #[.string ⟨#[]⟩, .slice none 0 0] 65)) := (Below.refl _ _).alloc (Nat.le_refl _) _
  have hz : (w.alloc (.cells #[.string ⟨#[]⟩, .slice none 0 0] 65)).heap.size = w.heap.size + 1 := World.size_alloc _ _
  have Hz := Lib.hid hz
  clear hz
  go_enter Try.func74, Try.ntmps74
  have hS := strs_lit (w.alloc (.cells #[.string ⟨#[]⟩, .slice none 0 0] 65)) [⟨#[116, 97, 114, 103, 101, 116, 95, 115, 121, 115, 116, 101, 109]⟩, ⟨#[116, 97, 114, 103, 101, 116, 95, 99, 111, 109, 112, 111, 110, 101, 110, 116]⟩] #[.string ⟨#[116, 97, 114, 103, 101, 116, 95, 115, 121, 115, 116, 101, 109]⟩, .string ⟨#[116, 97, 114, 103, 101, 116, 95, 99, 111, 109, 112, 111, 110, 101, 110, 116]⟩] rfl 2 rfl (by omega)
  have hbs := (Below.refl (w.alloc (.cells #[.string ⟨#[]⟩, .slice none 0 0] 65)).heap.size (w.alloc (.cells #[.string ⟨#[]⟩, .slice none 0 0] 65))).alloc (Nat.le_refl _) (.cells #[.string ⟨#[116, 97, 114, 103, 101, 116, 95, 115, 121, 115, 116, 101, 109]⟩, .string ⟨#[116, 97, 114, 103, 101, 116, 95, 99, 111, 109, 112, 111, 110, 101, 110, 116]⟩] 9)
  rw [Hz.out] at hS
  have HS := Lib.hid hS
  clear hS
  go_wp2_with fail
  go_fit (u8_any (some ⟨w.heap.size + 1, 0, none⟩) 2 2 [⟨#[116, 97, 114, 103, 101, 116, 95, 115, 121, 115, 116, 101, 109]⟩, ⟨#[116, 97, 114, 103, 101, 116, 95, 99, 111, 109, 112, 111, 110, 101, 110, 116]⟩] _ HS.out (by omega))
  unfold RetP
  rintro e u0 ⟨A0, n0, c0, rfl, hl, own, hbx⟩
  obtain rfl : n0 = 2 := hl
  have hbq := bnx hbs hbx
  replace a0 := blk_old a0 hbq (blk_lt a0)
  replace hb := bnx hb hbq
  have hr0 : RdP u0 u0.heap.size A0 2 c0 (mkP 1 false [⟨#[116, 97, 114, 103, 101, 116, 95, 115, 121, 115, 116, 101, 109]⟩, ⟨#[116, 97, 114, 103, 101, 116, 95, 99, 111, 109, 112, 111, 110, 101, 110, 116]⟩]) := RdP.own own rfl
  clear own hbx hbq HS hbs
  have hS := strs_lit u0 [⟨#[99, 111, 117, 110, 116]⟩] #[.string ⟨#[99, 111, 117, 110, 116]⟩] rfl 1 rfl (by omega)
  have hbs := (Below.refl u0.heap.size u0).alloc (Nat.le_refl _) (.cells #[.string ⟨#[99, 111, 117, 110, 116]⟩] 9)
  have HS := Lib.hid hS
  clear hS
  go_wp2_with fail
  go_fit (u16_any (some ⟨u0.heap.size, 0, none⟩) 1 1 [⟨#[99, 111, 117, 110, 116]⟩] _ HS.out (by omega))
  unfold RetP
  rintro e u1 ⟨A1, n1, c1, rfl, hl, own, hbx⟩
  obtain rfl : n1 = 1 := hl
  have hbq := bnx hbs hbx
  replace a0 := blk_old a0 hbq (blk_lt a0)
  replace hb := bnx hb hbq
  replace hr0 : RdP _ _ A0 2 c0 _ := RdR.nx hr0 hbq
  have hr1 : RdP u1 u1.heap.size A1 1 c1 (mkP 2 false [⟨#[99, 111, 117, 110, 116]⟩]) := RdP.own own rfl
  clear own hbx hbq HS hbs
  have hbs := (Below.refl u1.heap.size u1).alloc (Nat.le_refl _) (.cells #[.slice A0 2 c0, .slice A1 1 c1] 22)
  replace hr0 : RdP _ _ A0 2 c0 _ := RdR.nx hr0 hbs
  replace hr1 : RdP _ _ A1 1 c1 _ := RdR.nx hr1 hbs
  have hsz : (u1.alloc (.cells #[.slice A0 2 c0, .slice A1 1 c1] 22)).heap.size = u1.heap.size + 1 := World.size_alloc _ _
  have hlit := RdR.lit (size := 1) (e := 22) u1 [[.slice A0 2 c0], [.slice A1 1 c1]] #[.slice A0 2 c0, .slice A1 1 c1] rfl (by intro r hr; simp only [List.mem_cons, List.not_mem_nil, or_false] at hr; rcases hr with rfl | rfl <;> rfl) (by simp [maxLen]) 2 rfl
  rw [← hsz] at hlit
  have hof := of_any ⟨#[77, 73, 83, 83, 73, 79, 78, 95, 67, 79, 85, 78, 84]⟩ (some ⟨u1.heap.size, 0, none⟩) 2 2 [⟨A0, 2, c0, (mkP 1 false [⟨#[116, 97, 114, 103, 101, 116, 95, 115, 121, 115, 116, 101, 109]⟩, ⟨#[116, 97, 114, 103, 101, 116, 95, 99, 111, 109, 112, 111, 110, 101, 110, 116]⟩])⟩, ⟨A1, 1, c1, (mkP 2 false [⟨#[99, 111, 117, 110, 116]⟩])⟩] (u1.alloc (.cells #[.slice A0 2 c0, .slice A1 1 c1] 22)) ⟨hlit, by intro r hr; simp only [List.mem_cons, List.not_mem_nil, or_false] at hr; rcases hr with rfl | rfl <;> first | exact ⟨hr0, by show 2 ≤ 100; omega⟩ | exact ⟨hr1, by show 1 ≤ 100; omega⟩⟩ (by omega)
  have Hof := Lib.hid hof
  clear hof hlit hsz hr0 hr1
  replace a0 := blk_old a0 hbs (blk_lt a0)
  replace hb := bnx hb hbs
  clear hbs
  go_wp2_with fail
  go_fit Hof.out
  unfold RetFm
  rintro e v ⟨A, n, c, rfl, hr, hbx⟩
  replace a0 := blk_old a0 hbx (blk_lt a0)
  replace hb := bnx hb hbx
  clear hbx Hof
  have hb' := below_setRow hb (Nat.le_refl _) (#[.string ⟨#[77, 73, 83, 83, 73, 79, 78, 95, 67, 79, 85, 78, 84]⟩, .slice A n c] : Array Value)
  have b0 := setRow_heap _ _ _ (#[.string ⟨#[77, 73, 83, 83, 73, 79, 78, 95, 67, 79, 85, 78, 84]⟩, .slice A n c] : Array Value) _ _ a0
  have hrq : RdP (v.setRow w.heap.size #[.string ⟨#[77, 73, 83, 83, 73, 79, 78, 95, 67, 79, 85, 78, 84]⟩, .slice A n c]) (v.setRow w.heap.size #[.string ⟨#[77, 73, 83, 83, 73, 79, 78, 95, 67, 79, 85, 78, 84]⟩, .slice A n c]).heap.size A n c fm44.2 := rdP_set hr a0 (#[.string ⟨#[77, 73, 83, 83, 73, 79, 78, 95, 67, 79, 85, 78, 84]⟩, .slice A n c] : Array Value)
  go_wp2_with (first | (with_reducible refine stop_storeT 65 ?_))
  refine go_ (wpList_store_row rfl _ _ _ rfl w.heap.size #[.string ⟨#[77, 73, 83, 83, 73, 79, 78, 95, 67, 79, 85, 78, 84]⟩, .slice A n c] rfl rfl _ _ a0 (by kernel_rfl) rfl (by kernel_rfl) ?_)
  generalize (v.setRow w.heap.size #[.string ⟨#[77, 73, 83, 83, 73, 79, 78, 95, 67, 79, 85, 78, 84]⟩, .slice A n c]) = w9 at *
  have e0 := blk_cell (i := 0) (v := .string ⟨#[77, 73, 83, 83, 73, 79, 78, 95, 67, 79, 85, 78, 84]⟩) b0 rfl
  have e1 := blk_cell (i := 1) (v := .slice A n c) b0 rfl
  clear hr a0 b0 hb
  go_wp2
  exact bodyPost_ret (v := .agg #[.string ⟨#[77, 73, 83, 83, 73, 79, 78, 95, 67, 79, 85, 78, 84]⟩, .slice A n c]) (by simp [results, go_sem, e0, e1]) rfl ⟨A, n, c, rfl, hrq, hb'⟩
set_option maxRecDepth 20000 in
set_option maxHeartbeats 4000000 in
theorem asked_47 (w : World) : Calls Try.prog 74 #[.int .i64 47] w (RetFm fm47 w) := by
  have a0 := heap_alloc_new w (.cells #[.string ⟨#[]⟩, .slice none 0 0] 65)
  have hb : Below w.heap.size w (w.alloc (.cells #[.string ⟨#[]⟩, .slice none 0 0] 65)) := (Below.refl _ _).alloc (Nat.le_refl _) _
  have hz : (w.alloc (.cells #[.string ⟨#[]⟩, .slice none 0 0] 65)).heap.size = w.heap.size + 1 := World.size_alloc _ _
  have Hz := Lib.hid hz
  clear hz
  go_enter Try.func74, Try.ntmps74
  have hS := strs_lit (w.alloc (.cells #[.string ⟨#[]⟩, .slice none 0 0] 65)) [⟨#[116, 97, 114, 103, 101, 116, 95, 115, 121, 115, 116, 101, 109]⟩, ⟨#[116, 97, 114, 103, 101, 116, 95, 99, 111, 109, 112, 111, 110, 101, 110, 116]⟩, ⟨#[116, 121, 112, 101]⟩] #[.string ⟨#[116, 97, 114, 103, 101, 116, 95, 115, 121, 115, 116, 101, 109]⟩, .string ⟨#[116, 97, 114, 103, 101, 116, 95, 99, 111, 109, 112, 111, 110, 101, 110, 116]⟩, .string ⟨#[116, 121, 112, 101]⟩] rfl 3 rfl (by omega)
  have hbs := (Below.refl (w.alloc (.cells #[.string ⟨#[]⟩, .slice none 0 0] 65)).heap.size (w.alloc (.cells #[.string ⟨#[]⟩, .slice none 0 0] 65))).alloc (Nat.le_refl _) (.cells #[.string ⟨#[116, 97, 114, 103, 101, 116, 95, 115, 121, 115, 116, 101, 109]⟩, .string ⟨#[116, 97, 114, 103, 101, 116, 95, 99, 111, 109, 112, 111, 110, 101, 110, 116]⟩, .string ⟨#[116, 121, 112, 101]⟩] 9)
  rw [Hz.out] at hS
  have HS := Lib.hid hS
  clear hS
  go_wp2_with fail
  go_fit (u8_any (some ⟨w.heap.size + 1, 0, none⟩) 3 3 [⟨#[116, 97, 114, 103, 101, 116, 95, 115, 121, 115, 116, 101, 109]⟩, ⟨#[116, 97, 114, 103, 101, 116, 95, 99, 111, 109, 112, 111, 110, 101, 110, 116]⟩, ⟨#[116, 121, 112, 101]⟩] _ HS.out (by omega))
  unfold RetP
  rintro e u0 ⟨A0, n0, c0, rfl, hl, own, hbx⟩
  obtain rfl : n0 = 3 := hl
  have hbq := bnx hbs hbx
  replace a0 := blk_old a0 hbq (blk_lt a0)
  replace hb := bnx hb hbq
  have hr0 : RdP u0 u0.heap.size A0 3 c0 (mkP 1 false [⟨#[116, 97, 114, 103, 101, 116, 95, 115, 121, 115, 116, 101, 109]⟩, ⟨#[116, 97, 114, 103, 101, 116, 95, 99, 111, 109, 112, 111, 110, 101, 110, 116]⟩, ⟨#[116, 121, 112, 101]⟩]) := RdP.own own rfl
  clear own hbx hbq HS hbs
  have hbs := (Below.refl u0.heap.size u0).alloc (Nat.le_refl _) (.cells #[.slice A0 3 c0] 22)
  replace hr0 : RdP _ _ A0 3 c0 _ := RdR.nx hr0 hbs
  have hsz : (u0.alloc (.cells #[.slice A0 3 c0] 22)).heap.size = u0.heap.size + 1 := World.size_alloc _ _
  have hlit := RdR.lit (size := 1) (e := 22) u0 [[.slice A0 3 c0]] #[.slice A0 3 c0] rfl (by intro r hr; simp only [List.mem_cons, List.not_mem_nil, or_false] at hr; rcases hr with rfl <;> rfl) (by simp [maxLen]) 1 rfl
  rw [← hsz] at hlit
  have hof := of_any ⟨#[77, 73, 83, 83, 73, 79, 78, 95, 65, 67, 75]⟩ (some ⟨u0.heap.size, 0, none⟩) 1 1 [⟨A0, 3, c0, (mkP 1 false [⟨#[116, 97, 114, 103, 101, 116, 95, 115, 121, 115, 116, 101, 109]⟩, ⟨#[116, 97, 114, 103, 101, 116, 95, 99, 111, 109, 112, 111, 110, 101, 110, 116]⟩, ⟨#[116, 121, 112, 101]⟩])⟩] (u0.alloc (.cells #[.slice A0 3 c0] 22)) ⟨hlit, by intro r hr; simp only [List.mem_cons, List.not_mem_nil, or_false] at hr; rcases hr with rfl <;> first | exact ⟨hr0, by show 3 ≤ 100; omega⟩⟩ (by omega)
  have Hof := Lib.hid hof
  clear hof hlit hsz hr0
  replace a0 := blk_old a0 hbs (blk_lt a0)
  replace hb := bnx hb hbs
  clear hbs
  go_wp2_with fail
  go_fit Hof.out
  unfold RetFm
  rintro e v ⟨A, n, c, rfl, hr, hbx⟩
  replace a0 := blk_old a0 hbx (blk_lt a0)
  replace hb := bnx hb hbx
  clear hbx Hof
  have hb' := below_setRow hb (Nat.le_refl _) (#[.string ⟨#[77, 73, 83, 83, 73, 79, 78, 95, 65, 67, 75]⟩, .slice A n c] : Array Value)
  have b0 := setRow_heap _ _ _ (#[.string ⟨#[77, 73, 83, 83, 73, 79, 78, 95, 65, 67, 75]⟩, .slice A n c] : Array Value) _ _ a0
  have hrq : RdP (v.setRow w.heap.size #[.string ⟨#[77, 73, 83, 83, 73, 79, 78, 95, 65, 67, 75]⟩, .slice A n c]) (v.setRow w.heap.size #[.string ⟨#[77, 73, 83, 83, 73, 79, 78, 95, 65, 67, 75]⟩, .slice A n c]).heap.size A n c fm47.2 := rdP_set hr a0 (#[.string ⟨#[77, 73, 83, 83, 73, 79, 78, 95, 65, 67, 75]⟩, .slice A n c] : Array Value)
  go_wp2_with (first | (with_reducible refine stop_storeT 65 ?_))
  refine go_ (wpList_store_row rfl _ _ _ rfl w.heap.size #[.string ⟨#[77, 73, 83, 83, 73, 79, 78, 95, 65, 67, 75]⟩, .slice A n c] rfl rfl _ _ a0 (by kernel_rfl) rfl (by kernel_rfl) ?_)
  generalize (v.setRow w.heap.size #[.string ⟨#[77, 73, 83, 83, 73, 79, 78, 95, 65, 67, 75]⟩, .slice A n c]) = w9 at *
  have e0 := blk_cell (i := 0) (v := .string ⟨#[77, 73, 83, 83, 73, 79, 78, 95, 65, 67, 75]⟩) b0 rfl
  have e1 := blk_cell (i := 1) (v := .slice A n c) b0 rfl
  clear hr a0 b0 hb
  go_wp2
  exact bodyPost_ret (v := .agg #[.string ⟨#[77, 73, 83, 83, 73, 79, 78, 95, 65, 67, 75]⟩, .slice A n c]) (by simp [results, go_sem, e0, e1]) rfl ⟨A, n, c, rfl, hrq, hb'⟩
set_option maxRecDepth 20000 in
set_option maxHeartbeats 4000000 in
theorem asked_66 (w : World) : Calls Try.prog 74 #[.int .i64 66] w (RetFm fm66 w) := by
  have a0 := heap_alloc_new w (.cells #[.string ⟨#[]⟩, .slice none 0 0] 65)
  have hb : Below w.heap.size w (w.alloc (.cells #[.string ⟨#[]⟩, .slice none 0 0] 65)) := (Below.refl _ _).alloc (Nat.le_refl _) _
  have hz : (w.alloc (.cells #[.string ⟨#[]⟩, .slice none 0 0] 65)).heap.size = w.heap.size + 1 := World.size_alloc _ _
  have Hz := Lib.hid hz
  clear hz
  go_enter Try.func74, Try.ntmps74
  have hS := strs_lit (w.alloc (.cells #[.string ⟨#[]⟩, .slice none 0 0] 65)) [⟨#[116, 97, 114, 103, 101, 116, 95, 115, 121, 115, 116, 101, 109]⟩, ⟨#[116, 97, 114, 103, 101, 116, 95, 99, 111, 109, 112, 111, 110, 101, 110, 116]⟩, ⟨#[114, 101, 113, 95, 115, 116, 114, 101, 97, 109, 95, 105, 100]⟩] #[.string ⟨#[116, 97, 114, 103, 101, 116, 95, 115, 121, 115, 116, 101, 109]⟩, .string ⟨#[116, 97, 114, 103, 101, 116, 95, 99, 111, 109, 112, 111, 110, 101, 110, 116]⟩, .string ⟨#[114, 101, 113, 95, 115, 116, 114, 101, 97, 109, 95, 105, 100]⟩] rfl 3 rfl (by omega)
  have hbs := (Below.refl (w.alloc (.cells #[.string ⟨#[]⟩, .slice none 0 0] 65)).heap.size (w.alloc (.cells #[.string ⟨#[]⟩, .slice none 0 0] 65))).alloc (Nat.le_refl _) (.cells #[.string ⟨#[116, 97, 114, 103, 101, 116, 95, 115, 121, 115, 116, 101, 109]⟩, .string ⟨#[116, 97, 114, 103, 101, 116, 95, 99, 111, 109, 112, 111, 110, 101, 110, 116]⟩, .string ⟨#[114, 101, 113, 95, 115, 116, 114, 101, 97, 109, 95, 105, 100]⟩] 9)
  rw [Hz.out] at hS
  have HS := Lib.hid hS
  clear hS
  go_wp2_with fail
  go_fit (u8_any (some ⟨w.heap.size + 1, 0, none⟩) 3 3 [⟨#[116, 97, 114, 103, 101, 116, 95, 115, 121, 115, 116, 101, 109]⟩, ⟨#[116, 97, 114, 103, 101, 116, 95, 99, 111, 109, 112, 111, 110, 101, 110, 116]⟩, ⟨#[114, 101, 113, 95, 115, 116, 114, 101, 97, 109, 95, 105, 100]⟩] _ HS.out (by omega))
  unfold RetP
  rintro e u0 ⟨A0, n0, c0, rfl, hl, own, hbx⟩
  obtain rfl : n0 = 3 := hl
  have hbq := bnx hbs hbx
  replace a0 := blk_old a0 hbq (blk_lt a0)
  replace hb := bnx hb hbq
  have hr0 : RdP u0 u0.heap.size A0 3 c0 (mkP 1 false [⟨#[116, 97, 114, 103, 101, 116, 95, 115, 121, 115, 116, 101, 109]⟩, ⟨#[116, 97, 114, 103, 101, 116, 95, 99, 111, 109, 112, 111, 110, 101, 110, 116]⟩, ⟨#[114, 101, 113, 95, 115, 116, 114, 101, 97, 109, 95, 105, 100]⟩]) := RdP.own own rfl
  clear own hbx hbq HS hbs
  have hS := strs_lit u0 [⟨#[114, 101, 113, 95, 109, 101, 115, 115, 97, 103, 101, 95, 114, 97, 116, 101]⟩] #[.string ⟨#[114, 101, 113, 95, 109, 101, 115, 115, 97, 103, 101, 95, 114, 97, 116, 101]⟩] rfl 1 rfl (by omega)
  have hbs := (Below.refl u0.heap.size u0).alloc (Nat.le_refl _) (.cells #[.string ⟨#[114, 101, 113, 95, 109, 101, 115, 115, 97, 103, 101, 95, 114, 97, 116, 101]⟩] 9)
  have HS := Lib.hid hS
  clear hS
  go_wp2_with fail
  go_fit (u16_any (some ⟨u0.heap.size, 0, none⟩) 1 1 [⟨#[114, 101, 113, 95, 109, 101, 115, 115, 97, 103, 101, 95, 114, 97, 116, 101]⟩] _ HS.out (by omega))
  unfold RetP
  rintro e u1 ⟨A1, n1, c1, rfl, hl, own, hbx⟩
  obtain rfl : n1 = 1 := hl
  have hbq := bnx hbs hbx
  replace a0 := blk_old a0 hbq (blk_lt a0)
  replace hb := bnx hb hbq
  replace hr0 : RdP _ _ A0 3 c0 _ := RdR.nx hr0 hbq
  have hr1 : RdP u1 u1.heap.size A1 1 c1 (mkP 2 false [⟨#[114, 101, 113, 95, 109, 101, 115, 115, 97, 103, 101, 95, 114, 97, 116, 101]⟩]) := RdP.own own rfl
  clear own hbx hbq HS hbs
  have hS := strs_lit u1 [⟨#[115, 116, 97, 114, 116, 95, 115, 116, 111, 112]⟩] #[.string ⟨#[115, 116, 97, 114, 116, 95, 115, 116, 111, 112]⟩] rfl 1 rfl (by omega)
  have hbs := (Below.refl u1.heap.size u1).alloc (Nat.le_refl _) (.cells #[.string ⟨#[115, 116, 97, 114, 116, 95, 115, 116, 111, 112]⟩] 9)
  have HS := Lib.hid hS
  clear hS
  go_wp2_with fail
  go_fit (u8_any (some ⟨u1.heap.size, 0, none⟩) 1 1 [⟨#[115, 116, 97, 114, 116, 95, 115, 116, 111, 112]⟩] _ HS.out (by omega))
  unfold RetP
  rintro e u2 ⟨A2, n2, c2, rfl, hl, own, hbx⟩
  obtain rfl : n2 = 1 := hl
  have hbq := bnx hbs hbx
  replace a0 := blk_old a0 hbq (blk_lt a0)
  replace hb := bnx hb hbq
  replace hr0 : RdP _ _ A0 3 c0 _ := RdR.nx hr0 hbq
  replace hr1 : RdP _ _ A1 1 c1 _ := RdR.nx hr1 hbq
  have hr2 : RdP u2 u2.heap.size A2 1 c2 (mkP 1 false [⟨#[115, 116, 97, 114, 116, 95, 115, 116, 111, 112]⟩]) := RdP.own own rfl
  clear own hbx hbq HS hbs
  have hbs := (Below.refl u2.heap.size u2).alloc (Nat.le_refl _) (.cells #[.slice A0 3 c0, .slice A1 1 c1, .slice A2 1 c2] 22)
  replace hr0 : RdP _ _ A0 3 c0 _ := RdR.nx hr0 hbs
  replace hr1 : RdP _ _ A1 1 c1 _ := RdR.nx hr1 hbs
  replace hr2 : RdP _ _ A2 1 c2 _ := RdR.nx hr2 hbs
  have hsz : (u2.alloc (.cells #[.slice A0 3 c0, .slice A1 1 c1, .slice A2 1 c2] 22)).heap.size = u2.heap.size + 1 := World.size_alloc _ _
  have hlit := RdR.lit (size := 1) (e := 22) u2 [[.slice A0 3 c0], [.slice A1 1 c1], [.slice A2 1 c2]] #[.slice A0 3 c0, .slice A1 1 c1, .slice A2 1 c2] rfl (by intro r hr; simp only [List.mem_cons, List.not_mem_nil, or_false] at hr; rcases hr with rfl | rfl | rfl <;> rfl) (by simp [maxLen]) 3 rfl
  rw [← hsz] at hlit
  have hof := of_any ⟨#[82, 69, 81, 85, 69, 83, 84, 95, 68, 65, 84, 65, 95, 83, 84, 82, 69, 65, 77]⟩ (some ⟨u2.heap.size, 0, none⟩) 3 3 [⟨A0, 3, c0, (mkP 1 false [⟨#[116, 97, 114, 103, 101, 116, 95, 115, 121, 115, 116, 101, 109]⟩, ⟨#[116, 97, 114, 103, 101, 116, 95, 99, 111, 109, 112, 111, 110, 101, 110, 116]⟩, ⟨#[114, 101, 113, 95, 115, 116, 114, 101, 97, 109, 95, 105, 100]⟩])⟩, ⟨A1, 1, c1, (mkP 2 false [⟨#[114, 101, 113, 95, 109, 101, 115, 115, 97, 103, 101, 95, 114, 97, 116, 101]⟩])⟩, ⟨A2, 1, c2, (mkP 1 false [⟨#[115, 116, 97, 114, 116, 95, 115, 116, 111, 112]⟩])⟩] (u2.alloc (.cells #[.slice A0 3 c0, .slice A1 1 c1, .slice A2 1 c2] 22)) ⟨hlit, by intro r hr; simp only [List.mem_cons, List.not_mem_nil, or_false] at hr; rcases hr with rfl | rfl | rfl <;> first | exact ⟨hr0, by show 3 ≤ 100; omega⟩ | exact ⟨hr1, by show 1 ≤ 100; omega⟩ | exact ⟨hr2, by show 1 ≤ 100; omega⟩⟩ (by omega)
  have Hof := Lib.hid hof
  clear hof hlit hsz hr0 hr1 hr2
  replace a0 := blk_old a0 hbs (blk_lt a0)
  replace hb := bnx hb hbs
  clear hbs
  go_wp2_with fail
  go_fit Hof.out
  unfold RetFm
  rintro e v ⟨A, n, c, rfl, hr, hbx⟩
  replace a0 := blk_old a0 hbx (blk_lt a0)
  replace hb := bnx hb hbx
  clear hbx Hof
  have hb' := below_setRow hb (Nat.le_refl _) (#[.string ⟨#[82, 69, 81, 85, 69, 83, 84, 95, 68, 65, 84, 65, 95, 83, 84, 82, 69, 65, 77]⟩, .slice A n c] : Array Value)
  have b0 := setRow_heap _ _ _ (#[.string ⟨#[82, 69, 81, 85, 69, 83, 84, 95, 68, 65, 84, 65, 95, 83, 84, 82, 69, 65, 77]⟩, .slice A n c] : Array Value) _ _ a0
  have hrq : RdP (v.setRow w.heap.size #[.string ⟨#[82, 69, 81, 85, 69, 83, 84, 95, 68, 65, 84, 65, 95, 83, 84, 82, 69, 65, 77]⟩, .slice A n c]) (v.setRow w.heap.size #[.string ⟨#[82, 69, 81, 85, 69, 83, 84, 95, 68, 65, 84, 65, 95, 83, 84, 82, 69, 65, 77]⟩, .slice A n c]).heap.size A n c fm66.2 := rdP_set hr a0 (#[.string ⟨#[82, 69, 81, 85, 69, 83, 84, 95, 68, 65, 84, 65, 95, 83, 84, 82, 69, 65, 77]⟩, .slice A n c] : Array Value)
  go_wp2_with (first | (with_reducible refine stop_storeT 65 ?_))
  refine go_ (wpList_store_row rfl _ _ _ rfl w.heap.size #[.string ⟨#[82, 69, 81, 85, 69, 83, 84, 95, 68, 65, 84, 65, 95, 83, 84, 82, 69, 65, 77]⟩, .slice A n c] rfl rfl _ _ a0 (by kernel_rfl) rfl (by kernel_rfl) ?_)
  generalize (v.setRow w.heap.size #[.string ⟨#[82, 69, 81, 85, 69, 83, 84, 95, 68, 65, 84, 65, 95, 83, 84, 82, 69, 65, 77]⟩, .slice A n c]) = w9 at *
  have e0 := blk_cell (i := 0) (v := .string ⟨#[82, 69, 81, 85, 69, 83, 84, 95, 68, 65, 84, 65, 95, 83, 84, 82, 69, 65, 77]⟩) b0 rfl
  have e1 := blk_cell (i := 1) (v := .slice A n c) b0 rfl
  clear hr a0 b0 hb
  go_wp2
  exact bodyPost_ret (v := .agg #[.string ⟨#[82, 69, 81, 85, 69, 83, 84, 95, 68, 65, 84, 65, 95, 83, 84, 82, 69, 65, 77]⟩, .slice A n c]) (by simp [results, go_sem, e0, e1]) rfl ⟨A, n, c, rfl, hrq, hb'⟩
set_option maxRecDepth 20000 in
set_option maxHeartbeats 4000000 in
theorem asked_77 (w : World) : Calls Try.prog 74 #[.int .i64 77] w (RetFm fm77 w) := by
  have a0 := heap_alloc_new w (.cells #[.string ⟨#[]⟩, .slice none 0 0] 65)
  have hb : Below w.heap.size w (w.alloc (.cells #[.string ⟨#[]⟩, .slice none 0 0] 65)) := (Below.refl _ _).alloc (Nat.le_refl _) _
  have hz : (w.alloc (.cells #[.string ⟨#[]⟩, .slice none 0 0] 65)).heap.size = w.heap.size + 1 := World.size_alloc _ _
  have Hz := Lib.hid hz
  clear hz
  go_enter Try.func74, Try.ntmps74
  have hS := strs_lit (w.alloc (.cells #[.string ⟨#[]⟩, .slice none 0 0] 65)) [⟨#[99, 111, 109, 109, 97, 110, 100]⟩] #[.string ⟨#[99, 111, 109, 109, 97, 110, 100]⟩] rfl 1 rfl (by omega)
  have hbs := (Below.refl (w.alloc (.cells #[.string ⟨#[]⟩, .slice none 0 0] 65)).heap.size (w.alloc (.cells #[.string ⟨#[]⟩, .slice none 0 0] 65))).alloc (Nat.le_refl _) (.cells #[.string ⟨#[99, 111, 109, 109, 97, 110, 100]⟩] 9)
  rw [Hz.out] at hS
  have HS := Lib.hid hS
  clear hS
  go_wp2_with fail
  go_fit (u16_any (some ⟨w.heap.size + 1, 0, none⟩) 1 1 [⟨#[99, 111, 109, 109, 97, 110, 100]⟩] _ HS.out (by omega))
  unfold RetP
  rintro e u0 ⟨A0, n0, c0, rfl, hl, own, hbx⟩
  obtain rfl : n0 = 1 := hl
  have hbq := bnx hbs hbx
  replace a0 := blk_old a0 hbq (blk_lt a0)
  replace hb := bnx hb hbq
  have hr0 : RdP u0 u0.heap.size A0 1 c0 (mkP 2 false [⟨#[99, 111, 109, 109, 97, 110, 100]⟩]) := RdP.own own rfl
  clear own hbx hbq HS hbs
  have hS := strs_lit u0 [⟨#[114, 101, 115, 117, 108, 116]⟩] #[.string ⟨#[114, 101, 115, 117, 108, 116]⟩] rfl 1 rfl (by omega)
  have hbs := (Below.refl u0.heap.size u0).alloc (Nat.le_refl _) (.cells #[.string ⟨#[114, 101, 115, 117, 108, 116]⟩] 9)
  have HS := Lib.hid hS
  clear hS
  go_wp2_with fail
  go_fit (u8_any (some ⟨u0.heap.size, 0, none⟩) 1 1 [⟨#[114, 101, 115, 117, 108, 116]⟩] _ HS.out (by omega))
  unfold RetP
  rintro e u1 ⟨A1, n1, c1, rfl, hl, own, hbx⟩
  obtain rfl : n1 = 1 := hl
  have hbq := bnx hbs hbx
  replace a0 := blk_old a0 hbq (blk_lt a0)
  replace hb := bnx hb hbq
  replace hr0 : RdP _ _ A0 1 c0 _ := RdR.nx hr0 hbq
  have hr1 : RdP u1 u1.heap.size A1 1 c1 (mkP 1 false [⟨#[114, 101, 115, 117, 108, 116]⟩]) := RdP.own own rfl
  clear own hbx hbq HS hbs
  have hbs := (Below.refl u1.heap.size u1).alloc (Nat.le_refl _) (.cells #[.slice A0 1 c0, .slice A1 1 c1] 22)
  replace hr0 : RdP _ _ A0 1 c0 _ := RdR.nx hr0 hbs
  replace hr1 : RdP _ _ A1 1 c1 _ := RdR.nx hr1 hbs
  have hsz : (u1.alloc (.cells #[.slice A0 1 c0, .slice A1 1 c1] 22)).heap.size = u1.heap.size + 1 := World.size_alloc _ _
  have hlit := RdR.lit (size := 1) (e := 22) u1 [[.slice A0 1 c0], [.slice A1 1 c1]] #[.slice A0 1 c0, .slice A1 1 c1] rfl (by intro r hr; simp only [List.mem_cons, List.not_mem_nil, or_false] at hr; rcases hr with rfl | rfl <;> rfl) (by simp [maxLen]) 2 rfl
  rw [← hsz] at hlit
  have hof := of_any ⟨#[67, 79, 77, 77, 65, 78, 68, 95, 65, 67, 75]⟩ (some ⟨u1.heap.size, 0, none⟩) 2 2 [⟨A0, 1, c0, (mkP 2 false [⟨#[99, 111, 109, 109, 97, 110, 100]⟩])⟩, ⟨A1, 1, c1, (mkP 1 false [⟨#[114, 101, 115, 117, 108, 116]⟩])⟩] (u1.alloc (.cells #[.slice A0 1 c0, .slice A1 1 c1] 22)) ⟨hlit, by intro r hr; simp only [List.mem_cons, List.not_mem_nil, or_false] at hr; rcases hr with rfl | rfl <;> first | exact ⟨hr0, by show 1 ≤ 100; omega⟩ | exact ⟨hr1, by show 1 ≤ 100; omega⟩⟩ (by omega)
  have Hof := Lib.hid hof
  clear hof hlit hsz hr0 hr1
  replace a0 := blk_old a0 hbs (blk_lt a0)
  replace hb := bnx hb hbs
  clear hbs
  go_wp2_with fail
  go_fit Hof.out
  unfold RetFm
  rintro e v ⟨A, n, c, rfl, hr, hbx⟩
  replace a0 := blk_old a0 hbx (blk_lt a0)
  replace hb := bnx hb hbx
  clear hbx Hof
  have hb' := below_setRow hb (Nat.le_refl _) (#[.string ⟨#[67, 79, 77, 77, 65, 78, 68, 95, 65, 67, 75]⟩, .slice A n c] : Array Value)
  have b0 := setRow_heap _ _ _ (#[.string ⟨#[67, 79, 77, 77, 65, 78, 68, 95, 65, 67, 75]⟩, .slice A n c] : Array Value) _ _ a0
  have hrq : RdP (v.setRow w.heap.size #[.string ⟨#[67, 79, 77, 77, 65, 78, 68, 95, 65, 67, 75]⟩, .slice A n c]) (v.setRow w.heap.size #[.string ⟨#[67, 79, 77, 77, 65, 78, 68, 95, 65, 67, 75]⟩, .slice A n c]).heap.size A n c fm77.2 := rdP_set hr a0 (#[.string ⟨#[67, 79, 77, 77, 65, 78, 68, 95, 65, 67, 75]⟩, .slice A n c] : Array Value)
  go_wp2_with (first | (with_reducible refine stop_storeT 65 ?_))
  refine go_ (wpList_store_row rfl _ _ _ rfl w.heap.size #[.string ⟨#[67, 79, 77, 77, 65, 78, 68, 95, 65, 67, 75]⟩, .slice A n c] rfl rfl _ _ a0 (by kernel_rfl) rfl (by kernel_rfl) ?_)
  generalize (v.setRow w.heap.size #[.string ⟨#[67, 79, 77, 77, 65, 78, 68, 95, 65, 67, 75]⟩, .slice A n c]) = w9 at *
  have e0 := blk_cell (i := 0) (v := .string ⟨#[67, 79, 77, 77, 65, 78, 68, 95, 65, 67, 75]⟩) b0 rfl
  have e1 := blk_cell (i := 1) (v := .slice A n c) b0 rfl
  clear hr a0 b0 hb
  go_wp2
  exact bodyPost_ret (v := .agg #[.string ⟨#[67, 79, 77, 77, 65, 78, 68, 95, 65, 67, 75]⟩, .slice A n c]) (by simp [results, go_sem, e0, e1]) rfl ⟨A, n, c, rfl, hrq, hb'⟩
set_option maxRecDepth 20000 in
set_option maxHeartbeats 4000000 in
theorem asked_no (id : Int) (h35 : ¬ id = 35) (h36 : ¬ id = 36) (h42 : ¬ id = 42) (h44 : ¬ id = 44) (h47 : ¬ id = 47) (h66 : ¬ id = 66) (h77 : ¬ id = 77) (w : World) : Calls Try.prog 74 #[.int .i64 id] w (RetFm fmNone w) := by
  have q35 : (id == 35) = false := by rw [beq_eq_false_iff_ne]; exact h35
  have q36 : (id == 36) = false := by rw [beq_eq_false_iff_ne]; exact h36
  have q42 : (id == 42) = false := by rw [beq_eq_false_iff_ne]; exact h42
  have q44 : (id == 44) = false := by rw [beq_eq_false_iff_ne]; exact h44
  have q47 : (id == 47) = false := by rw [beq_eq_false_iff_ne]; exact h47
  have q66 : (id == 66) = false := by rw [beq_eq_false_iff_ne]; exact h66
  have q77 : (id == 77) = false := by rw [beq_eq_false_iff_ne]; exact h77
  have a0 := heap_alloc_new w (.cells #[.string ⟨#[]⟩, .slice none 0 0] 65)
  have hb : Below w.heap.size w (w.alloc (.cells #[.string ⟨#[]⟩, .slice none 0 0] 65)) := (Below.refl _ _).alloc (Nat.le_refl _) _
  have hb' := below_setRow hb (Nat.le_refl _) (#[.string ⟨#[]⟩, .slice none 0 0] : Array Value)
  have b0 := setRow_heap _ _ _ (#[.string ⟨#[]⟩, .slice none 0 0] : Array Value) _ _ a0
  go_enter Try.func74, Try.ntmps74
  go_wp2_with (first | (with_reducible refine stop_buildF 65 ?_))
  refine go_ ?_
  generalize (w.alloc (.cells #[.string ⟨#[]⟩, .slice none 0 0] 65)) = v at *
  go_wp2_with (first | (with_reducible refine stop_storeT 65 ?_))
  refine go_ (wpList_store_row rfl _ _ _ rfl w.heap.size #[.string ⟨#[]⟩, .slice none 0 0] rfl rfl _ _ a0 (by kernel_rfl) rfl (by kernel_rfl) ?_)
  generalize (v.setRow w.heap.size #[.string ⟨#[]⟩, .slice none 0 0]) = w9 at *
  have e0 := blk_cell (i := 0) (v := .string ⟨#[]⟩) b0 rfl
  have e1 := blk_cell (i := 1) (v := .slice none 0 0) b0 rfl
  clear a0 b0 hb
  go_wp2
  exact bodyPost_ret (v := .agg #[.string ⟨#[]⟩, .slice none 0 0]) (by simp [results, go_sem, e0, e1]) rfl ⟨none, 0, 0, rfl, RdR.none_ _ _ _, hb'⟩
theorem asked_any (id : Int) (w : World) : Calls Try.prog 74 #[.int .i64 id] w (RetFm (frmA id) w) := by
  unfold frmA
  by_cases h35 : id = 35
  · subst h35
    rw [if_pos rfl]
    exact asked_35 w
  rw [if_neg h35]
  by_cases h36 : id = 36
  · subst h36
    rw [if_pos rfl]
    exact asked_36 w
  rw [if_neg h36]
  by_cases h42 : id = 42
  · subst h42
    rw [if_pos rfl]
    exact asked_42 w
  rw [if_neg h42]
  by_cases h44 : id = 44
  · subst h44
    rw [if_pos rfl]
    exact asked_44 w
  rw [if_neg h44]
  by_cases h47 : id = 47
  · subst h47
    rw [if_pos rfl]
    exact asked_47 w
  rw [if_neg h47]
  by_cases h66 : id = 66
  · subst h66
    rw [if_pos rfl]
    exact asked_66 w
  rw [if_neg h66]
  by_cases h77 : id = 77
  · subst h77
    rw [if_pos rfl]
    exact asked_77 w
  rw [if_neg h77]
  exact asked_no id h35 h36 h42 h44 h47 h66 h77 w

end Go.Proofs.Ytonejdjhdjckjaa

/-
  the forms of own walked (printed by gen_sch3.py).
-/
set_option linter.unusedSimpArgs false
set_option linter.unusedVariables false
namespace Go.Proofs.Ytonejdjhdjckjaa
open Go.RowKit NumLaw
attribute [local go_sem] Addr.add_mid

set_option maxRecDepth 20000 in
set_option maxHeartbeats 4000000 in
theorem own_200 (w : World) : Calls Try.prog 75 #[.int .i64 200] w (RetFm fm200 w) := by
  have a0 := heap_alloc_new w (.cells #[.string ⟨#[]⟩, .slice none 0 0] 65)
  have hb : Below w.heap.size w (w.alloc (.cells #[.string ⟨#[]⟩, .slice none 0 0] 65)) := (Below.refl _ _).alloc (Nat.le_refl _) _
  have hz : (w.alloc (.cells #[.string ⟨#[]⟩, .slice none 0 0] 65)).heap.size = w.heap.size + 1 := World.size_alloc _ _
  have Hz := Lib.hid hz
  clear hz
  go_enter Try.func75, Try.ntmps75
  have hS := strs_lit (w.alloc (.cells #[.string ⟨#[]⟩, .slice none 0 0] 65)) [⟨#[116, 105, 109, 101, 95, 98, 111, 111, 116, 95, 109, 115]⟩, ⟨#[113, 117, 97, 116, 101, 114, 110, 105, 111, 110]⟩] #[.string ⟨#[116, 105, 109, 101, 95, 98, 111, 111, 116, 95, 109, 115]⟩, .string ⟨#[113, 117, 97, 116, 101, 114, 110, 105, 111, 110]⟩] rfl 2 rfl (by omega)
  have hbs := (Below.refl (w.alloc (.cells #[.string ⟨#[]⟩, .slice none 0 0] 65)).heap.size (w.alloc (.cells #[.string ⟨#[]⟩, .slice none 0 0] 65))).alloc (Nat.le_refl _) (.cells #[.string ⟨#[116, 105, 109, 101, 95, 98, 111, 111, 116, 95, 109, 115]⟩, .string ⟨#[113, 117, 97, 116, 101, 114, 110, 105, 111, 110]⟩] 9)
  rw [Hz.out] at hS
  have HS := Lib.hid hS
  clear hS
  go_wp2_with fail
  go_fit (u32_any (some ⟨w.heap.size + 1, 0, none⟩) 2 2 [⟨#[116, 105, 109, 101, 95, 98, 111, 111, 116, 95, 109, 115]⟩, ⟨#[113, 117, 97, 116, 101, 114, 110, 105, 111, 110]⟩] _ HS.out (by omega))
  unfold RetP
  rintro e u0 ⟨A0, n0, c0, rfl, hl, own, hbx⟩
  obtain rfl : n0 = 2 := hl
  have hbq := bnx hbs hbx
  replace a0 := blk_old a0 hbq (blk_lt a0)
  replace hb := bnx hb hbq
  have hr0 : RdP u0 u0.heap.size A0 2 c0 (mkP 4 false [⟨#[116, 105, 109, 101, 95, 98, 111, 111, 116, 95, 109, 115]⟩, ⟨#[113, 117, 97, 116, 101, 114, 110, 105, 111, 110]⟩]) := RdP.own own rfl
  clear own hbx hbq HS hbs
  have hS := strs_lit u0 [⟨#[120, 103, 121, 114, 111]⟩, ⟨#[121, 103, 121, 114, 111]⟩, ⟨#[122, 103, 121, 114, 111]⟩] #[.string ⟨#[120, 103, 121, 114, 111]⟩, .string ⟨#[121, 103, 121, 114, 111]⟩, .string ⟨#[122, 103, 121, 114, 111]⟩] rfl 3 rfl (by omega)
  have hbs := (Below.refl u0.heap.size u0).alloc (Nat.le_refl _) (.cells #[.string ⟨#[120, 103, 121, 114, 111]⟩, .string ⟨#[121, 103, 121, 114, 111]⟩, .string ⟨#[122, 103, 121, 114, 111]⟩] 9)
  have HS := Lib.hid hS
  clear hS
  go_wp2_with fail
  go_fit (i16_any (some ⟨u0.heap.size, 0, none⟩) 3 3 [⟨#[120, 103, 121, 114, 111]⟩, ⟨#[121, 103, 121, 114, 111]⟩, ⟨#[122, 103, 121, 114, 111]⟩] _ HS.out (by omega))
  unfold RetP
  rintro e u1 ⟨A1, n1, c1, rfl, hl, own, hbx⟩
  obtain rfl : n1 = 3 := hl
  have hbq := bnx hbs hbx
  replace a0 := blk_old a0 hbq (blk_lt a0)
  replace hb := bnx hb hbq
  replace hr0 : RdP _ _ A0 2 c0 _ := RdR.nx hr0 hbq
  have hr1 : RdP u1 u1.heap.size A1 3 c1 (mkP 2 true [⟨#[120, 103, 121, 114, 111]⟩, ⟨#[121, 103, 121, 114, 111]⟩, ⟨#[122, 103, 121, 114, 111]⟩]) := RdP.own own rfl
  clear own hbx hbq HS hbs
  have hbs := (Below.refl u1.heap.size u1).alloc (Nat.le_refl _) (.cells #[.slice A0 2 c0, .slice A1 3 c1] 22)
  replace hr0 : RdP _ _ A0 2 c0 _ := RdR.nx hr0 hbs
  replace hr1 : RdP _ _ A1 3 c1 _ := RdR.nx hr1 hbs
  have hsz : (u1.alloc (.cells #[.slice A0 2 c0, .slice A1 3 c1] 22)).heap.size = u1.heap.size + 1 := World.size_alloc _ _
  have hlit := RdR.lit (size := 1) (e := 22) u1 [[.slice A0 2 c0], [.slice A1 3 c1]] #[.slice A0 2 c0, .slice A1 3 c1] rfl (by intro r hr; simp only [List.mem_cons, List.not_mem_nil, or_false] at hr; rcases hr with rfl | rfl <;> rfl) (by simp [maxLen]) 2 rfl
  rw [← hsz] at hlit
  have hof := of_any ⟨#[65, 84, 84, 73, 84, 85, 68, 69, 95, 87, 79, 82, 68]⟩ (some ⟨u1.heap.size, 0, none⟩) 2 2 [⟨A0, 2, c0, (mkP 4 false [⟨#[116, 105, 109, 101, 95, 98, 111, 111, 116, 95, 109, 115]⟩, ⟨#[113, 117, 97, 116, 101, 114, 110, 105, 111, 110]⟩])⟩, ⟨A1, 3, c1, (mkP 2 true [⟨#[120, 103, 121, 114, 111]⟩, ⟨#[121, 103, 121, 114, 111]⟩, ⟨#[122, 103, 121, 114, 111]⟩])⟩] (u1.alloc (.cells #[.slice A0 2 c0, .slice A1 3 c1] 22)) ⟨hlit, by intro r hr; simp only [List.mem_cons, List.not_mem_nil, or_false] at hr; rcases hr with rfl | rfl <;> first | exact ⟨hr0, by show 2 ≤ 100; omega⟩ | exact ⟨hr1, by show 3 ≤ 100; omega⟩⟩ (by omega)
  have Hof := Lib.hid hof
  clear hof hlit hsz hr0 hr1
  replace a0 := blk_old a0 hbs (blk_lt a0)
  replace hb := bnx hb hbs
  clear hbs
  go_wp2_with fail
  go_fit Hof.out
  unfold RetFm
  rintro e v ⟨A, n, c, rfl, hr, hbx⟩
  replace a0 := blk_old a0 hbx (blk_lt a0)
  replace hb := bnx hb hbx
  clear hbx Hof
  have hb' := below_setRow hb (Nat.le_refl _) (#[.string ⟨#[65, 84, 84, 73, 84, 85, 68, 69, 95, 87, 79, 82, 68]⟩, .slice A n c] : Array Value)
  have b0 := setRow_heap _ _ _ (#[.string ⟨#[65, 84, 84, 73, 84, 85, 68, 69, 95, 87, 79, 82, 68]⟩, .slice A n c] : Array Value) _ _ a0
  have hrq : RdP (v.setRow w.heap.size #[.string ⟨#[65, 84, 84, 73, 84, 85, 68, 69, 95, 87, 79, 82, 68]⟩, .slice A n c]) (v.setRow w.heap.size #[.string ⟨#[65, 84, 84, 73, 84, 85, 68, 69, 95, 87, 79, 82, 68]⟩, .slice A n c]).heap.size A n c fm200.2 := rdP_set hr a0 (#[.string ⟨#[65, 84, 84, 73, 84, 85, 68, 69, 95, 87, 79, 82, 68]⟩, .slice A n c] : Array Value)
  go_wp2_with (first | (with_reducible refine stop_storeT 65 ?_))
  refine go_ (wpList_store_row rfl _ _ _ rfl w.heap.size #[.string ⟨#[65, 84, 84, 73, 84, 85, 68, 69, 95, 87, 79, 82, 68]⟩, .slice A n c] rfl rfl _ _ a0 (by kernel_rfl) rfl (by kernel_rfl) ?_)
  generalize (v.setRow w.heap.size #[.string ⟨#[65, 84, 84, 73, 84, 85, 68, 69, 95, 87, 79, 82, 68]⟩, .slice A n c]) = w9 at *
  have e0 := blk_cell (i := 0) (v := .string ⟨#[65, 84, 84, 73, 84, 85, 68, 69, 95, 87, 79, 82, 68]⟩) b0 rfl
  have e1 := blk_cell (i := 1) (v := .slice A n c) b0 rfl
  clear hr a0 b0 hb
  go_wp2
  exact bodyPost_ret (v := .agg #[.string ⟨#[65, 84, 84, 73, 84, 85, 68, 69, 95, 87, 79, 82, 68]⟩, .slice A n c]) (by simp [results, go_sem, e0, e1]) rfl ⟨A, n, c, rfl, hrq, hb'⟩
set_option maxRecDepth 20000 in
set_option maxHeartbeats 4000000 in
theorem own_201 (w : World) : Calls Try.prog 75 #[.int .i64 201] w (RetFm fm201 w) := by
  have a0 := heap_alloc_new w (.cells #[.string ⟨#[]⟩, .slice none 0 0] 65)
  have hb : Below w.heap.size w (w.alloc (.cells #[.string ⟨#[]⟩, .slice none 0 0] 65)) := (Below.refl _ _).alloc (Nat.le_refl _) _
  have hz : (w.alloc (.cells #[.string ⟨#[]⟩, .slice none 0 0] 65)).heap.size = w.heap.size + 1 := World.size_alloc _ _
  have Hz := Lib.hid hz
  clear hz
  go_enter Try.func75, Try.ntmps75
  have hS := strs_lit (w.alloc (.cells #[.string ⟨#[]⟩, .slice none 0 0] 65)) [⟨#[116, 105, 109, 101, 95, 98, 111, 111, 116, 95, 109, 115]⟩] #[.string ⟨#[116, 105, 109, 101, 95, 98, 111, 111, 116, 95, 109, 115]⟩] rfl 1 rfl (by omega)
  have hbs := (Below.refl (w.alloc (.cells #[.string ⟨#[]⟩, .slice none 0 0] 65)).heap.size (w.alloc (.cells #[.string ⟨#[]⟩, .slice none 0 0] 65))).alloc (Nat.le_refl _) (.cells #[.string ⟨#[116, 105, 109, 101, 95, 98, 111, 111, 116, 95, 109, 115]⟩] 9)
  rw [Hz.out] at hS
  have HS := Lib.hid hS
  clear hS
  go_wp2_with fail
  go_fit (u32_any (some ⟨w.heap.size + 1, 0, none⟩) 1 1 [⟨#[116, 105, 109, 101, 95, 98, 111, 111, 116, 95, 109, 115]⟩] _ HS.out (by omega))
  unfold RetP
  rintro e u0 ⟨A0, n0, c0, rfl, hl, own, hbx⟩
  obtain rfl : n0 = 1 := hl
  have hbq := bnx hbs hbx
  replace a0 := blk_old a0 hbq (blk_lt a0)
  replace hb := bnx hb hbq
  have hr0 : RdP u0 u0.heap.size A0 1 c0 (mkP 4 false [⟨#[116, 105, 109, 101, 95, 98, 111, 111, 116, 95, 109, 115]⟩]) := RdP.own own rfl
  clear own hbx hbq HS hbs
  have hS := strs_lit u0 [⟨#[120, 98, 105, 97, 115]⟩, ⟨#[121, 98, 105, 97, 115]⟩, ⟨#[122, 98, 105, 97, 115]⟩] #[.string ⟨#[120, 98, 105, 97, 115]⟩, .string ⟨#[121, 98, 105, 97, 115]⟩, .string ⟨#[122, 98, 105, 97, 115]⟩] rfl 3 rfl (by omega)
  have hbs := (Below.refl u0.heap.size u0).alloc (Nat.le_refl _) (.cells #[.string ⟨#[120, 98, 105, 97, 115]⟩, .string ⟨#[121, 98, 105, 97, 115]⟩, .string ⟨#[122, 98, 105, 97, 115]⟩] 9)
  have HS := Lib.hid hS
  clear hS
  go_wp2_with fail
  go_fit (i32_any (some ⟨u0.heap.size, 0, none⟩) 3 3 [⟨#[120, 98, 105, 97, 115]⟩, ⟨#[121, 98, 105, 97, 115]⟩, ⟨#[122, 98, 105, 97, 115]⟩] _ HS.out (by omega))
  unfold RetP
  rintro e u1 ⟨A1, n1, c1, rfl, hl, own, hbx⟩
  obtain rfl : n1 = 3 := hl
  have hbq := bnx hbs hbx
  replace a0 := blk_old a0 hbq (blk_lt a0)
  replace hb := bnx hb hbq
  replace hr0 : RdP _ _ A0 1 c0 _ := RdR.nx hr0 hbq
  have hr1 : RdP u1 u1.heap.size A1 3 c1 (mkP 4 true [⟨#[120, 98, 105, 97, 115]⟩, ⟨#[121, 98, 105, 97, 115]⟩, ⟨#[122, 98, 105, 97, 115]⟩]) := RdP.own own rfl
  clear own hbx hbq HS hbs
  have hS := strs_lit u1 [⟨#[115, 116, 101, 112, 115]⟩] #[.string ⟨#[115, 116, 101, 112, 115]⟩] rfl 1 rfl (by omega)
  have hbs := (Below.refl u1.heap.size u1).alloc (Nat.le_refl _) (.cells #[.string ⟨#[115, 116, 101, 112, 115]⟩] 9)
  have HS := Lib.hid hS
  clear hS
  go_wp2_with fail
  go_fit (u32_any (some ⟨u1.heap.size, 0, none⟩) 1 1 [⟨#[115, 116, 101, 112, 115]⟩] _ HS.out (by omega))
  unfold RetP
  rintro e u2 ⟨A2, n2, c2, rfl, hl, own, hbx⟩
  obtain rfl : n2 = 1 := hl
  have hbq := bnx hbs hbx
  replace a0 := blk_old a0 hbq (blk_lt a0)
  replace hb := bnx hb hbq
  replace hr0 : RdP _ _ A0 1 c0 _ := RdR.nx hr0 hbq
  replace hr1 : RdP _ _ A1 3 c1 _ := RdR.nx hr1 hbq
  have hr2 : RdP u2 u2.heap.size A2 1 c2 (mkP 4 false [⟨#[115, 116, 101, 112, 115]⟩]) := RdP.own own rfl
  clear own hbx hbq HS hbs
  have hS := strs_lit u2 [⟨#[99, 117, 116, 115]⟩] #[.string ⟨#[99, 117, 116, 115]⟩] rfl 1 rfl (by omega)
  have hbs := (Below.refl u2.heap.size u2).alloc (Nat.le_refl _) (.cells #[.string ⟨#[99, 117, 116, 115]⟩] 9)
  have HS := Lib.hid hS
  clear hS
  go_wp2_with fail
  go_fit (u16_any (some ⟨u2.heap.size, 0, none⟩) 1 1 [⟨#[99, 117, 116, 115]⟩] _ HS.out (by omega))
  unfold RetP
  rintro e u3 ⟨A3, n3, c3, rfl, hl, own, hbx⟩
  obtain rfl : n3 = 1 := hl
  have hbq := bnx hbs hbx
  replace a0 := blk_old a0 hbq (blk_lt a0)
  replace hb := bnx hb hbq
  replace hr0 : RdP _ _ A0 1 c0 _ := RdR.nx hr0 hbq
  replace hr1 : RdP _ _ A1 3 c1 _ := RdR.nx hr1 hbq
  replace hr2 : RdP _ _ A2 1 c2 _ := RdR.nx hr2 hbq
  have hr3 : RdP u3 u3.heap.size A3 1 c3 (mkP 2 false [⟨#[99, 117, 116, 115]⟩]) := RdP.own own rfl
  clear own hbx hbq HS hbs
  have hbs := (Below.refl u3.heap.size u3).alloc (Nat.le_refl _) (.cells #[.slice A0 1 c0, .slice A1 3 c1, .slice A2 1 c2, .slice A3 1 c3] 22)
  replace hr0 : RdP _ _ A0 1 c0 _ := RdR.nx hr0 hbs
  replace hr1 : RdP _ _ A1 3 c1 _ := RdR.nx hr1 hbs
  replace hr2 : RdP _ _ A2 1 c2 _ := RdR.nx hr2 hbs
  replace hr3 : RdP _ _ A3 1 c3 _ := RdR.nx hr3 hbs
  have hsz : (u3.alloc (.cells #[.slice A0 1 c0, .slice A1 3 c1, .slice A2 1 c2, .slice A3 1 c3] 22)).heap.size = u3.heap.size + 1 := World.size_alloc _ _
  have hlit := RdR.lit (size := 1) (e := 22) u3 [[.slice A0 1 c0], [.slice A1 3 c1], [.slice A2 1 c2], [.slice A3 1 c3]] #[.slice A0 1 c0, .slice A1 3 c1, .slice A2 1 c2, .slice A3 1 c3] rfl (by intro r hr; simp only [List.mem_cons, List.not_mem_nil, or_false] at hr; rcases hr with rfl | rfl | rfl | rfl <;> rfl) (by simp [maxLen]) 4 rfl
  rw [← hsz] at hlit
  have hof := of_any ⟨#[70, 73, 76, 84, 69, 82, 95, 83, 84, 65, 84, 69]⟩ (some ⟨u3.heap.size, 0, none⟩) 4 4 [⟨A0, 1, c0, (mkP 4 false [⟨#[116, 105, 109, 101, 95, 98, 111, 111, 116, 95, 109, 115]⟩])⟩, ⟨A1, 3, c1, (mkP 4 true [⟨#[120, 98, 105, 97, 115]⟩, ⟨#[121, 98, 105, 97, 115]⟩, ⟨#[122, 98, 105, 97, 115]⟩])⟩, ⟨A2, 1, c2, (mkP 4 false [⟨#[115, 116, 101, 112, 115]⟩])⟩, ⟨A3, 1, c3, (mkP 2 false [⟨#[99, 117, 116, 115]⟩])⟩] (u3.alloc (.cells #[.slice A0 1 c0, .slice A1 3 c1, .slice A2 1 c2, .slice A3 1 c3] 22)) ⟨hlit, by intro r hr; simp only [List.mem_cons, List.not_mem_nil, or_false] at hr; rcases hr with rfl | rfl | rfl | rfl <;> first | exact ⟨hr0, by show 1 ≤ 100; omega⟩ | exact ⟨hr1, by show 3 ≤ 100; omega⟩ | exact ⟨hr2, by show 1 ≤ 100; omega⟩ | exact ⟨hr3, by show 1 ≤ 100; omega⟩⟩ (by omega)
  have Hof := Lib.hid hof
  clear hof hlit hsz hr0 hr1 hr2 hr3
  replace a0 := blk_old a0 hbs (blk_lt a0)
  replace hb := bnx hb hbs
  clear hbs
  go_wp2_with fail
  go_fit Hof.out
  unfold RetFm
  rintro e v ⟨A, n, c, rfl, hr, hbx⟩
  replace a0 := blk_old a0 hbx (blk_lt a0)
  replace hb := bnx hb hbx
  clear hbx Hof
  have hb' := below_setRow hb (Nat.le_refl _) (#[.string ⟨#[70, 73, 76, 84, 69, 82, 95, 83, 84, 65, 84, 69]⟩, .slice A n c] : Array Value)
  have b0 := setRow_heap _ _ _ (#[.string ⟨#[70, 73, 76, 84, 69, 82, 95, 83, 84, 65, 84, 69]⟩, .slice A n c] : Array Value) _ _ a0
  have hrq : RdP (v.setRow w.heap.size #[.string ⟨#[70, 73, 76, 84, 69, 82, 95, 83, 84, 65, 84, 69]⟩, .slice A n c]) (v.setRow w.heap.size #[.string ⟨#[70, 73, 76, 84, 69, 82, 95, 83, 84, 65, 84, 69]⟩, .slice A n c]).heap.size A n c fm201.2 := rdP_set hr a0 (#[.string ⟨#[70, 73, 76, 84, 69, 82, 95, 83, 84, 65, 84, 69]⟩, .slice A n c] : Array Value)
  go_wp2_with (first | (with_reducible refine stop_storeT 65 ?_))
  refine go_ (wpList_store_row rfl _ _ _ rfl w.heap.size #[.string ⟨#[70, 73, 76, 84, 69, 82, 95, 83, 84, 65, 84, 69]⟩, .slice A n c] rfl rfl _ _ a0 (by kernel_rfl) rfl (by kernel_rfl) ?_)
  generalize (v.setRow w.heap.size #[.string ⟨#[70, 73, 76, 84, 69, 82, 95, 83, 84, 65, 84, 69]⟩, .slice A n c]) = w9 at *
  have e0 := blk_cell (i := 0) (v := .string ⟨#[70, 73, 76, 84, 69, 82, 95, 83, 84, 65, 84, 69]⟩) b0 rfl
  have e1 := blk_cell (i := 1) (v := .slice A n c) b0 rfl
  clear hr a0 b0 hb
  go_wp2
  exact bodyPost_ret (v := .agg #[.string ⟨#[70, 73, 76, 84, 69, 82, 95, 83, 84, 65, 84, 69]⟩, .slice A n c]) (by simp [results, go_sem, e0, e1]) rfl ⟨A, n, c, rfl, hrq, hb'⟩
set_option maxRecDepth 20000 in
set_option maxHeartbeats 4000000 in
theorem own_202 (w : World) : Calls Try.prog 75 #[.int .i64 202] w (RetFm fm202 w) := by
  have a0 := heap_alloc_new w (.cells #[.string ⟨#[]⟩, .slice none 0 0] 65)
  have hb : Below w.heap.size w (w.alloc (.cells #[.string ⟨#[]⟩, .slice none 0 0] 65)) := (Below.refl _ _).alloc (Nat.le_refl _) _
  have hz : (w.alloc (.cells #[.string ⟨#[]⟩, .slice none 0 0] 65)).heap.size = w.heap.size + 1 := World.size_alloc _ _
  have Hz := Lib.hid hz
  clear hz
  go_enter Try.func75, Try.ntmps75
  have hS := strs_lit (w.alloc (.cells #[.string ⟨#[]⟩, .slice none 0 0] 65)) [⟨#[110, 117, 109, 98, 101, 114]⟩] #[.string ⟨#[110, 117, 109, 98, 101, 114]⟩] rfl 1 rfl (by omega)
  have hbs := (Below.refl (w.alloc (.cells #[.string ⟨#[]⟩, .slice none 0 0] 65)).heap.size (w.alloc (.cells #[.string ⟨#[]⟩, .slice none 0 0] 65))).alloc (Nat.le_refl _) (.cells #[.string ⟨#[110, 117, 109, 98, 101, 114]⟩] 9)
  rw [Hz.out] at hS
  have HS := Lib.hid hS
  clear hS
  go_wp2_with fail
  go_fit (u32_any (some ⟨w.heap.size + 1, 0, none⟩) 1 1 [⟨#[110, 117, 109, 98, 101, 114]⟩] _ HS.out (by omega))
  unfold RetP
  rintro e u0 ⟨A0, n0, c0, rfl, hl, own, hbx⟩
  obtain rfl : n0 = 1 := hl
  have hbq := bnx hbs hbx
  replace a0 := blk_old a0 hbq (blk_lt a0)
  replace hb := bnx hb hbq
  have hr0 : RdP u0 u0.heap.size A0 1 c0 (mkP 4 false [⟨#[110, 117, 109, 98, 101, 114]⟩]) := RdP.own own rfl
  clear own hbx hbq HS hbs
  have hS := strs_lit u0 [⟨#[112, 97, 114, 116]⟩] #[.string ⟨#[112, 97, 114, 116]⟩] rfl 1 rfl (by omega)
  have hbs := (Below.refl u0.heap.size u0).alloc (Nat.le_refl _) (.cells #[.string ⟨#[112, 97, 114, 116]⟩] 9)
  have HS := Lib.hid hS
  clear hS
  go_wp2_with fail
  go_fit (u8_any (some ⟨u0.heap.size, 0, none⟩) 1 1 [⟨#[112, 97, 114, 116]⟩] _ HS.out (by omega))
  unfold RetP
  rintro e u1 ⟨A1, n1, c1, rfl, hl, own, hbx⟩
  obtain rfl : n1 = 1 := hl
  have hbq := bnx hbs hbx
  replace a0 := blk_old a0 hbq (blk_lt a0)
  replace hb := bnx hb hbq
  replace hr0 : RdP _ _ A0 1 c0 _ := RdR.nx hr0 hbq
  have hr1 : RdP u1 u1.heap.size A1 1 c1 (mkP 1 false [⟨#[112, 97, 114, 116]⟩]) := RdP.own own rfl
  clear own hbx hbq HS hbs
  have hS := strs_lit u1 [⟨#[98, 121, 116, 101, 115]⟩] #[.string ⟨#[98, 121, 116, 101, 115]⟩] rfl 1 rfl (by omega)
  have hbs := (Below.refl u1.heap.size u1).alloc (Nat.le_refl _) (.cells #[.string ⟨#[98, 121, 116, 101, 115]⟩] 9)
  have HS := Lib.hid hS
  clear hS
  go_wp2_with fail
  go_fit (array_any 64 (some ⟨u1.heap.size, 0, none⟩) 1 1 [⟨#[98, 121, 116, 101, 115]⟩] _ HS.out (by omega))
  unfold RetP
  rintro e u2 ⟨A2, n2, c2, rfl, hl, own, hbx⟩
  obtain rfl : n2 = 1 := hl
  have hbq := bnx hbs hbx
  replace a0 := blk_old a0 hbq (blk_lt a0)
  replace hb := bnx hb hbq
  replace hr0 : RdP _ _ A0 1 c0 _ := RdR.nx hr0 hbq
  replace hr1 : RdP _ _ A1 1 c1 _ := RdR.nx hr1 hbq
  have hr2 : RdP u2 u2.heap.size A2 1 c2 ((mkP 1 false [⟨#[98, 121, 116, 101, 115]⟩]).map (setM 64)) := RdP.own own rfl
  clear own hbx hbq HS hbs
  have hbs := (Below.refl u2.heap.size u2).alloc (Nat.le_refl _) (.cells #[.slice A0 1 c0, .slice A1 1 c1, .slice A2 1 c2] 22)
  replace hr0 : RdP _ _ A0 1 c0 _ := RdR.nx hr0 hbs
  replace hr1 : RdP _ _ A1 1 c1 _ := RdR.nx hr1 hbs
  replace hr2 : RdP _ _ A2 1 c2 _ := RdR.nx hr2 hbs
  have hsz : (u2.alloc (.cells #[.slice A0 1 c0, .slice A1 1 c1, .slice A2 1 c2] 22)).heap.size = u2.heap.size + 1 := World.size_alloc _ _
  have hlit := RdR.lit (size := 1) (e := 22) u2 [[.slice A0 1 c0], [.slice A1 1 c1], [.slice A2 1 c2]] #[.slice A0 1 c0, .slice A1 1 c1, .slice A2 1 c2] rfl (by intro r hr; simp only [List.mem_cons, List.not_mem_nil, or_false] at hr; rcases hr with rfl | rfl | rfl <;> rfl) (by simp [maxLen]) 3 rfl
  rw [← hsz] at hlit
  have hof := of_any ⟨#[76, 79, 71, 95, 66, 76, 79, 67, 75]⟩ (some ⟨u2.heap.size, 0, none⟩) 3 3 [⟨A0, 1, c0, (mkP 4 false [⟨#[110, 117, 109, 98, 101, 114]⟩])⟩, ⟨A1, 1, c1, (mkP 1 false [⟨#[112, 97, 114, 116]⟩])⟩, ⟨A2, 1, c2, ((mkP 1 false [⟨#[98, 121, 116, 101, 115]⟩]).map (setM 64))⟩] (u2.alloc (.cells #[.slice A0 1 c0, .slice A1 1 c1, .slice A2 1 c2] 22)) ⟨hlit, by intro r hr; simp only [List.mem_cons, List.not_mem_nil, or_false] at hr; rcases hr with rfl | rfl | rfl <;> first | exact ⟨hr0, by show 1 ≤ 100; omega⟩ | exact ⟨hr1, by show 1 ≤ 100; omega⟩ | exact ⟨hr2, by show 1 ≤ 100; omega⟩⟩ (by omega)
  have Hof := Lib.hid hof
  clear hof hlit hsz hr0 hr1 hr2
  replace a0 := blk_old a0 hbs (blk_lt a0)
  replace hb := bnx hb hbs
  clear hbs
  go_wp2_with fail
  go_fit Hof.out
  unfold RetFm
  rintro e v ⟨A, n, c, rfl, hr, hbx⟩
  replace a0 := blk_old a0 hbx (blk_lt a0)
  replace hb := bnx hb hbx
  clear hbx Hof
  have hb' := below_setRow hb (Nat.le_refl _) (#[.string ⟨#[76, 79, 71, 95, 66, 76, 79, 67, 75]⟩, .slice A n c] : Array Value)
  have b0 := setRow_heap _ _ _ (#[.string ⟨#[76, 79, 71, 95, 66, 76, 79, 67, 75]⟩, .slice A n c] : Array Value) _ _ a0
  have hrq : RdP (v.setRow w.heap.size #[.string ⟨#[76, 79, 71, 95, 66, 76, 79, 67, 75]⟩, .slice A n c]) (v.setRow w.heap.size #[.string ⟨#[76, 79, 71, 95, 66, 76, 79, 67, 75]⟩, .slice A n c]).heap.size A n c fm202.2 := rdP_set hr a0 (#[.string ⟨#[76, 79, 71, 95, 66, 76, 79, 67, 75]⟩, .slice A n c] : Array Value)
  go_wp2_with (first | (with_reducible refine stop_storeT 65 ?_))
  refine go_ (wpList_store_row rfl _ _ _ rfl w.heap.size #[.string ⟨#[76, 79, 71, 95, 66, 76, 79, 67, 75]⟩, .slice A n c] rfl rfl _ _ a0 (by kernel_rfl) rfl (by kernel_rfl) ?_)
  generalize (v.setRow w.heap.size #[.string ⟨#[76, 79, 71, 95, 66, 76, 79, 67, 75]⟩, .slice A n c]) = w9 at *
  have e0 := blk_cell (i := 0) (v := .string ⟨#[76, 79, 71, 95, 66, 76, 79, 67, 75]⟩) b0 rfl
  have e1 := blk_cell (i := 1) (v := .slice A n c) b0 rfl
  clear hr a0 b0 hb
  go_wp2
  exact bodyPost_ret (v := .agg #[.string ⟨#[76, 79, 71, 95, 66, 76, 79, 67, 75]⟩, .slice A n c]) (by simp [results, go_sem, e0, e1]) rfl ⟨A, n, c, rfl, hrq, hb'⟩
set_option maxRecDepth 20000 in
set_option maxHeartbeats 4000000 in
theorem own_no (id : Int) (h200 : ¬ id = 200) (h201 : ¬ id = 201) (h202 : ¬ id = 202) (w : World) : Calls Try.prog 75 #[.int .i64 id] w (RetFm fmNone w) := by
  have q200 : (id == 200) = false := by rw [beq_eq_false_iff_ne]; exact h200
  have q201 : (id == 201) = false := by rw [beq_eq_false_iff_ne]; exact h201
  have q202 : (id == 202) = false := by rw [beq_eq_false_iff_ne]; exact h202
  have a0 := heap_alloc_new w (.cells #[.string ⟨#[]⟩, .slice none 0 0] 65)
  have hb : Below w.heap.size w (w.alloc (.cells #[.string ⟨#[]⟩, .slice none 0 0] 65)) := (Below.refl _ _).alloc (Nat.le_refl _) _
  have hb' := below_setRow hb (Nat.le_refl _) (#[.string ⟨#[]⟩, .slice none 0 0] : Array Value)
  have b0 := setRow_heap _ _ _ (#[.string ⟨#[]⟩, .slice none 0 0] : Array Value) _ _ a0
  go_enter Try.func75, Try.ntmps75
  go_wp2_with (first | (with_reducible refine stop_buildF 65 ?_))
  refine go_ ?_
  generalize (w.alloc (.cells #[.string ⟨#[]⟩, .slice none 0 0] 65)) = v at *
  go_wp2_with (first | (with_reducible refine stop_storeT 65 ?_))
  refine go_ (wpList_store_row rfl _ _ _ rfl w.heap.size #[.string ⟨#[]⟩, .slice none 0 0] rfl rfl _ _ a0 (by kernel_rfl) rfl (by kernel_rfl) ?_)
  generalize (v.setRow w.heap.size #[.string ⟨#[]⟩, .slice none 0 0]) = w9 at *
  have e0 := blk_cell (i := 0) (v := .string ⟨#[]⟩) b0 rfl
  have e1 := blk_cell (i := 1) (v := .slice none 0 0) b0 rfl
  clear a0 b0 hb
  go_wp2
  exact bodyPost_ret (v := .agg #[.string ⟨#[]⟩, .slice none 0 0]) (by simp [results, go_sem, e0, e1]) rfl ⟨none, 0, 0, rfl, RdR.none_ _ _ _, hb'⟩
theorem own_any (id : Int) (w : World) : Calls Try.prog 75 #[.int .i64 id] w (RetFm (frmO id) w) := by
  unfold frmO
  by_cases h200 : id = 200
  · subst h200
    rw [if_pos rfl]
    exact own_200 w
  rw [if_neg h200]
  by_cases h201 : id = 201
  · subst h201
    rw [if_pos rfl]
    exact own_201 w
  rw [if_neg h201]
  by_cases h202 : id = 202
  · subst h202
    rw [if_pos rfl]
    exact own_202 w
  rw [if_neg h202]
  exact own_no id h200 h201 h202 w

end Go.Proofs.Ytonejdjhdjckjaa

/-
  find, Name, Parts walked (printed by gen_sch3.py).
-/
set_option linter.unusedSimpArgs false
set_option linter.unusedVariables false
namespace Go.Proofs.Ytonejdjhdjckjaa
open Go.RowKit NumLaw
attribute [local go_sem] Addr.add_mid

theorem ba_full {s : ByteArray} (h : ¬ s = ⟨#[]⟩) : s.toList.isEmpty = false := by
  rw [ByteArray.toList_eq]
  obtain ⟨⟨l⟩⟩ := s
  cases l with
  | nil => exact absurd rfl h
  | cons _ _ => rfl
theorem ba_empty {s : ByteArray} (h : s = ⟨#[]⟩) : s.toList.isEmpty = true := by
  rw [ByteArray.toList_eq, h]; rfl
/-- Halts in front of the store of that slot. -/
theorem stop_storeN (t : TypeId) (y : Operand) {P : Program} {w : World} {ops : Array Oper} {rest : List Oper} {a : Act} {Q : Exit → Act → World → Prop} {x : Operand} {d : Option Tmp} {ty : TypeId} {pos : String} {af : Array Edge}
    (h : Stop (wpList P ops Q (⟨d, .store t x y, ty, pos, af, none⟩ :: rest) a w)) : wpList P ops Q (⟨d, .store t x y, ty, pos, af, none⟩ :: rest) a w := h
structure FmR where
  s : ByteArray
  A : Option Addr
  n : Nat
  c : Nat
  L : List PtT
def fmC (r : FmR) : List Value := [.string r.s, .slice r.A r.n r.c]
set_option maxRecDepth 20000 in
set_option maxHeartbeats 8000000 in
theorem find_any (id : Int) (w : World) : Calls Try.prog 45 #[.int .i64 id] w (RetFm (frm id) w) := by
  have h1 := fun w => state_any id w
  have h2 := fun w => sensed_any id w
  have h3 := fun w => asked_any id w
  have h4 := fun w => own_any id w
  unfold frm
  generalize frmS id = p1 at *
  generalize frmN id = p2 at *
  generalize frmA id = p3 at *
  generalize frmO id = p4 at *
  have H1 := Lib.hid h1
  have H2 := Lib.hid h2
  have H3 := Lib.hid h3
  have H4 := Lib.hid h4
  have a0 := heap_alloc_new w (.cells #[.string ⟨#[]⟩, .slice none 0 0] 65)
  have hb : Below w.heap.size w (w.alloc (.cells #[.string ⟨#[]⟩, .slice none 0 0] 65)) := (Below.refl _ _).alloc (Nat.le_refl _) _
  clear h1 h2 h3 h4
  go_enter Try.func45, Try.ntmps45
  go_wp2_with fail
  generalize (w.alloc (.cells #[.string ⟨#[]⟩, .slice none 0 0] 65)) = w0 at *
  go_fit (H1.out w0)
  unfold RetFm
  rintro e w1 ⟨A1, n1, c1, rfl, hr1, hbx⟩
  replace a0 := blk_old a0 hbx (blk_lt a0)
  replace hb := bnx hb hbx
  clear hbx H1 w0
  go_wp2_with fail
  go_fit (H2.out w1)
  unfold RetFm
  rintro e w2 ⟨A2, n2, c2, rfl, hr2, hbx⟩
  replace a0 := blk_old a0 hbx (blk_lt a0)
  replace hb := bnx hb hbx
  replace hr1 : RdP _ _ A1 n1 c1 p1.2 := RdR.nx hr1 hbx
  clear hbx H2
  go_wp2_with fail
  go_fit (H3.out w2)
  unfold RetFm
  rintro e w3 ⟨A3, n3, c3, rfl, hr3, hbx⟩
  replace a0 := blk_old a0 hbx (blk_lt a0)
  replace hb := bnx hb hbx
  replace hr1 : RdP _ _ A1 n1 c1 p1.2 := RdR.nx hr1 hbx
  replace hr2 : RdP _ _ A2 n2 c2 p2.2 := RdR.nx hr2 hbx
  clear hbx H3
  go_wp2_with fail
  go_fit (H4.out w3)
  unfold RetFm
  rintro e w4 ⟨A4, n4, c4, rfl, hr4, hbx⟩
  replace a0 := blk_old a0 hbx (blk_lt a0)
  replace hb := bnx hb hbx
  replace hr1 : RdP _ _ A1 n1 c1 p1.2 := RdR.nx hr1 hbx
  replace hr2 : RdP _ _ A2 n2 c2 p2.2 := RdR.nx hr2 hbx
  replace hr3 : RdP _ _ A3 n3 c3 p3.2 := RdR.nx hr3 hbx
  clear hbx H4
  obtain ⟨F, hF⟩ : ∃ F : List FmR, F = [⟨p1.1, A1, n1, c1, p1.2⟩, ⟨p2.1, A2, n2, c2, p2.2⟩, ⟨p3.1, A3, n3, c3, p3.2⟩, ⟨p4.1, A4, n4, c4, p4.2⟩] := ⟨_, rfl⟩
  have hFl : F.length = 4 := by rw [hF]; rfl
  have hFp : F.map (fun r : FmR => ((r.s, r.L) : FmT)) = [p1, p2, p3, p4] := by rw [hF]; rfl
  have hFr : ∀ r ∈ F, RdP w4 w4.heap.size r.A r.n r.c r.L := by
    rw [hF]
    intro r hr
    simp only [List.mem_cons, List.not_mem_nil, or_false] at hr
    rcases hr with rfl | rfl | rfl | rfl
    · exact hr1
    · exact hr2
    · exact hr3
    · exact hr4
  have hlit := RdR.lit (size := 2) (e := 65) w4 (F.map fmC) #[.string p1.1, .slice A1 n1 c1, .string p2.1, .slice A2 n2 c2, .string p3.1, .slice A3 n3 c3, .string p4.1, .slice A4 n4 c4] (by rw [hF]; rfl) (by intro r hr; obtain ⟨f, _, rfl⟩ := List.mem_map.1 hr; rfl) (by rw [hF]; simp [maxLen]) 4 (by rw [hF]; rfl)
  have hbn : Below w4.heap.size w4 (w4.alloc (.cells #[.string p1.1, .slice A1 n1 c1, .string p2.1, .slice A2 n2 c2, .string p3.1, .slice A3 n3 c3, .string p4.1, .slice A4 n4 c4] 65)) := (Below.refl _ _).alloc (Nat.le_refl _) _
  have hsz : (w4.alloc (.cells #[.string p1.1, .slice A1 n1 c1, .string p2.1, .slice A2 n2 c2, .string p3.1, .slice A3 n3 c3, .string p4.1, .slice A4 n4 c4] 65)).heap.size = w4.heap.size + 1 := World.size_alloc _ _
  rw [← hsz] at hlit
  replace a0 := blk_old a0 hbn (blk_lt a0)
  replace hb := bnx hb hbn
  replace hFr := fun (r : FmR) (hr : r ∈ F) => (show RdP _ _ r.A r.n r.c r.L from RdR.nx (show RdR w4 w4.heap.size 4 r.A r.n r.c (r.L.map ptC) from hFr r hr) hbn)
  have HF := Lib.hid (And.intro hFl hFp)
  have HFr := Lib.hid hFr
  have Hlit := Lib.hid hlit
  clear hr1 hr2 hr3 hr4 hbn hsz hFl hFp hFr hlit hF
  go_wp2_with fail
  generalize (w4.alloc (.cells #[.string p1.1, .slice A1 n1 c1, .string p2.1, .slice A2 n2 c2, .string p3.1, .slice A3 n3 c3, .string p4.1, .slice A4 n4 c4] 65)) = w5 at *
  go_loopw [15] (fun i wr => ∃ k : Nat, k ≤ 4 ∧ i = .int .i64 k ∧ wr.heap[w.heap.size]? = some (.cells #[.string ⟨#[]⟩, .slice none 0 0] 65) ∧ Below w.heap.size w wr ∧ Below w5.heap.size w5 wr ∧ Hid (∀ r ∈ F.take k, r.s = ⟨#[]⟩)) (fun i _ => 4 - (intOf i).toNat)
  case atStart => exact ⟨0, by omega, rfl, a0, hb, Below.refl _ _, Lib.hid (by simp)⟩
  case round =>
    clear a0 hb
    obtain ⟨k, hk, rfl, a0, hb, hb5, He⟩ := hrel
    by_cases hlt : k < 4
    · have hlt' : (k : Int) < 4 := by omega
      obtain ⟨g, off, r, hA, hg, hx, hrl, hr⟩ := RdR.at_ Hlit.out hlt
      injection hA with hA
      injection hA with e1 e2 _
      subst e1
      subst e2
      obtain ⟨x, hxF⟩ : ∃ x, F[k]? = some x := ⟨_, List.getElem?_eq_getElem (by rw [HF.out.1]; exact hlt)⟩
      rw [List.getElem?_map, hxF] at hx
      injection hx with hx
      subst hx
      have k0 := (hb5.cell (p := ⟨w4.heap.size, 0 + k * 2 + 0, none⟩) hg).trans (hr 0 _ rfl)
      have k1 := (hb5.cell (p := ⟨w4.heap.size, 0 + k * 2 + 1, none⟩) hg).trans (hr 1 _ rfl)
      rw [Nat.zero_add, Nat.add_zero] at k0
      rw [Nat.zero_add] at k1
      have hxr : RdP wr wr.heap.size x.A x.n x.c x.L := RdR.nx (HFr.out x (List.mem_of_getElem? hxF)) hb5
      have HxF := Lib.hid hxF
      have hbn : Below wr.heap.size wr (wr.alloc (.cells #[.string x.s, .slice x.A x.n x.c] 65)) := (Below.refl _ _).alloc (Nat.le_refl _) _
      have hx3 := heap_alloc_new wr (.cells #[.string x.s, .slice x.A x.n x.c] 65)
      have d0 := blk_cell (i := 0) (v := .string x.s) hx3 rfl
      have d1 := blk_cell (i := 1) (v := .slice x.A x.n x.c) hx3 rfl
      replace a0 := blk_old a0 hbn (blk_lt a0)
      replace hb := bnx hb hbn
      have hb6 := bnx hb5 hbn
      replace hxr : RdP _ _ x.A x.n x.c x.L := RdR.nx hxr hbn
      clear hxF hr hrl hbn hx3 hb5
      by_cases hs : x.s = ⟨#[]⟩
      · have hsq := ba_empty hs
        have He2 := Lib.hid (show ∀ r ∈ F.take (k + 1), r.s = ⟨#[]⟩ by
          intro r hr
          rw [take_succ HxF.out] at hr
          rcases List.mem_append.1 hr with hr | hr
          · exact He.out r hr
          · rw [List.mem_singleton.1 hr]; exact hs)
        clear hxr hs
        go_wp2
        go_roundw
        case rel => exact ⟨k + 1, by omega, by go_num, a0, hb, hb6, He2⟩
        case measure => simp [intOf]; omega
      · have hsq := ba_full hs
        have hres := firstF_at (F.map (fun r : FmR => ((r.s, r.L) : FmT))) k (x.s, x.L) (by rw [List.getElem?_map, HxF.out]; rfl) hs (fun q hq => by
          rw [← List.map_take] at hq
          obtain ⟨r, hr, rfl⟩ := List.mem_map.1 hq
          exact He.out r hr)
        rw [HF.out.2] at hres
        have Hres := Lib.hid hres
        have hb' := below_setRow hb (Nat.le_refl _) (#[.string x.s, .slice x.A x.n x.c] : Array Value)
        have b0 := setRow_heap _ _ _ (#[.string x.s, .slice x.A x.n x.c] : Array Value) _ _ a0
        have hrq := rdP_set hxr a0 (#[.string x.s, .slice x.A x.n x.c] : Array Value)
        clear hres hxr hs
        go_wp2_with (first | (with_reducible refine stop_storeN 65 (.tmp 22) ?_))
        refine go_ (wpList_store_row rfl _ _ _ rfl w.heap.size #[.string x.s, .slice x.A x.n x.c] rfl rfl _ _ a0 (by kernel_rfl) rfl (by kernel_rfl) ?_)
        generalize ((wr.alloc (.cells #[.string x.s, .slice x.A x.n x.c] 65)).setRow w.heap.size #[.string x.s, .slice x.A x.n x.c]) = w9 at *
        have e0 := blk_cell (i := 0) (v := .string x.s) b0 rfl
        have e1 := blk_cell (i := 1) (v := .slice x.A x.n x.c) b0 rfl
        clear a0 b0 hb d0 d1 k0 k1
        go_wp2
        exact bodyPost_ret (v := .agg #[.string x.s, .slice x.A x.n x.c]) (by simp [results, go_sem, e0, e1]) rfl ⟨x.A, x.n, x.c, by rw [Hres.out], by rw [Hres.out]; exact hrq, hb'⟩
    · obtain rfl : k = 4 := by omega
      have hres := firstF_none (F.map (fun r : FmR => ((r.s, r.L) : FmT))) (fun q hq => by
        obtain ⟨r, hr, rfl⟩ := List.mem_map.1 hq
        exact He.out r (by rw [List.take_of_length_le (by rw [HF.out.1]; exact Nat.le_refl _)]; exact hr))
      rw [HF.out.2] at hres
      have Hres := Lib.hid hres
      have hb' := below_setRow hb (Nat.le_refl _) (#[.string ⟨#[]⟩, .slice none 0 0] : Array Value)
      have b0 := setRow_heap _ _ _ (#[.string ⟨#[]⟩, .slice none 0 0] : Array Value) _ _ a0
      clear hres
      go_wp2_with (first | (with_reducible refine stop_buildF 65 ?_))
      refine go_ ?_
      go_wp2_with (first | (with_reducible refine stop_storeT 65 ?_))
      refine go_ (wpList_store_row rfl _ _ _ rfl w.heap.size #[.string ⟨#[]⟩, .slice none 0 0] rfl rfl _ _ a0 (by kernel_rfl) rfl (by kernel_rfl) ?_)
      generalize (wr.setRow w.heap.size #[.string ⟨#[]⟩, .slice none 0 0]) = w9 at *
      have e0 := blk_cell (i := 0) (v := .string ⟨#[]⟩) b0 rfl
      have e1 := blk_cell (i := 1) (v := .slice none 0 0) b0 rfl
      clear a0 b0 hb
      go_wp2
      exact bodyPost_ret (v := .agg #[.string ⟨#[]⟩, .slice none 0 0]) (by simp [results, go_sem, e0, e1]) rfl ⟨none, 0, 0, by rw [Hres.out]; rfl, by rw [Hres.out]; exact RdR.none_ _ _ _, hb'⟩
theorem form_at (s : ByteArray) (A : Option Addr) (n c : Nat) (w : World) : (Instr.field 65 (.agg #[.string s, .slice A n c]) 0).run Try.prog w = .ok (.string s) w ∧ (Instr.field 65 (.agg #[.string s, .slice A n c]) 1).run Try.prog w = .ok (.slice A n c) w := by
  constructor
  all_goals
    simp [Instr.field, Sem.run_bind, asAgg, part, isAgg, run_underlying Try.underlying9, run_underlying Try.underlying22, run_underlying Try.underlying65, go_sem]
set_option maxRecDepth 20000 in
theorem name_any (id : Int) (w : World) : Calls Try.prog 15 #[.int .i64 id] w fun e w' => e = .returned (.string (frm id).1) ∧ Below w.heap.size w w' := by
  have hf := find_any id w
  generalize frm id = p at *
  have Hf := Lib.hid hf
  clear hf
  go_enter Try.func15, Try.ntmps15
  go_wp2_with fail
  go_fit Hf.out
  unfold RetFm
  rintro e w1 ⟨A, n, c, rfl, hr, hb⟩
  have hfa := fun w => form_at p.1 A n c w
  have hf0 := fun w => (hfa w).1
  have hf1 := fun w => (hfa w).2
  clear hfa
  go_wp2
  go_ret
  exact ⟨rfl, hb⟩
set_option maxRecDepth 20000 in
theorem parts31_any (id : Int) (w : World) : Calls Try.prog 17 #[.int .i64 id] w fun e w' => ∃ (A : Option Addr) (n c : Nat), e = .returned (.slice A n c) ∧ RdP w' w'.heap.size A n c (frm id).2 ∧ Below w.heap.size w w' := by
  have hf := find_any id w
  generalize frm id = p at *
  have Hf := Lib.hid hf
  clear hf
  go_enter Try.func17, Try.ntmps17
  go_wp2_with fail
  go_fit Hf.out
  unfold RetFm
  rintro e w1 ⟨A, n, c, rfl, hr, hb⟩
  have hfa := fun w => form_at p.1 A n c w
  have hf0 := fun w => (hfa w).1
  have hf1 := fun w => (hfa w).2
  clear hfa
  go_wp2
  go_ret
  exact ⟨A, n, c, rfl, hr, hb⟩

end Go.Proofs.Ytonejdjhdjckjaa
