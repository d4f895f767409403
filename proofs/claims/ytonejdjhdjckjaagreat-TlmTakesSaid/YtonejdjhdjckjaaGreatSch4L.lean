/-
  the document's forms, low walked (printed by gen_sch4.py).
-/
import Derived.Test.YtonejdjhdjckjaaGreatSch4
set_option linter.unusedSimpArgs false
set_option linter.unusedVariables false
namespace Go.Proofs.YtonejdjhdjckjaaGreat
open Go.RowKit NumLaw
attribute [local go_sem] Addr.add_mid

set_option maxRecDepth 40000 in
set_option maxHeartbeats 8000000 in
theorem low_0 (w : World) : Calls Tryz.prog 61 #[.int .i64 0] w (RetPt fm0.2 w) := by
  go_enter Tryz.func61, Tryz.ntmps61
  go_wp2_with fail
  go_fit (qu_any ⟨#[116, 121, 112, 101]⟩ 8 1 (by decide) w)
  rintro e u0 ⟨rfl, hb⟩
  go_wp2_with fail
  go_fit (qu_any ⟨#[97, 117, 116, 111, 112, 105, 108, 111, 116]⟩ 8 1 (by decide) u0)
  rintro e u1 ⟨rfl, hbx⟩
  replace hb := bnx hb hbx
  clear hbx
  go_wp2_with fail
  go_fit (qu_any ⟨#[98, 97, 115, 101, 95, 109, 111, 100, 101]⟩ 8 1 (by decide) u1)
  rintro e u2 ⟨rfl, hbx⟩
  replace hb := bnx hb hbx
  clear hbx
  go_wp2_with fail
  go_fit (qu_any ⟨#[99, 117, 115, 116, 111, 109, 95, 109, 111, 100, 101]⟩ 32 4 (by decide) u2)
  rintro e u3 ⟨rfl, hbx⟩
  replace hb := bnx hb hbx
  clear hbx
  go_wp2_with fail
  go_fit (qu_any ⟨#[115, 121, 115, 116, 101, 109, 95, 115, 116, 97, 116, 117, 115]⟩ 8 1 (by decide) u3)
  rintro e u4 ⟨rfl, hbx⟩
  replace hb := bnx hb hbx
  clear hbx
  go_wp2_with fail
  go_fit (qu_any ⟨#[109, 97, 118, 108, 105, 110, 107, 95, 118, 101, 114, 115, 105, 111, 110]⟩ 8 1 (by decide) u4)
  rintro e u5 ⟨rfl, hbx⟩
  replace hb := bnx hb hbx
  clear hbx
  have hlit := RdR.lit (size := 4) (e := 71) u5 (fm0.2.map ptC) #[.string ⟨#[116, 121, 112, 101]⟩, .int .i64 1, .bool false, .int .i64 0, .string ⟨#[97, 117, 116, 111, 112, 105, 108, 111, 116]⟩, .int .i64 1, .bool false, .int .i64 0, .string ⟨#[98, 97, 115, 101, 95, 109, 111, 100, 101]⟩, .int .i64 1, .bool false, .int .i64 0, .string ⟨#[99, 117, 115, 116, 111, 109, 95, 109, 111, 100, 101]⟩, .int .i64 4, .bool false, .int .i64 0, .string ⟨#[115, 121, 115, 116, 101, 109, 95, 115, 116, 97, 116, 117, 115]⟩, .int .i64 1, .bool false, .int .i64 0, .string ⟨#[109, 97, 118, 108, 105, 110, 107, 95, 118, 101, 114, 115, 105, 111, 110]⟩, .int .i64 1, .bool false, .int .i64 0] rfl (ptC_len _) (by show 6 ≤ maxLen; simp [maxLen]) 6 rfl
  have hsz : (u5.alloc (.cells #[.string ⟨#[116, 121, 112, 101]⟩, .int .i64 1, .bool false, .int .i64 0, .string ⟨#[97, 117, 116, 111, 112, 105, 108, 111, 116]⟩, .int .i64 1, .bool false, .int .i64 0, .string ⟨#[98, 97, 115, 101, 95, 109, 111, 100, 101]⟩, .int .i64 1, .bool false, .int .i64 0, .string ⟨#[99, 117, 115, 116, 111, 109, 95, 109, 111, 100, 101]⟩, .int .i64 4, .bool false, .int .i64 0, .string ⟨#[115, 121, 115, 116, 101, 109, 95, 115, 116, 97, 116, 117, 115]⟩, .int .i64 1, .bool false, .int .i64 0, .string ⟨#[109, 97, 118, 108, 105, 110, 107, 95, 118, 101, 114, 115, 105, 111, 110]⟩, .int .i64 1, .bool false, .int .i64 0] 71)).heap.size = u5.heap.size + 1 := World.size_alloc _ _
  rw [← hsz] at hlit
  have Hlit := Lib.hid hlit
  replace hb := hb.alloc hb.size (.cells #[.string ⟨#[116, 121, 112, 101]⟩, .int .i64 1, .bool false, .int .i64 0, .string ⟨#[97, 117, 116, 111, 112, 105, 108, 111, 116]⟩, .int .i64 1, .bool false, .int .i64 0, .string ⟨#[98, 97, 115, 101, 95, 109, 111, 100, 101]⟩, .int .i64 1, .bool false, .int .i64 0, .string ⟨#[99, 117, 115, 116, 111, 109, 95, 109, 111, 100, 101]⟩, .int .i64 4, .bool false, .int .i64 0, .string ⟨#[115, 121, 115, 116, 101, 109, 95, 115, 116, 97, 116, 117, 115]⟩, .int .i64 1, .bool false, .int .i64 0, .string ⟨#[109, 97, 118, 108, 105, 110, 107, 95, 118, 101, 114, 115, 105, 111, 110]⟩, .int .i64 1, .bool false, .int .i64 0] 71)
  clear hlit hsz
  go_wp2
  go_ret
  exact ⟨some ⟨u5.heap.size, 0, none⟩, 6, 6, rfl, Hlit.out, hb⟩
set_option maxRecDepth 40000 in
set_option maxHeartbeats 8000000 in
theorem low_1 (w : World) : Calls Tryz.prog 61 #[.int .i64 1] w (RetPt fm1.2 w) := by
  go_enter Tryz.func61, Tryz.ntmps61
  go_wp2_with fail
  go_fit (qu_any ⟨#[111, 110, 98, 111, 97, 114, 100, 95, 99, 111, 110, 116, 114, 111, 108, 95, 115, 101, 110, 115, 111, 114, 115, 95, 112, 114, 101, 115, 101, 110, 116]⟩ 32 4 (by decide) w)
  rintro e u0 ⟨rfl, hb⟩
  go_wp2_with fail
  go_fit (qu_any ⟨#[111, 110, 98, 111, 97, 114, 100, 95, 99, 111, 110, 116, 114, 111, 108, 95, 115, 101, 110, 115, 111, 114, 115, 95, 101, 110, 97, 98, 108, 101, 100]⟩ 32 4 (by decide) u0)
  rintro e u1 ⟨rfl, hbx⟩
  replace hb := bnx hb hbx
  clear hbx
  go_wp2_with fail
  go_fit (qu_any ⟨#[111, 110, 98, 111, 97, 114, 100, 95, 99, 111, 110, 116, 114, 111, 108, 95, 115, 101, 110, 115, 111, 114, 115, 95, 104, 101, 97, 108, 116, 104]⟩ 32 4 (by decide) u1)
  rintro e u2 ⟨rfl, hbx⟩
  replace hb := bnx hb hbx
  clear hbx
  go_wp2_with fail
  go_fit (qu_any ⟨#[108, 111, 97, 100]⟩ 16 2 (by decide) u2)
  rintro e u3 ⟨rfl, hbx⟩
  replace hb := bnx hb hbx
  clear hbx
  go_wp2_with fail
  go_fit (qu_any ⟨#[118, 111, 108, 116, 97, 103, 101, 95, 98, 97, 116, 116, 101, 114, 121]⟩ 16 2 (by decide) u3)
  rintro e u4 ⟨rfl, hbx⟩
  replace hb := bnx hb hbx
  clear hbx
  go_wp2_with fail
  go_fit (qi_any ⟨#[99, 117, 114, 114, 101, 110, 116, 95, 98, 97, 116, 116, 101, 114, 121]⟩ 16 2 (by decide) u4)
  rintro e u5 ⟨rfl, hbx⟩
  replace hb := bnx hb hbx
  clear hbx
  go_wp2_with fail
  go_fit (qi_any ⟨#[98, 97, 116, 116, 101, 114, 121, 95, 114, 101, 109, 97, 105, 110, 105, 110, 103]⟩ 8 1 (by decide) u5)
  rintro e u6 ⟨rfl, hbx⟩
  replace hb := bnx hb hbx
  clear hbx
  go_wp2_with fail
  go_fit (qu_any ⟨#[100, 114, 111, 112, 95, 114, 97, 116, 101, 95, 99, 111, 109, 109]⟩ 16 2 (by decide) u6)
  rintro e u7 ⟨rfl, hbx⟩
  replace hb := bnx hb hbx
  clear hbx
  go_wp2_with fail
  go_fit (qu_any ⟨#[101, 114, 114, 111, 114, 115, 95, 99, 111, 109, 109]⟩ 16 2 (by decide) u7)
  rintro e u8 ⟨rfl, hbx⟩
  replace hb := bnx hb hbx
  clear hbx
  go_wp2_with fail
  go_fit (qu_any ⟨#[101, 114, 114, 111, 114, 115, 95, 99, 111, 117, 110, 116, 49]⟩ 16 2 (by decide) u8)
  rintro e u9 ⟨rfl, hbx⟩
  replace hb := bnx hb hbx
  clear hbx
  go_wp2_with fail
  go_fit (qu_any ⟨#[101, 114, 114, 111, 114, 115, 95, 99, 111, 117, 110, 116, 50]⟩ 16 2 (by decide) u9)
  rintro e u10 ⟨rfl, hbx⟩
  replace hb := bnx hb hbx
  clear hbx
  go_wp2_with fail
  go_fit (qu_any ⟨#[101, 114, 114, 111, 114, 115, 95, 99, 111, 117, 110, 116, 51]⟩ 16 2 (by decide) u10)
  rintro e u11 ⟨rfl, hbx⟩
  replace hb := bnx hb hbx
  clear hbx
  go_wp2_with fail
  go_fit (qu_any ⟨#[101, 114, 114, 111, 114, 115, 95, 99, 111, 117, 110, 116, 52]⟩ 16 2 (by decide) u11)
  rintro e u12 ⟨rfl, hbx⟩
  replace hb := bnx hb hbx
  clear hbx
  have hlit := RdR.lit (size := 4) (e := 71) u12 (fm1.2.map ptC) #[.string ⟨#[111, 110, 98, 111, 97, 114, 100, 95, 99, 111, 110, 116, 114, 111, 108, 95, 115, 101, 110, 115, 111, 114, 115, 95, 112, 114, 101, 115, 101, 110, 116]⟩, .int .i64 4, .bool false, .int .i64 0, .string ⟨#[111, 110, 98, 111, 97, 114, 100, 95, 99, 111, 110, 116, 114, 111, 108, 95, 115, 101, 110, 115, 111, 114, 115, 95, 101, 110, 97, 98, 108, 101, 100]⟩, .int .i64 4, .bool false, .int .i64 0, .string ⟨#[111, 110, 98, 111, 97, 114, 100, 95, 99, 111, 110, 116, 114, 111, 108, 95, 115, 101, 110, 115, 111, 114, 115, 95, 104, 101, 97, 108, 116, 104]⟩, .int .i64 4, .bool false, .int .i64 0, .string ⟨#[108, 111, 97, 100]⟩, .int .i64 2, .bool false, .int .i64 0, .string ⟨#[118, 111, 108, 116, 97, 103, 101, 95, 98, 97, 116, 116, 101, 114, 121]⟩, .int .i64 2, .bool false, .int .i64 0, .string ⟨#[99, 117, 114, 114, 101, 110, 116, 95, 98, 97, 116, 116, 101, 114, 121]⟩, .int .i64 2, .bool true, .int .i64 0, .string ⟨#[98, 97, 116, 116, 101, 114, 121, 95, 114, 101, 109, 97, 105, 110, 105, 110, 103]⟩, .int .i64 1, .bool true, .int .i64 0, .string ⟨#[100, 114, 111, 112, 95, 114, 97, 116, 101, 95, 99, 111, 109, 109]⟩, .int .i64 2, .bool false, .int .i64 0, .string ⟨#[101, 114, 114, 111, 114, 115, 95, 99, 111, 109, 109]⟩, .int .i64 2, .bool false, .int .i64 0, .string ⟨#[101, 114, 114, 111, 114, 115, 95, 99, 111, 117, 110, 116, 49]⟩, .int .i64 2, .bool false, .int .i64 0, .string ⟨#[101, 114, 114, 111, 114, 115, 95, 99, 111, 117, 110, 116, 50]⟩, .int .i64 2, .bool false, .int .i64 0, .string ⟨#[101, 114, 114, 111, 114, 115, 95, 99, 111, 117, 110, 116, 51]⟩, .int .i64 2, .bool false, .int .i64 0, .string ⟨#[101, 114, 114, 111, 114, 115, 95, 99, 111, 117, 110, 116, 52]⟩, .int .i64 2, .bool false, .int .i64 0] rfl (ptC_len _) (by show 13 ≤ maxLen; simp [maxLen]) 13 rfl
  have hsz : (u12.alloc (.cells #[.string ⟨#[111, 110, 98, 111, 97, 114, 100, 95, 99, 111, 110, 116, 114, 111, 108, 95, 115, 101, 110, 115, 111, 114, 115, 95, 112, 114, 101, 115, 101, 110, 116]⟩, .int .i64 4, .bool false, .int .i64 0, .string ⟨#[111, 110, 98, 111, 97, 114, 100, 95, 99, 111, 110, 116, 114, 111, 108, 95, 115, 101, 110, 115, 111, 114, 115, 95, 101, 110, 97, 98, 108, 101, 100]⟩, .int .i64 4, .bool false, .int .i64 0, .string ⟨#[111, 110, 98, 111, 97, 114, 100, 95, 99, 111, 110, 116, 114, 111, 108, 95, 115, 101, 110, 115, 111, 114, 115, 95, 104, 101, 97, 108, 116, 104]⟩, .int .i64 4, .bool false, .int .i64 0, .string ⟨#[108, 111, 97, 100]⟩, .int .i64 2, .bool false, .int .i64 0, .string ⟨#[118, 111, 108, 116, 97, 103, 101, 95, 98, 97, 116, 116, 101, 114, 121]⟩, .int .i64 2, .bool false, .int .i64 0, .string ⟨#[99, 117, 114, 114, 101, 110, 116, 95, 98, 97, 116, 116, 101, 114, 121]⟩, .int .i64 2, .bool true, .int .i64 0, .string ⟨#[98, 97, 116, 116, 101, 114, 121, 95, 114, 101, 109, 97, 105, 110, 105, 110, 103]⟩, .int .i64 1, .bool true, .int .i64 0, .string ⟨#[100, 114, 111, 112, 95, 114, 97, 116, 101, 95, 99, 111, 109, 109]⟩, .int .i64 2, .bool false, .int .i64 0, .string ⟨#[101, 114, 114, 111, 114, 115, 95, 99, 111, 109, 109]⟩, .int .i64 2, .bool false, .int .i64 0, .string ⟨#[101, 114, 114, 111, 114, 115, 95, 99, 111, 117, 110, 116, 49]⟩, .int .i64 2, .bool false, .int .i64 0, .string ⟨#[101, 114, 114, 111, 114, 115, 95, 99, 111, 117, 110, 116, 50]⟩, .int .i64 2, .bool false, .int .i64 0, .string ⟨#[101, 114, 114, 111, 114, 115, 95, 99, 111, 117, 110, 116, 51]⟩, .int .i64 2, .bool false, .int .i64 0, .string ⟨#[101, 114, 114, 111, 114, 115, 95, 99, 111, 117, 110, 116, 52]⟩, .int .i64 2, .bool false, .int .i64 0] 71)).heap.size = u12.heap.size + 1 := World.size_alloc _ _
  rw [← hsz] at hlit
  have Hlit := Lib.hid hlit
  replace hb := hb.alloc hb.size (.cells #[.string ⟨#[111, 110, 98, 111, 97, 114, 100, 95, 99, 111, 110, 116, 114, 111, 108, 95, 115, 101, 110, 115, 111, 114, 115, 95, 112, 114, 101, 115, 101, 110, 116]⟩, .int .i64 4, .bool false, .int .i64 0, .string ⟨#[111, 110, 98, 111, 97, 114, 100, 95, 99, 111, 110, 116, 114, 111, 108, 95, 115, 101, 110, 115, 111, 114, 115, 95, 101, 110, 97, 98, 108, 101, 100]⟩, .int .i64 4, .bool false, .int .i64 0, .string ⟨#[111, 110, 98, 111, 97, 114, 100, 95, 99, 111, 110, 116, 114, 111, 108, 95, 115, 101, 110, 115, 111, 114, 115, 95, 104, 101, 97, 108, 116, 104]⟩, .int .i64 4, .bool false, .int .i64 0, .string ⟨#[108, 111, 97, 100]⟩, .int .i64 2, .bool false, .int .i64 0, .string ⟨#[118, 111, 108, 116, 97, 103, 101, 95, 98, 97, 116, 116, 101, 114, 121]⟩, .int .i64 2, .bool false, .int .i64 0, .string ⟨#[99, 117, 114, 114, 101, 110, 116, 95, 98, 97, 116, 116, 101, 114, 121]⟩, .int .i64 2, .bool true, .int .i64 0, .string ⟨#[98, 97, 116, 116, 101, 114, 121, 95, 114, 101, 109, 97, 105, 110, 105, 110, 103]⟩, .int .i64 1, .bool true, .int .i64 0, .string ⟨#[100, 114, 111, 112, 95, 114, 97, 116, 101, 95, 99, 111, 109, 109]⟩, .int .i64 2, .bool false, .int .i64 0, .string ⟨#[101, 114, 114, 111, 114, 115, 95, 99, 111, 109, 109]⟩, .int .i64 2, .bool false, .int .i64 0, .string ⟨#[101, 114, 114, 111, 114, 115, 95, 99, 111, 117, 110, 116, 49]⟩, .int .i64 2, .bool false, .int .i64 0, .string ⟨#[101, 114, 114, 111, 114, 115, 95, 99, 111, 117, 110, 116, 50]⟩, .int .i64 2, .bool false, .int .i64 0, .string ⟨#[101, 114, 114, 111, 114, 115, 95, 99, 111, 117, 110, 116, 51]⟩, .int .i64 2, .bool false, .int .i64 0, .string ⟨#[101, 114, 114, 111, 114, 115, 95, 99, 111, 117, 110, 116, 52]⟩, .int .i64 2, .bool false, .int .i64 0] 71)
  clear hlit hsz
  go_wp2
  go_ret
  exact ⟨some ⟨u12.heap.size, 0, none⟩, 13, 13, rfl, Hlit.out, hb⟩
set_option maxRecDepth 40000 in
set_option maxHeartbeats 8000000 in
theorem low_2 (w : World) : Calls Tryz.prog 61 #[.int .i64 2] w (RetPt fm2.2 w) := by
  go_enter Tryz.func61, Tryz.ntmps61
  go_wp2_with fail
  go_fit (qu_any ⟨#[116, 105, 109, 101, 95, 117, 110, 105, 120, 95, 117, 115, 101, 99]⟩ 64 8 (by decide) w)
  rintro e u0 ⟨rfl, hb⟩
  go_wp2_with fail
  go_fit (qu_any ⟨#[116, 105, 109, 101, 95, 98, 111, 111, 116, 95, 109, 115]⟩ 32 4 (by decide) u0)
  rintro e u1 ⟨rfl, hbx⟩
  replace hb := bnx hb hbx
  clear hbx
  have hlit := RdR.lit (size := 4) (e := 71) u1 (fm2.2.map ptC) #[.string ⟨#[116, 105, 109, 101, 95, 117, 110, 105, 120, 95, 117, 115, 101, 99]⟩, .int .i64 8, .bool false, .int .i64 0, .string ⟨#[116, 105, 109, 101, 95, 98, 111, 111, 116, 95, 109, 115]⟩, .int .i64 4, .bool false, .int .i64 0] rfl (ptC_len _) (by show 2 ≤ maxLen; simp [maxLen]) 2 rfl
  have hsz : (u1.alloc (.cells #[.string ⟨#[116, 105, 109, 101, 95, 117, 110, 105, 120, 95, 117, 115, 101, 99]⟩, .int .i64 8, .bool false, .int .i64 0, .string ⟨#[116, 105, 109, 101, 95, 98, 111, 111, 116, 95, 109, 115]⟩, .int .i64 4, .bool false, .int .i64 0] 71)).heap.size = u1.heap.size + 1 := World.size_alloc _ _
  rw [← hsz] at hlit
  have Hlit := Lib.hid hlit
  replace hb := hb.alloc hb.size (.cells #[.string ⟨#[116, 105, 109, 101, 95, 117, 110, 105, 120, 95, 117, 115, 101, 99]⟩, .int .i64 8, .bool false, .int .i64 0, .string ⟨#[116, 105, 109, 101, 95, 98, 111, 111, 116, 95, 109, 115]⟩, .int .i64 4, .bool false, .int .i64 0] 71)
  clear hlit hsz
  go_wp2
  go_ret
  exact ⟨some ⟨u1.heap.size, 0, none⟩, 2, 2, rfl, Hlit.out, hb⟩
set_option maxRecDepth 40000 in
set_option maxHeartbeats 8000000 in
theorem low_4 (w : World) : Calls Tryz.prog 61 #[.int .i64 4] w (RetPt fm4.2 w) := by
  go_enter Tryz.func61, Tryz.ntmps61
  go_wp2_with fail
  go_fit (qu_any ⟨#[116, 105, 109, 101, 95, 117, 115, 101, 99]⟩ 64 8 (by decide) w)
  rintro e u0 ⟨rfl, hb⟩
  go_wp2_with fail
  go_fit (qu_any ⟨#[115, 101, 113]⟩ 32 4 (by decide) u0)
  rintro e u1 ⟨rfl, hbx⟩
  replace hb := bnx hb hbx
  clear hbx
  go_wp2_with fail
  go_fit (qu_any ⟨#[116, 97, 114, 103, 101, 116, 95, 115, 121, 115, 116, 101, 109]⟩ 8 1 (by decide) u1)
  rintro e u2 ⟨rfl, hbx⟩
  replace hb := bnx hb hbx
  clear hbx
  go_wp2_with fail
  go_fit (qu_any ⟨#[116, 97, 114, 103, 101, 116, 95, 99, 111, 109, 112, 111, 110, 101, 110, 116]⟩ 8 1 (by decide) u2)
  rintro e u3 ⟨rfl, hbx⟩
  replace hb := bnx hb hbx
  clear hbx
  have hlit := RdR.lit (size := 4) (e := 71) u3 (fm4.2.map ptC) #[.string ⟨#[116, 105, 109, 101, 95, 117, 115, 101, 99]⟩, .int .i64 8, .bool false, .int .i64 0, .string ⟨#[115, 101, 113]⟩, .int .i64 4, .bool false, .int .i64 0, .string ⟨#[116, 97, 114, 103, 101, 116, 95, 115, 121, 115, 116, 101, 109]⟩, .int .i64 1, .bool false, .int .i64 0, .string ⟨#[116, 97, 114, 103, 101, 116, 95, 99, 111, 109, 112, 111, 110, 101, 110, 116]⟩, .int .i64 1, .bool false, .int .i64 0] rfl (ptC_len _) (by show 4 ≤ maxLen; simp [maxLen]) 4 rfl
  have hsz : (u3.alloc (.cells #[.string ⟨#[116, 105, 109, 101, 95, 117, 115, 101, 99]⟩, .int .i64 8, .bool false, .int .i64 0, .string ⟨#[115, 101, 113]⟩, .int .i64 4, .bool false, .int .i64 0, .string ⟨#[116, 97, 114, 103, 101, 116, 95, 115, 121, 115, 116, 101, 109]⟩, .int .i64 1, .bool false, .int .i64 0, .string ⟨#[116, 97, 114, 103, 101, 116, 95, 99, 111, 109, 112, 111, 110, 101, 110, 116]⟩, .int .i64 1, .bool false, .int .i64 0] 71)).heap.size = u3.heap.size + 1 := World.size_alloc _ _
  rw [← hsz] at hlit
  have Hlit := Lib.hid hlit
  replace hb := hb.alloc hb.size (.cells #[.string ⟨#[116, 105, 109, 101, 95, 117, 115, 101, 99]⟩, .int .i64 8, .bool false, .int .i64 0, .string ⟨#[115, 101, 113]⟩, .int .i64 4, .bool false, .int .i64 0, .string ⟨#[116, 97, 114, 103, 101, 116, 95, 115, 121, 115, 116, 101, 109]⟩, .int .i64 1, .bool false, .int .i64 0, .string ⟨#[116, 97, 114, 103, 101, 116, 95, 99, 111, 109, 112, 111, 110, 101, 110, 116]⟩, .int .i64 1, .bool false, .int .i64 0] 71)
  clear hlit hsz
  go_wp2
  go_ret
  exact ⟨some ⟨u3.heap.size, 0, none⟩, 4, 4, rfl, Hlit.out, hb⟩
set_option maxRecDepth 40000 in
set_option maxHeartbeats 8000000 in
theorem low_24 (w : World) : Calls Tryz.prog 61 #[.int .i64 24] w (RetPt fm24.2 w) := by
  go_enter Tryz.func61, Tryz.ntmps61
  go_wp2_with fail
  go_fit (qu_any ⟨#[116, 105, 109, 101, 95, 117, 115, 101, 99]⟩ 64 8 (by decide) w)
  rintro e u0 ⟨rfl, hb⟩
  go_wp2_with fail
  go_fit (qu_any ⟨#[102, 105, 120, 95, 116, 121, 112, 101]⟩ 8 1 (by decide) u0)
  rintro e u1 ⟨rfl, hbx⟩
  replace hb := bnx hb hbx
  clear hbx
  go_wp2_with fail
  go_fit (qi_any ⟨#[108, 97, 116]⟩ 32 4 (by decide) u1)
  rintro e u2 ⟨rfl, hbx⟩
  replace hb := bnx hb hbx
  clear hbx
  go_wp2_with fail
  go_fit (qi_any ⟨#[108, 111, 110]⟩ 32 4 (by decide) u2)
  rintro e u3 ⟨rfl, hbx⟩
  replace hb := bnx hb hbx
  clear hbx
  go_wp2_with fail
  go_fit (qi_any ⟨#[97, 108, 116]⟩ 32 4 (by decide) u3)
  rintro e u4 ⟨rfl, hbx⟩
  replace hb := bnx hb hbx
  clear hbx
  go_wp2_with fail
  go_fit (qu_any ⟨#[101, 112, 104]⟩ 16 2 (by decide) u4)
  rintro e u5 ⟨rfl, hbx⟩
  replace hb := bnx hb hbx
  clear hbx
  go_wp2_with fail
  go_fit (qu_any ⟨#[101, 112, 118]⟩ 16 2 (by decide) u5)
  rintro e u6 ⟨rfl, hbx⟩
  replace hb := bnx hb hbx
  clear hbx
  go_wp2_with fail
  go_fit (qu_any ⟨#[118, 101, 108]⟩ 16 2 (by decide) u6)
  rintro e u7 ⟨rfl, hbx⟩
  replace hb := bnx hb hbx
  clear hbx
  go_wp2_with fail
  go_fit (qu_any ⟨#[99, 111, 103]⟩ 16 2 (by decide) u7)
  rintro e u8 ⟨rfl, hbx⟩
  replace hb := bnx hb hbx
  clear hbx
  go_wp2_with fail
  go_fit (qu_any ⟨#[115, 97, 116, 101, 108, 108, 105, 116, 101, 115, 95, 118, 105, 115, 105, 98, 108, 101]⟩ 8 1 (by decide) u8)
  rintro e u9 ⟨rfl, hbx⟩
  replace hb := bnx hb hbx
  clear hbx
  have hlit := RdR.lit (size := 4) (e := 71) u9 (fm24.2.map ptC) #[.string ⟨#[116, 105, 109, 101, 95, 117, 115, 101, 99]⟩, .int .i64 8, .bool false, .int .i64 0, .string ⟨#[102, 105, 120, 95, 116, 121, 112, 101]⟩, .int .i64 1, .bool false, .int .i64 0, .string ⟨#[108, 97, 116]⟩, .int .i64 4, .bool true, .int .i64 0, .string ⟨#[108, 111, 110]⟩, .int .i64 4, .bool true, .int .i64 0, .string ⟨#[97, 108, 116]⟩, .int .i64 4, .bool true, .int .i64 0, .string ⟨#[101, 112, 104]⟩, .int .i64 2, .bool false, .int .i64 0, .string ⟨#[101, 112, 118]⟩, .int .i64 2, .bool false, .int .i64 0, .string ⟨#[118, 101, 108]⟩, .int .i64 2, .bool false, .int .i64 0, .string ⟨#[99, 111, 103]⟩, .int .i64 2, .bool false, .int .i64 0, .string ⟨#[115, 97, 116, 101, 108, 108, 105, 116, 101, 115, 95, 118, 105, 115, 105, 98, 108, 101]⟩, .int .i64 1, .bool false, .int .i64 0] rfl (ptC_len _) (by show 10 ≤ maxLen; simp [maxLen]) 10 rfl
  have hsz : (u9.alloc (.cells #[.string ⟨#[116, 105, 109, 101, 95, 117, 115, 101, 99]⟩, .int .i64 8, .bool false, .int .i64 0, .string ⟨#[102, 105, 120, 95, 116, 121, 112, 101]⟩, .int .i64 1, .bool false, .int .i64 0, .string ⟨#[108, 97, 116]⟩, .int .i64 4, .bool true, .int .i64 0, .string ⟨#[108, 111, 110]⟩, .int .i64 4, .bool true, .int .i64 0, .string ⟨#[97, 108, 116]⟩, .int .i64 4, .bool true, .int .i64 0, .string ⟨#[101, 112, 104]⟩, .int .i64 2, .bool false, .int .i64 0, .string ⟨#[101, 112, 118]⟩, .int .i64 2, .bool false, .int .i64 0, .string ⟨#[118, 101, 108]⟩, .int .i64 2, .bool false, .int .i64 0, .string ⟨#[99, 111, 103]⟩, .int .i64 2, .bool false, .int .i64 0, .string ⟨#[115, 97, 116, 101, 108, 108, 105, 116, 101, 115, 95, 118, 105, 115, 105, 98, 108, 101]⟩, .int .i64 1, .bool false, .int .i64 0] 71)).heap.size = u9.heap.size + 1 := World.size_alloc _ _
  rw [← hsz] at hlit
  have Hlit := Lib.hid hlit
  replace hb := hb.alloc hb.size (.cells #[.string ⟨#[116, 105, 109, 101, 95, 117, 115, 101, 99]⟩, .int .i64 8, .bool false, .int .i64 0, .string ⟨#[102, 105, 120, 95, 116, 121, 112, 101]⟩, .int .i64 1, .bool false, .int .i64 0, .string ⟨#[108, 97, 116]⟩, .int .i64 4, .bool true, .int .i64 0, .string ⟨#[108, 111, 110]⟩, .int .i64 4, .bool true, .int .i64 0, .string ⟨#[97, 108, 116]⟩, .int .i64 4, .bool true, .int .i64 0, .string ⟨#[101, 112, 104]⟩, .int .i64 2, .bool false, .int .i64 0, .string ⟨#[101, 112, 118]⟩, .int .i64 2, .bool false, .int .i64 0, .string ⟨#[118, 101, 108]⟩, .int .i64 2, .bool false, .int .i64 0, .string ⟨#[99, 111, 103]⟩, .int .i64 2, .bool false, .int .i64 0, .string ⟨#[115, 97, 116, 101, 108, 108, 105, 116, 101, 115, 95, 118, 105, 115, 105, 98, 108, 101]⟩, .int .i64 1, .bool false, .int .i64 0] 71)
  clear hlit hsz
  go_wp2
  go_ret
  exact ⟨some ⟨u9.heap.size, 0, none⟩, 10, 10, rfl, Hlit.out, hb⟩
set_option maxRecDepth 40000 in
set_option maxHeartbeats 8000000 in
theorem low_25 (w : World) : Calls Tryz.prog 61 #[.int .i64 25] w (RetPt fm25.2 w) := by
  go_enter Tryz.func61, Tryz.ntmps61
  go_wp2_with fail
  go_fit (qu_any ⟨#[115, 97, 116, 101, 108, 108, 105, 116, 101, 115, 95, 118, 105, 115, 105, 98, 108, 101]⟩ 8 1 (by decide) w)
  rintro e u0 ⟨rfl, hb⟩
  go_wp2_with fail
  go_fit (qmany_any ⟨#[115, 97, 116, 101, 108, 108, 105, 116, 101, 95, 112, 114, 110]⟩ 20 u0)
  rintro e u1 ⟨rfl, hbx⟩
  replace hb := bnx hb hbx
  clear hbx
  go_wp2_with fail
  go_fit (qmany_any ⟨#[115, 97, 116, 101, 108, 108, 105, 116, 101, 95, 117, 115, 101, 100]⟩ 20 u1)
  rintro e u2 ⟨rfl, hbx⟩
  replace hb := bnx hb hbx
  clear hbx
  go_wp2_with fail
  go_fit (qmany_any ⟨#[115, 97, 116, 101, 108, 108, 105, 116, 101, 95, 101, 108, 101, 118, 97, 116, 105, 111, 110]⟩ 20 u2)
  rintro e u3 ⟨rfl, hbx⟩
  replace hb := bnx hb hbx
  clear hbx
  go_wp2_with fail
  go_fit (qmany_any ⟨#[115, 97, 116, 101, 108, 108, 105, 116, 101, 95, 97, 122, 105, 109, 117, 116, 104]⟩ 20 u3)
  rintro e u4 ⟨rfl, hbx⟩
  replace hb := bnx hb hbx
  clear hbx
  go_wp2_with fail
  go_fit (qmany_any ⟨#[115, 97, 116, 101, 108, 108, 105, 116, 101, 95, 115, 110, 114]⟩ 20 u4)
  rintro e u5 ⟨rfl, hbx⟩
  replace hb := bnx hb hbx
  clear hbx
  have hlit := RdR.lit (size := 4) (e := 71) u5 (fm25.2.map ptC) #[.string ⟨#[115, 97, 116, 101, 108, 108, 105, 116, 101, 115, 95, 118, 105, 115, 105, 98, 108, 101]⟩, .int .i64 1, .bool false, .int .i64 0, .string ⟨#[115, 97, 116, 101, 108, 108, 105, 116, 101, 95, 112, 114, 110]⟩, .int .i64 1, .bool false, .int .i64 20, .string ⟨#[115, 97, 116, 101, 108, 108, 105, 116, 101, 95, 117, 115, 101, 100]⟩, .int .i64 1, .bool false, .int .i64 20, .string ⟨#[115, 97, 116, 101, 108, 108, 105, 116, 101, 95, 101, 108, 101, 118, 97, 116, 105, 111, 110]⟩, .int .i64 1, .bool false, .int .i64 20, .string ⟨#[115, 97, 116, 101, 108, 108, 105, 116, 101, 95, 97, 122, 105, 109, 117, 116, 104]⟩, .int .i64 1, .bool false, .int .i64 20, .string ⟨#[115, 97, 116, 101, 108, 108, 105, 116, 101, 95, 115, 110, 114]⟩, .int .i64 1, .bool false, .int .i64 20] rfl (ptC_len _) (by show 6 ≤ maxLen; simp [maxLen]) 6 rfl
  have hsz : (u5.alloc (.cells #[.string ⟨#[115, 97, 116, 101, 108, 108, 105, 116, 101, 115, 95, 118, 105, 115, 105, 98, 108, 101]⟩, .int .i64 1, .bool false, .int .i64 0, .string ⟨#[115, 97, 116, 101, 108, 108, 105, 116, 101, 95, 112, 114, 110]⟩, .int .i64 1, .bool false, .int .i64 20, .string ⟨#[115, 97, 116, 101, 108, 108, 105, 116, 101, 95, 117, 115, 101, 100]⟩, .int .i64 1, .bool false, .int .i64 20, .string ⟨#[115, 97, 116, 101, 108, 108, 105, 116, 101, 95, 101, 108, 101, 118, 97, 116, 105, 111, 110]⟩, .int .i64 1, .bool false, .int .i64 20, .string ⟨#[115, 97, 116, 101, 108, 108, 105, 116, 101, 95, 97, 122, 105, 109, 117, 116, 104]⟩, .int .i64 1, .bool false, .int .i64 20, .string ⟨#[115, 97, 116, 101, 108, 108, 105, 116, 101, 95, 115, 110, 114]⟩, .int .i64 1, .bool false, .int .i64 20] 71)).heap.size = u5.heap.size + 1 := World.size_alloc _ _
  rw [← hsz] at hlit
  have Hlit := Lib.hid hlit
  replace hb := hb.alloc hb.size (.cells #[.string ⟨#[115, 97, 116, 101, 108, 108, 105, 116, 101, 115, 95, 118, 105, 115, 105, 98, 108, 101]⟩, .int .i64 1, .bool false, .int .i64 0, .string ⟨#[115, 97, 116, 101, 108, 108, 105, 116, 101, 95, 112, 114, 110]⟩, .int .i64 1, .bool false, .int .i64 20, .string ⟨#[115, 97, 116, 101, 108, 108, 105, 116, 101, 95, 117, 115, 101, 100]⟩, .int .i64 1, .bool false, .int .i64 20, .string ⟨#[115, 97, 116, 101, 108, 108, 105, 116, 101, 95, 101, 108, 101, 118, 97, 116, 105, 111, 110]⟩, .int .i64 1, .bool false, .int .i64 20, .string ⟨#[115, 97, 116, 101, 108, 108, 105, 116, 101, 95, 97, 122, 105, 109, 117, 116, 104]⟩, .int .i64 1, .bool false, .int .i64 20, .string ⟨#[115, 97, 116, 101, 108, 108, 105, 116, 101, 95, 115, 110, 114]⟩, .int .i64 1, .bool false, .int .i64 20] 71)
  clear hlit hsz
  go_wp2
  go_ret
  exact ⟨some ⟨u5.heap.size, 0, none⟩, 6, 6, rfl, Hlit.out, hb⟩
set_option maxRecDepth 40000 in
set_option maxHeartbeats 8000000 in
theorem low_26 (w : World) : Calls Tryz.prog 61 #[.int .i64 26] w (RetPt fm26.2 w) := by
  go_enter Tryz.func61, Tryz.ntmps61
  go_wp2_with fail
  go_fit (qu_any ⟨#[116, 105, 109, 101, 95, 98, 111, 111, 116, 95, 109, 115]⟩ 32 4 (by decide) w)
  rintro e u0 ⟨rfl, hb⟩
  go_wp2_with fail
  go_fit (qi_any ⟨#[120, 97, 99, 99]⟩ 16 2 (by decide) u0)
  rintro e u1 ⟨rfl, hbx⟩
  replace hb := bnx hb hbx
  clear hbx
  go_wp2_with fail
  go_fit (qi_any ⟨#[121, 97, 99, 99]⟩ 16 2 (by decide) u1)
  rintro e u2 ⟨rfl, hbx⟩
  replace hb := bnx hb hbx
  clear hbx
  go_wp2_with fail
  go_fit (qi_any ⟨#[122, 97, 99, 99]⟩ 16 2 (by decide) u2)
  rintro e u3 ⟨rfl, hbx⟩
  replace hb := bnx hb hbx
  clear hbx
  go_wp2_with fail
  go_fit (qi_any ⟨#[120, 103, 121, 114, 111]⟩ 16 2 (by decide) u3)
  rintro e u4 ⟨rfl, hbx⟩
  replace hb := bnx hb hbx
  clear hbx
  go_wp2_with fail
  go_fit (qi_any ⟨#[121, 103, 121, 114, 111]⟩ 16 2 (by decide) u4)
  rintro e u5 ⟨rfl, hbx⟩
  replace hb := bnx hb hbx
  clear hbx
  go_wp2_with fail
  go_fit (qi_any ⟨#[122, 103, 121, 114, 111]⟩ 16 2 (by decide) u5)
  rintro e u6 ⟨rfl, hbx⟩
  replace hb := bnx hb hbx
  clear hbx
  go_wp2_with fail
  go_fit (qi_any ⟨#[120, 109, 97, 103]⟩ 16 2 (by decide) u6)
  rintro e u7 ⟨rfl, hbx⟩
  replace hb := bnx hb hbx
  clear hbx
  go_wp2_with fail
  go_fit (qi_any ⟨#[121, 109, 97, 103]⟩ 16 2 (by decide) u7)
  rintro e u8 ⟨rfl, hbx⟩
  replace hb := bnx hb hbx
  clear hbx
  go_wp2_with fail
  go_fit (qi_any ⟨#[122, 109, 97, 103]⟩ 16 2 (by decide) u8)
  rintro e u9 ⟨rfl, hbx⟩
  replace hb := bnx hb hbx
  clear hbx
  have hlit := RdR.lit (size := 4) (e := 71) u9 (fm26.2.map ptC) #[.string ⟨#[116, 105, 109, 101, 95, 98, 111, 111, 116, 95, 109, 115]⟩, .int .i64 4, .bool false, .int .i64 0, .string ⟨#[120, 97, 99, 99]⟩, .int .i64 2, .bool true, .int .i64 0, .string ⟨#[121, 97, 99, 99]⟩, .int .i64 2, .bool true, .int .i64 0, .string ⟨#[122, 97, 99, 99]⟩, .int .i64 2, .bool true, .int .i64 0, .string ⟨#[120, 103, 121, 114, 111]⟩, .int .i64 2, .bool true, .int .i64 0, .string ⟨#[121, 103, 121, 114, 111]⟩, .int .i64 2, .bool true, .int .i64 0, .string ⟨#[122, 103, 121, 114, 111]⟩, .int .i64 2, .bool true, .int .i64 0, .string ⟨#[120, 109, 97, 103]⟩, .int .i64 2, .bool true, .int .i64 0, .string ⟨#[121, 109, 97, 103]⟩, .int .i64 2, .bool true, .int .i64 0, .string ⟨#[122, 109, 97, 103]⟩, .int .i64 2, .bool true, .int .i64 0] rfl (ptC_len _) (by show 10 ≤ maxLen; simp [maxLen]) 10 rfl
  have hsz : (u9.alloc (.cells #[.string ⟨#[116, 105, 109, 101, 95, 98, 111, 111, 116, 95, 109, 115]⟩, .int .i64 4, .bool false, .int .i64 0, .string ⟨#[120, 97, 99, 99]⟩, .int .i64 2, .bool true, .int .i64 0, .string ⟨#[121, 97, 99, 99]⟩, .int .i64 2, .bool true, .int .i64 0, .string ⟨#[122, 97, 99, 99]⟩, .int .i64 2, .bool true, .int .i64 0, .string ⟨#[120, 103, 121, 114, 111]⟩, .int .i64 2, .bool true, .int .i64 0, .string ⟨#[121, 103, 121, 114, 111]⟩, .int .i64 2, .bool true, .int .i64 0, .string ⟨#[122, 103, 121, 114, 111]⟩, .int .i64 2, .bool true, .int .i64 0, .string ⟨#[120, 109, 97, 103]⟩, .int .i64 2, .bool true, .int .i64 0, .string ⟨#[121, 109, 97, 103]⟩, .int .i64 2, .bool true, .int .i64 0, .string ⟨#[122, 109, 97, 103]⟩, .int .i64 2, .bool true, .int .i64 0] 71)).heap.size = u9.heap.size + 1 := World.size_alloc _ _
  rw [← hsz] at hlit
  have Hlit := Lib.hid hlit
  replace hb := hb.alloc hb.size (.cells #[.string ⟨#[116, 105, 109, 101, 95, 98, 111, 111, 116, 95, 109, 115]⟩, .int .i64 4, .bool false, .int .i64 0, .string ⟨#[120, 97, 99, 99]⟩, .int .i64 2, .bool true, .int .i64 0, .string ⟨#[121, 97, 99, 99]⟩, .int .i64 2, .bool true, .int .i64 0, .string ⟨#[122, 97, 99, 99]⟩, .int .i64 2, .bool true, .int .i64 0, .string ⟨#[120, 103, 121, 114, 111]⟩, .int .i64 2, .bool true, .int .i64 0, .string ⟨#[121, 103, 121, 114, 111]⟩, .int .i64 2, .bool true, .int .i64 0, .string ⟨#[122, 103, 121, 114, 111]⟩, .int .i64 2, .bool true, .int .i64 0, .string ⟨#[120, 109, 97, 103]⟩, .int .i64 2, .bool true, .int .i64 0, .string ⟨#[121, 109, 97, 103]⟩, .int .i64 2, .bool true, .int .i64 0, .string ⟨#[122, 109, 97, 103]⟩, .int .i64 2, .bool true, .int .i64 0] 71)
  clear hlit hsz
  go_wp2
  go_ret
  exact ⟨some ⟨u9.heap.size, 0, none⟩, 10, 10, rfl, Hlit.out, hb⟩
set_option maxRecDepth 40000 in
set_option maxHeartbeats 8000000 in
theorem low_27 (w : World) : Calls Tryz.prog 61 #[.int .i64 27] w (RetPt fm27.2 w) := by
  go_enter Tryz.func61, Tryz.ntmps61
  go_wp2_with fail
  go_fit (qu_any ⟨#[116, 105, 109, 101, 95, 117, 115, 101, 99]⟩ 64 8 (by decide) w)
  rintro e u0 ⟨rfl, hb⟩
  go_wp2_with fail
  go_fit (qi_any ⟨#[120, 97, 99, 99]⟩ 16 2 (by decide) u0)
  rintro e u1 ⟨rfl, hbx⟩
  replace hb := bnx hb hbx
  clear hbx
  go_wp2_with fail
  go_fit (qi_any ⟨#[121, 97, 99, 99]⟩ 16 2 (by decide) u1)
  rintro e u2 ⟨rfl, hbx⟩
  replace hb := bnx hb hbx
  clear hbx
  go_wp2_with fail
  go_fit (qi_any ⟨#[122, 97, 99, 99]⟩ 16 2 (by decide) u2)
  rintro e u3 ⟨rfl, hbx⟩
  replace hb := bnx hb hbx
  clear hbx
  go_wp2_with fail
  go_fit (qi_any ⟨#[120, 103, 121, 114, 111]⟩ 16 2 (by decide) u3)
  rintro e u4 ⟨rfl, hbx⟩
  replace hb := bnx hb hbx
  clear hbx
  go_wp2_with fail
  go_fit (qi_any ⟨#[121, 103, 121, 114, 111]⟩ 16 2 (by decide) u4)
  rintro e u5 ⟨rfl, hbx⟩
  replace hb := bnx hb hbx
  clear hbx
  go_wp2_with fail
  go_fit (qi_any ⟨#[122, 103, 121, 114, 111]⟩ 16 2 (by decide) u5)
  rintro e u6 ⟨rfl, hbx⟩
  replace hb := bnx hb hbx
  clear hbx
  go_wp2_with fail
  go_fit (qi_any ⟨#[120, 109, 97, 103]⟩ 16 2 (by decide) u6)
  rintro e u7 ⟨rfl, hbx⟩
  replace hb := bnx hb hbx
  clear hbx
  go_wp2_with fail
  go_fit (qi_any ⟨#[121, 109, 97, 103]⟩ 16 2 (by decide) u7)
  rintro e u8 ⟨rfl, hbx⟩
  replace hb := bnx hb hbx
  clear hbx
  go_wp2_with fail
  go_fit (qi_any ⟨#[122, 109, 97, 103]⟩ 16 2 (by decide) u8)
  rintro e u9 ⟨rfl, hbx⟩
  replace hb := bnx hb hbx
  clear hbx
  have hlit := RdR.lit (size := 4) (e := 71) u9 (fm27.2.map ptC) #[.string ⟨#[116, 105, 109, 101, 95, 117, 115, 101, 99]⟩, .int .i64 8, .bool false, .int .i64 0, .string ⟨#[120, 97, 99, 99]⟩, .int .i64 2, .bool true, .int .i64 0, .string ⟨#[121, 97, 99, 99]⟩, .int .i64 2, .bool true, .int .i64 0, .string ⟨#[122, 97, 99, 99]⟩, .int .i64 2, .bool true, .int .i64 0, .string ⟨#[120, 103, 121, 114, 111]⟩, .int .i64 2, .bool true, .int .i64 0, .string ⟨#[121, 103, 121, 114, 111]⟩, .int .i64 2, .bool true, .int .i64 0, .string ⟨#[122, 103, 121, 114, 111]⟩, .int .i64 2, .bool true, .int .i64 0, .string ⟨#[120, 109, 97, 103]⟩, .int .i64 2, .bool true, .int .i64 0, .string ⟨#[121, 109, 97, 103]⟩, .int .i64 2, .bool true, .int .i64 0, .string ⟨#[122, 109, 97, 103]⟩, .int .i64 2, .bool true, .int .i64 0] rfl (ptC_len _) (by show 10 ≤ maxLen; simp [maxLen]) 10 rfl
  have hsz : (u9.alloc (.cells #[.string ⟨#[116, 105, 109, 101, 95, 117, 115, 101, 99]⟩, .int .i64 8, .bool false, .int .i64 0, .string ⟨#[120, 97, 99, 99]⟩, .int .i64 2, .bool true, .int .i64 0, .string ⟨#[121, 97, 99, 99]⟩, .int .i64 2, .bool true, .int .i64 0, .string ⟨#[122, 97, 99, 99]⟩, .int .i64 2, .bool true, .int .i64 0, .string ⟨#[120, 103, 121, 114, 111]⟩, .int .i64 2, .bool true, .int .i64 0, .string ⟨#[121, 103, 121, 114, 111]⟩, .int .i64 2, .bool true, .int .i64 0, .string ⟨#[122, 103, 121, 114, 111]⟩, .int .i64 2, .bool true, .int .i64 0, .string ⟨#[120, 109, 97, 103]⟩, .int .i64 2, .bool true, .int .i64 0, .string ⟨#[121, 109, 97, 103]⟩, .int .i64 2, .bool true, .int .i64 0, .string ⟨#[122, 109, 97, 103]⟩, .int .i64 2, .bool true, .int .i64 0] 71)).heap.size = u9.heap.size + 1 := World.size_alloc _ _
  rw [← hsz] at hlit
  have Hlit := Lib.hid hlit
  replace hb := hb.alloc hb.size (.cells #[.string ⟨#[116, 105, 109, 101, 95, 117, 115, 101, 99]⟩, .int .i64 8, .bool false, .int .i64 0, .string ⟨#[120, 97, 99, 99]⟩, .int .i64 2, .bool true, .int .i64 0, .string ⟨#[121, 97, 99, 99]⟩, .int .i64 2, .bool true, .int .i64 0, .string ⟨#[122, 97, 99, 99]⟩, .int .i64 2, .bool true, .int .i64 0, .string ⟨#[120, 103, 121, 114, 111]⟩, .int .i64 2, .bool true, .int .i64 0, .string ⟨#[121, 103, 121, 114, 111]⟩, .int .i64 2, .bool true, .int .i64 0, .string ⟨#[122, 103, 121, 114, 111]⟩, .int .i64 2, .bool true, .int .i64 0, .string ⟨#[120, 109, 97, 103]⟩, .int .i64 2, .bool true, .int .i64 0, .string ⟨#[121, 109, 97, 103]⟩, .int .i64 2, .bool true, .int .i64 0, .string ⟨#[122, 109, 97, 103]⟩, .int .i64 2, .bool true, .int .i64 0] 71)
  clear hlit hsz
  go_wp2
  go_ret
  exact ⟨some ⟨u9.heap.size, 0, none⟩, 10, 10, rfl, Hlit.out, hb⟩
set_option maxRecDepth 40000 in
set_option maxHeartbeats 8000000 in
theorem low_28 (w : World) : Calls Tryz.prog 61 #[.int .i64 28] w (RetPt fm28.2 w) := by
  go_enter Tryz.func61, Tryz.ntmps61
  go_wp2_with fail
  go_fit (qu_any ⟨#[116, 105, 109, 101, 95, 117, 115, 101, 99]⟩ 64 8 (by decide) w)
  rintro e u0 ⟨rfl, hb⟩
  go_wp2_with fail
  go_fit (qi_any ⟨#[112, 114, 101, 115, 115, 95, 97, 98, 115]⟩ 16 2 (by decide) u0)
  rintro e u1 ⟨rfl, hbx⟩
  replace hb := bnx hb hbx
  clear hbx
  go_wp2_with fail
  go_fit (qi_any ⟨#[112, 114, 101, 115, 115, 95, 100, 105, 102, 102, 49]⟩ 16 2 (by decide) u1)
  rintro e u2 ⟨rfl, hbx⟩
  replace hb := bnx hb hbx
  clear hbx
  go_wp2_with fail
  go_fit (qi_any ⟨#[112, 114, 101, 115, 115, 95, 100, 105, 102, 102, 50]⟩ 16 2 (by decide) u2)
  rintro e u3 ⟨rfl, hbx⟩
  replace hb := bnx hb hbx
  clear hbx
  go_wp2_with fail
  go_fit (qi_any ⟨#[116, 101, 109, 112, 101, 114, 97, 116, 117, 114, 101]⟩ 16 2 (by decide) u3)
  rintro e u4 ⟨rfl, hbx⟩
  replace hb := bnx hb hbx
  clear hbx
  have hlit := RdR.lit (size := 4) (e := 71) u4 (fm28.2.map ptC) #[.string ⟨#[116, 105, 109, 101, 95, 117, 115, 101, 99]⟩, .int .i64 8, .bool false, .int .i64 0, .string ⟨#[112, 114, 101, 115, 115, 95, 97, 98, 115]⟩, .int .i64 2, .bool true, .int .i64 0, .string ⟨#[112, 114, 101, 115, 115, 95, 100, 105, 102, 102, 49]⟩, .int .i64 2, .bool true, .int .i64 0, .string ⟨#[112, 114, 101, 115, 115, 95, 100, 105, 102, 102, 50]⟩, .int .i64 2, .bool true, .int .i64 0, .string ⟨#[116, 101, 109, 112, 101, 114, 97, 116, 117, 114, 101]⟩, .int .i64 2, .bool true, .int .i64 0] rfl (ptC_len _) (by show 5 ≤ maxLen; simp [maxLen]) 5 rfl
  have hsz : (u4.alloc (.cells #[.string ⟨#[116, 105, 109, 101, 95, 117, 115, 101, 99]⟩, .int .i64 8, .bool false, .int .i64 0, .string ⟨#[112, 114, 101, 115, 115, 95, 97, 98, 115]⟩, .int .i64 2, .bool true, .int .i64 0, .string ⟨#[112, 114, 101, 115, 115, 95, 100, 105, 102, 102, 49]⟩, .int .i64 2, .bool true, .int .i64 0, .string ⟨#[112, 114, 101, 115, 115, 95, 100, 105, 102, 102, 50]⟩, .int .i64 2, .bool true, .int .i64 0, .string ⟨#[116, 101, 109, 112, 101, 114, 97, 116, 117, 114, 101]⟩, .int .i64 2, .bool true, .int .i64 0] 71)).heap.size = u4.heap.size + 1 := World.size_alloc _ _
  rw [← hsz] at hlit
  have Hlit := Lib.hid hlit
  replace hb := hb.alloc hb.size (.cells #[.string ⟨#[116, 105, 109, 101, 95, 117, 115, 101, 99]⟩, .int .i64 8, .bool false, .int .i64 0, .string ⟨#[112, 114, 101, 115, 115, 95, 97, 98, 115]⟩, .int .i64 2, .bool true, .int .i64 0, .string ⟨#[112, 114, 101, 115, 115, 95, 100, 105, 102, 102, 49]⟩, .int .i64 2, .bool true, .int .i64 0, .string ⟨#[112, 114, 101, 115, 115, 95, 100, 105, 102, 102, 50]⟩, .int .i64 2, .bool true, .int .i64 0, .string ⟨#[116, 101, 109, 112, 101, 114, 97, 116, 117, 114, 101]⟩, .int .i64 2, .bool true, .int .i64 0] 71)
  clear hlit hsz
  go_wp2
  go_ret
  exact ⟨some ⟨u4.heap.size, 0, none⟩, 5, 5, rfl, Hlit.out, hb⟩
set_option maxRecDepth 20000 in
set_option maxHeartbeats 4000000 in
theorem low_no (id : Int) (h0 : ¬ id = 0) (h1 : ¬ id = 1) (h2 : ¬ id = 2) (h4 : ¬ id = 4) (h24 : ¬ id = 24) (h25 : ¬ id = 25) (h26 : ¬ id = 26) (h27 : ¬ id = 27) (h28 : ¬ id = 28) (w : World) : Calls Tryz.prog 61 #[.int .i64 id] w (RetPt [] w) := by
  have q0 : (id == 0) = false := by rw [beq_eq_false_iff_ne]; exact h0
  have q1 : (id == 1) = false := by rw [beq_eq_false_iff_ne]; exact h1
  have q2 : (id == 2) = false := by rw [beq_eq_false_iff_ne]; exact h2
  have q4 : (id == 4) = false := by rw [beq_eq_false_iff_ne]; exact h4
  have q24 : (id == 24) = false := by rw [beq_eq_false_iff_ne]; exact h24
  have q25 : (id == 25) = false := by rw [beq_eq_false_iff_ne]; exact h25
  have q26 : (id == 26) = false := by rw [beq_eq_false_iff_ne]; exact h26
  have q27 : (id == 27) = false := by rw [beq_eq_false_iff_ne]; exact h27
  have q28 : (id == 28) = false := by rw [beq_eq_false_iff_ne]; exact h28
  go_enter Tryz.func61, Tryz.ntmps61
  go_wp2
  go_ret
  exact ⟨none, 0, 0, rfl, RdR.none_ _ _ _, Below.refl _ _⟩
def frqL (id : Int) : FmT := if id = 0 then fm0 else if id = 1 then fm1 else if id = 2 then fm2 else if id = 4 then fm4 else if id = 24 then fm24 else if id = 25 then fm25 else if id = 26 then fm26 else if id = 27 then fm27 else if id = 28 then fm28 else fmNone
theorem low_any (id : Int) (w : World) : Calls Tryz.prog 61 #[.int .i64 id] w (RetPt (frqL id).2 w) := by
  unfold frqL
  by_cases h0 : id = 0
  · subst h0
    rw [if_pos rfl]
    exact low_0 w
  rw [if_neg h0]
  by_cases h1 : id = 1
  · subst h1
    rw [if_pos rfl]
    exact low_1 w
  rw [if_neg h1]
  by_cases h2 : id = 2
  · subst h2
    rw [if_pos rfl]
    exact low_2 w
  rw [if_neg h2]
  by_cases h4 : id = 4
  · subst h4
    rw [if_pos rfl]
    exact low_4 w
  rw [if_neg h4]
  by_cases h24 : id = 24
  · subst h24
    rw [if_pos rfl]
    exact low_24 w
  rw [if_neg h24]
  by_cases h25 : id = 25
  · subst h25
    rw [if_pos rfl]
    exact low_25 w
  rw [if_neg h25]
  by_cases h26 : id = 26
  · subst h26
    rw [if_pos rfl]
    exact low_26 w
  rw [if_neg h26]
  by_cases h27 : id = 27
  · subst h27
    rw [if_pos rfl]
    exact low_27 w
  rw [if_neg h27]
  by_cases h28 : id = 28
  · subst h28
    rw [if_pos rfl]
    exact low_28 w
  rw [if_neg h28]
  exact low_no id h0 h1 h2 h4 h24 h25 h26 h27 h28 w

end Go.Proofs.YtonejdjhdjckjaaGreat
