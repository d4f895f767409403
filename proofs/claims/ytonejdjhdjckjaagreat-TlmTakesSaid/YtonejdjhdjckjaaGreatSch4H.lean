/-
  the document's forms, high walked (printed by gen_sch4.py).
-/
import Derived.Test.YtonejdjhdjckjaaGreatSch4
set_option linter.unusedSimpArgs false
set_option linter.unusedVariables false
namespace Go.Proofs.YtonejdjhdjckjaaGreat
open Go.RowKit NumLaw
attribute [local go_sem] Addr.add_mid

set_option maxRecDepth 40000 in
set_option maxHeartbeats 8000000 in
theorem high_33 (w : World) : Calls Tryz.prog 62 #[.int .i64 33] w (RetPt fm33.2 w) := by
  go_enter Tryz.func62, Tryz.ntmps62
  go_wp2_with fail
  go_fit (qu_any ⟨#[116, 105, 109, 101, 95, 98, 111, 111, 116, 95, 109, 115]⟩ 32 4 (by decide) w)
  rintro e u0 ⟨rfl, hb⟩
  go_wp2_with fail
  go_fit (qi_any ⟨#[108, 97, 116]⟩ 32 4 (by decide) u0)
  rintro e u1 ⟨rfl, hbx⟩
  replace hb := bnx hb hbx
  clear hbx
  go_wp2_with fail
  go_fit (qi_any ⟨#[108, 111, 110]⟩ 32 4 (by decide) u1)
  rintro e u2 ⟨rfl, hbx⟩
  replace hb := bnx hb hbx
  clear hbx
  go_wp2_with fail
  go_fit (qi_any ⟨#[97, 108, 116]⟩ 32 4 (by decide) u2)
  rintro e u3 ⟨rfl, hbx⟩
  replace hb := bnx hb hbx
  clear hbx
  go_wp2_with fail
  go_fit (qi_any ⟨#[114, 101, 108, 97, 116, 105, 118, 101, 95, 97, 108, 116]⟩ 32 4 (by decide) u3)
  rintro e u4 ⟨rfl, hbx⟩
  replace hb := bnx hb hbx
  clear hbx
  go_wp2_with fail
  go_fit (qi_any ⟨#[118, 120]⟩ 16 2 (by decide) u4)
  rintro e u5 ⟨rfl, hbx⟩
  replace hb := bnx hb hbx
  clear hbx
  go_wp2_with fail
  go_fit (qi_any ⟨#[118, 121]⟩ 16 2 (by decide) u5)
  rintro e u6 ⟨rfl, hbx⟩
  replace hb := bnx hb hbx
  clear hbx
  go_wp2_with fail
  go_fit (qi_any ⟨#[118, 122]⟩ 16 2 (by decide) u6)
  rintro e u7 ⟨rfl, hbx⟩
  replace hb := bnx hb hbx
  clear hbx
  go_wp2_with fail
  go_fit (qu_any ⟨#[104, 100, 103]⟩ 16 2 (by decide) u7)
  rintro e u8 ⟨rfl, hbx⟩
  replace hb := bnx hb hbx
  clear hbx
  have hlit := RdR.lit (size := 4) (e := 71) u8 (fm33.2.map ptC) #[.string ⟨#[116, 105, 109, 101, 95, 98, 111, 111, 116, 95, 109, 115]⟩, .int .i64 4, .bool false, .int .i64 0, .string ⟨#[108, 97, 116]⟩, .int .i64 4, .bool true, .int .i64 0, .string ⟨#[108, 111, 110]⟩, .int .i64 4, .bool true, .int .i64 0, .string ⟨#[97, 108, 116]⟩, .int .i64 4, .bool true, .int .i64 0, .string ⟨#[114, 101, 108, 97, 116, 105, 118, 101, 95, 97, 108, 116]⟩, .int .i64 4, .bool true, .int .i64 0, .string ⟨#[118, 120]⟩, .int .i64 2, .bool true, .int .i64 0, .string ⟨#[118, 121]⟩, .int .i64 2, .bool true, .int .i64 0, .string ⟨#[118, 122]⟩, .int .i64 2, .bool true, .int .i64 0, .string ⟨#[104, 100, 103]⟩, .int .i64 2, .bool false, .int .i64 0] rfl (ptC_len _) (by show 9 ≤ maxLen; simp [maxLen]) 9 rfl
  have hsz : (u8.alloc (.cells #[.string ⟨#[116, 105, 109, 101, 95, 98, 111, 111, 116, 95, 109, 115]⟩, .int .i64 4, .bool false, .int .i64 0, .string ⟨#[108, 97, 116]⟩, .int .i64 4, .bool true, .int .i64 0, .string ⟨#[108, 111, 110]⟩, .int .i64 4, .bool true, .int .i64 0, .string ⟨#[97, 108, 116]⟩, .int .i64 4, .bool true, .int .i64 0, .string ⟨#[114, 101, 108, 97, 116, 105, 118, 101, 95, 97, 108, 116]⟩, .int .i64 4, .bool true, .int .i64 0, .string ⟨#[118, 120]⟩, .int .i64 2, .bool true, .int .i64 0, .string ⟨#[118, 121]⟩, .int .i64 2, .bool true, .int .i64 0, .string ⟨#[118, 122]⟩, .int .i64 2, .bool true, .int .i64 0, .string ⟨#[104, 100, 103]⟩, .int .i64 2, .bool false, .int .i64 0] 71)).heap.size = u8.heap.size + 1 := World.size_alloc _ _
  rw [← hsz] at hlit
  have Hlit := Lib.hid hlit
  replace hb := hb.alloc hb.size (.cells #[.string ⟨#[116, 105, 109, 101, 95, 98, 111, 111, 116, 95, 109, 115]⟩, .int .i64 4, .bool false, .int .i64 0, .string ⟨#[108, 97, 116]⟩, .int .i64 4, .bool true, .int .i64 0, .string ⟨#[108, 111, 110]⟩, .int .i64 4, .bool true, .int .i64 0, .string ⟨#[97, 108, 116]⟩, .int .i64 4, .bool true, .int .i64 0, .string ⟨#[114, 101, 108, 97, 116, 105, 118, 101, 95, 97, 108, 116]⟩, .int .i64 4, .bool true, .int .i64 0, .string ⟨#[118, 120]⟩, .int .i64 2, .bool true, .int .i64 0, .string ⟨#[118, 121]⟩, .int .i64 2, .bool true, .int .i64 0, .string ⟨#[118, 122]⟩, .int .i64 2, .bool true, .int .i64 0, .string ⟨#[104, 100, 103]⟩, .int .i64 2, .bool false, .int .i64 0] 71)
  clear hlit hsz
  go_wp2
  go_ret
  exact ⟨some ⟨u8.heap.size, 0, none⟩, 9, 9, rfl, Hlit.out, hb⟩
set_option maxRecDepth 40000 in
set_option maxHeartbeats 8000000 in
theorem high_35 (w : World) : Calls Tryz.prog 62 #[.int .i64 35] w (RetPt fm35.2 w) := by
  go_enter Tryz.func62, Tryz.ntmps62
  go_wp2_with fail
  go_fit (qu_any ⟨#[116, 105, 109, 101, 95, 98, 111, 111, 116, 95, 109, 115]⟩ 32 4 (by decide) w)
  rintro e u0 ⟨rfl, hb⟩
  go_wp2_with fail
  go_fit (qu_any ⟨#[112, 111, 114, 116]⟩ 8 1 (by decide) u0)
  rintro e u1 ⟨rfl, hbx⟩
  replace hb := bnx hb hbx
  clear hbx
  go_wp2_with fail
  go_fit (qu_any ⟨#[99, 104, 97, 110, 49, 95, 114, 97, 119]⟩ 16 2 (by decide) u1)
  rintro e u2 ⟨rfl, hbx⟩
  replace hb := bnx hb hbx
  clear hbx
  go_wp2_with fail
  go_fit (qu_any ⟨#[99, 104, 97, 110, 50, 95, 114, 97, 119]⟩ 16 2 (by decide) u2)
  rintro e u3 ⟨rfl, hbx⟩
  replace hb := bnx hb hbx
  clear hbx
  go_wp2_with fail
  go_fit (qu_any ⟨#[99, 104, 97, 110, 51, 95, 114, 97, 119]⟩ 16 2 (by decide) u3)
  rintro e u4 ⟨rfl, hbx⟩
  replace hb := bnx hb hbx
  clear hbx
  go_wp2_with fail
  go_fit (qu_any ⟨#[99, 104, 97, 110, 52, 95, 114, 97, 119]⟩ 16 2 (by decide) u4)
  rintro e u5 ⟨rfl, hbx⟩
  replace hb := bnx hb hbx
  clear hbx
  go_wp2_with fail
  go_fit (qu_any ⟨#[99, 104, 97, 110, 53, 95, 114, 97, 119]⟩ 16 2 (by decide) u5)
  rintro e u6 ⟨rfl, hbx⟩
  replace hb := bnx hb hbx
  clear hbx
  go_wp2_with fail
  go_fit (qu_any ⟨#[99, 104, 97, 110, 54, 95, 114, 97, 119]⟩ 16 2 (by decide) u6)
  rintro e u7 ⟨rfl, hbx⟩
  replace hb := bnx hb hbx
  clear hbx
  go_wp2_with fail
  go_fit (qu_any ⟨#[99, 104, 97, 110, 55, 95, 114, 97, 119]⟩ 16 2 (by decide) u7)
  rintro e u8 ⟨rfl, hbx⟩
  replace hb := bnx hb hbx
  clear hbx
  go_wp2_with fail
  go_fit (qu_any ⟨#[99, 104, 97, 110, 56, 95, 114, 97, 119]⟩ 16 2 (by decide) u8)
  rintro e u9 ⟨rfl, hbx⟩
  replace hb := bnx hb hbx
  clear hbx
  go_wp2_with fail
  go_fit (qu_any ⟨#[114, 115, 115, 105]⟩ 8 1 (by decide) u9)
  rintro e u10 ⟨rfl, hbx⟩
  replace hb := bnx hb hbx
  clear hbx
  have hlit := RdR.lit (size := 4) (e := 71) u10 (fm35.2.map ptC) #[.string ⟨#[116, 105, 109, 101, 95, 98, 111, 111, 116, 95, 109, 115]⟩, .int .i64 4, .bool false, .int .i64 0, .string ⟨#[112, 111, 114, 116]⟩, .int .i64 1, .bool false, .int .i64 0, .string ⟨#[99, 104, 97, 110, 49, 95, 114, 97, 119]⟩, .int .i64 2, .bool false, .int .i64 0, .string ⟨#[99, 104, 97, 110, 50, 95, 114, 97, 119]⟩, .int .i64 2, .bool false, .int .i64 0, .string ⟨#[99, 104, 97, 110, 51, 95, 114, 97, 119]⟩, .int .i64 2, .bool false, .int .i64 0, .string ⟨#[99, 104, 97, 110, 52, 95, 114, 97, 119]⟩, .int .i64 2, .bool false, .int .i64 0, .string ⟨#[99, 104, 97, 110, 53, 95, 114, 97, 119]⟩, .int .i64 2, .bool false, .int .i64 0, .string ⟨#[99, 104, 97, 110, 54, 95, 114, 97, 119]⟩, .int .i64 2, .bool false, .int .i64 0, .string ⟨#[99, 104, 97, 110, 55, 95, 114, 97, 119]⟩, .int .i64 2, .bool false, .int .i64 0, .string ⟨#[99, 104, 97, 110, 56, 95, 114, 97, 119]⟩, .int .i64 2, .bool false, .int .i64 0, .string ⟨#[114, 115, 115, 105]⟩, .int .i64 1, .bool false, .int .i64 0] rfl (ptC_len _) (by show 11 ≤ maxLen; simp [maxLen]) 11 rfl
  have hsz : (u10.alloc (.cells #[.string ⟨#[116, 105, 109, 101, 95, 98, 111, 111, 116, 95, 109, 115]⟩, .int .i64 4, .bool false, .int .i64 0, .string ⟨#[112, 111, 114, 116]⟩, .int .i64 1, .bool false, .int .i64 0, .string ⟨#[99, 104, 97, 110, 49, 95, 114, 97, 119]⟩, .int .i64 2, .bool false, .int .i64 0, .string ⟨#[99, 104, 97, 110, 50, 95, 114, 97, 119]⟩, .int .i64 2, .bool false, .int .i64 0, .string ⟨#[99, 104, 97, 110, 51, 95, 114, 97, 119]⟩, .int .i64 2, .bool false, .int .i64 0, .string ⟨#[99, 104, 97, 110, 52, 95, 114, 97, 119]⟩, .int .i64 2, .bool false, .int .i64 0, .string ⟨#[99, 104, 97, 110, 53, 95, 114, 97, 119]⟩, .int .i64 2, .bool false, .int .i64 0, .string ⟨#[99, 104, 97, 110, 54, 95, 114, 97, 119]⟩, .int .i64 2, .bool false, .int .i64 0, .string ⟨#[99, 104, 97, 110, 55, 95, 114, 97, 119]⟩, .int .i64 2, .bool false, .int .i64 0, .string ⟨#[99, 104, 97, 110, 56, 95, 114, 97, 119]⟩, .int .i64 2, .bool false, .int .i64 0, .string ⟨#[114, 115, 115, 105]⟩, .int .i64 1, .bool false, .int .i64 0] 71)).heap.size = u10.heap.size + 1 := World.size_alloc _ _
  rw [← hsz] at hlit
  have Hlit := Lib.hid hlit
  replace hb := hb.alloc hb.size (.cells #[.string ⟨#[116, 105, 109, 101, 95, 98, 111, 111, 116, 95, 109, 115]⟩, .int .i64 4, .bool false, .int .i64 0, .string ⟨#[112, 111, 114, 116]⟩, .int .i64 1, .bool false, .int .i64 0, .string ⟨#[99, 104, 97, 110, 49, 95, 114, 97, 119]⟩, .int .i64 2, .bool false, .int .i64 0, .string ⟨#[99, 104, 97, 110, 50, 95, 114, 97, 119]⟩, .int .i64 2, .bool false, .int .i64 0, .string ⟨#[99, 104, 97, 110, 51, 95, 114, 97, 119]⟩, .int .i64 2, .bool false, .int .i64 0, .string ⟨#[99, 104, 97, 110, 52, 95, 114, 97, 119]⟩, .int .i64 2, .bool false, .int .i64 0, .string ⟨#[99, 104, 97, 110, 53, 95, 114, 97, 119]⟩, .int .i64 2, .bool false, .int .i64 0, .string ⟨#[99, 104, 97, 110, 54, 95, 114, 97, 119]⟩, .int .i64 2, .bool false, .int .i64 0, .string ⟨#[99, 104, 97, 110, 55, 95, 114, 97, 119]⟩, .int .i64 2, .bool false, .int .i64 0, .string ⟨#[99, 104, 97, 110, 56, 95, 114, 97, 119]⟩, .int .i64 2, .bool false, .int .i64 0, .string ⟨#[114, 115, 115, 105]⟩, .int .i64 1, .bool false, .int .i64 0] 71)
  clear hlit hsz
  go_wp2
  go_ret
  exact ⟨some ⟨u10.heap.size, 0, none⟩, 11, 11, rfl, Hlit.out, hb⟩
set_option maxRecDepth 40000 in
set_option maxHeartbeats 8000000 in
theorem high_36 (w : World) : Calls Tryz.prog 62 #[.int .i64 36] w (RetPt fm36.2 w) := by
  go_enter Tryz.func62, Tryz.ntmps62
  go_wp2_with fail
  go_fit (qu_any ⟨#[116, 105, 109, 101, 95, 117, 115, 101, 99]⟩ 32 4 (by decide) w)
  rintro e u0 ⟨rfl, hb⟩
  go_wp2_with fail
  go_fit (qu_any ⟨#[112, 111, 114, 116]⟩ 8 1 (by decide) u0)
  rintro e u1 ⟨rfl, hbx⟩
  replace hb := bnx hb hbx
  clear hbx
  go_wp2_with fail
  go_fit (qu_any ⟨#[115, 101, 114, 118, 111, 49, 95, 114, 97, 119]⟩ 16 2 (by decide) u1)
  rintro e u2 ⟨rfl, hbx⟩
  replace hb := bnx hb hbx
  clear hbx
  go_wp2_with fail
  go_fit (qu_any ⟨#[115, 101, 114, 118, 111, 50, 95, 114, 97, 119]⟩ 16 2 (by decide) u2)
  rintro e u3 ⟨rfl, hbx⟩
  replace hb := bnx hb hbx
  clear hbx
  go_wp2_with fail
  go_fit (qu_any ⟨#[115, 101, 114, 118, 111, 51, 95, 114, 97, 119]⟩ 16 2 (by decide) u3)
  rintro e u4 ⟨rfl, hbx⟩
  replace hb := bnx hb hbx
  clear hbx
  go_wp2_with fail
  go_fit (qu_any ⟨#[115, 101, 114, 118, 111, 52, 95, 114, 97, 119]⟩ 16 2 (by decide) u4)
  rintro e u5 ⟨rfl, hbx⟩
  replace hb := bnx hb hbx
  clear hbx
  go_wp2_with fail
  go_fit (qu_any ⟨#[115, 101, 114, 118, 111, 53, 95, 114, 97, 119]⟩ 16 2 (by decide) u5)
  rintro e u6 ⟨rfl, hbx⟩
  replace hb := bnx hb hbx
  clear hbx
  go_wp2_with fail
  go_fit (qu_any ⟨#[115, 101, 114, 118, 111, 54, 95, 114, 97, 119]⟩ 16 2 (by decide) u6)
  rintro e u7 ⟨rfl, hbx⟩
  replace hb := bnx hb hbx
  clear hbx
  go_wp2_with fail
  go_fit (qu_any ⟨#[115, 101, 114, 118, 111, 55, 95, 114, 97, 119]⟩ 16 2 (by decide) u7)
  rintro e u8 ⟨rfl, hbx⟩
  replace hb := bnx hb hbx
  clear hbx
  go_wp2_with fail
  go_fit (qu_any ⟨#[115, 101, 114, 118, 111, 56, 95, 114, 97, 119]⟩ 16 2 (by decide) u8)
  rintro e u9 ⟨rfl, hbx⟩
  replace hb := bnx hb hbx
  clear hbx
  have hlit := RdR.lit (size := 4) (e := 71) u9 (fm36.2.map ptC) #[.string ⟨#[116, 105, 109, 101, 95, 117, 115, 101, 99]⟩, .int .i64 4, .bool false, .int .i64 0, .string ⟨#[112, 111, 114, 116]⟩, .int .i64 1, .bool false, .int .i64 0, .string ⟨#[115, 101, 114, 118, 111, 49, 95, 114, 97, 119]⟩, .int .i64 2, .bool false, .int .i64 0, .string ⟨#[115, 101, 114, 118, 111, 50, 95, 114, 97, 119]⟩, .int .i64 2, .bool false, .int .i64 0, .string ⟨#[115, 101, 114, 118, 111, 51, 95, 114, 97, 119]⟩, .int .i64 2, .bool false, .int .i64 0, .string ⟨#[115, 101, 114, 118, 111, 52, 95, 114, 97, 119]⟩, .int .i64 2, .bool false, .int .i64 0, .string ⟨#[115, 101, 114, 118, 111, 53, 95, 114, 97, 119]⟩, .int .i64 2, .bool false, .int .i64 0, .string ⟨#[115, 101, 114, 118, 111, 54, 95, 114, 97, 119]⟩, .int .i64 2, .bool false, .int .i64 0, .string ⟨#[115, 101, 114, 118, 111, 55, 95, 114, 97, 119]⟩, .int .i64 2, .bool false, .int .i64 0, .string ⟨#[115, 101, 114, 118, 111, 56, 95, 114, 97, 119]⟩, .int .i64 2, .bool false, .int .i64 0] rfl (ptC_len _) (by show 10 ≤ maxLen; simp [maxLen]) 10 rfl
  have hsz : (u9.alloc (.cells #[.string ⟨#[116, 105, 109, 101, 95, 117, 115, 101, 99]⟩, .int .i64 4, .bool false, .int .i64 0, .string ⟨#[112, 111, 114, 116]⟩, .int .i64 1, .bool false, .int .i64 0, .string ⟨#[115, 101, 114, 118, 111, 49, 95, 114, 97, 119]⟩, .int .i64 2, .bool false, .int .i64 0, .string ⟨#[115, 101, 114, 118, 111, 50, 95, 114, 97, 119]⟩, .int .i64 2, .bool false, .int .i64 0, .string ⟨#[115, 101, 114, 118, 111, 51, 95, 114, 97, 119]⟩, .int .i64 2, .bool false, .int .i64 0, .string ⟨#[115, 101, 114, 118, 111, 52, 95, 114, 97, 119]⟩, .int .i64 2, .bool false, .int .i64 0, .string ⟨#[115, 101, 114, 118, 111, 53, 95, 114, 97, 119]⟩, .int .i64 2, .bool false, .int .i64 0, .string ⟨#[115, 101, 114, 118, 111, 54, 95, 114, 97, 119]⟩, .int .i64 2, .bool false, .int .i64 0, .string ⟨#[115, 101, 114, 118, 111, 55, 95, 114, 97, 119]⟩, .int .i64 2, .bool false, .int .i64 0, .string ⟨#[115, 101, 114, 118, 111, 56, 95, 114, 97, 119]⟩, .int .i64 2, .bool false, .int .i64 0] 71)).heap.size = u9.heap.size + 1 := World.size_alloc _ _
  rw [← hsz] at hlit
  have Hlit := Lib.hid hlit
  replace hb := hb.alloc hb.size (.cells #[.string ⟨#[116, 105, 109, 101, 95, 117, 115, 101, 99]⟩, .int .i64 4, .bool false, .int .i64 0, .string ⟨#[112, 111, 114, 116]⟩, .int .i64 1, .bool false, .int .i64 0, .string ⟨#[115, 101, 114, 118, 111, 49, 95, 114, 97, 119]⟩, .int .i64 2, .bool false, .int .i64 0, .string ⟨#[115, 101, 114, 118, 111, 50, 95, 114, 97, 119]⟩, .int .i64 2, .bool false, .int .i64 0, .string ⟨#[115, 101, 114, 118, 111, 51, 95, 114, 97, 119]⟩, .int .i64 2, .bool false, .int .i64 0, .string ⟨#[115, 101, 114, 118, 111, 52, 95, 114, 97, 119]⟩, .int .i64 2, .bool false, .int .i64 0, .string ⟨#[115, 101, 114, 118, 111, 53, 95, 114, 97, 119]⟩, .int .i64 2, .bool false, .int .i64 0, .string ⟨#[115, 101, 114, 118, 111, 54, 95, 114, 97, 119]⟩, .int .i64 2, .bool false, .int .i64 0, .string ⟨#[115, 101, 114, 118, 111, 55, 95, 114, 97, 119]⟩, .int .i64 2, .bool false, .int .i64 0, .string ⟨#[115, 101, 114, 118, 111, 56, 95, 114, 97, 119]⟩, .int .i64 2, .bool false, .int .i64 0] 71)
  clear hlit hsz
  go_wp2
  go_ret
  exact ⟨some ⟨u9.heap.size, 0, none⟩, 10, 10, rfl, Hlit.out, hb⟩
set_option maxRecDepth 40000 in
set_option maxHeartbeats 8000000 in
theorem high_42 (w : World) : Calls Tryz.prog 62 #[.int .i64 42] w (RetPt fm42.2 w) := by
  go_enter Tryz.func62, Tryz.ntmps62
  go_wp2_with fail
  go_fit (qu_any ⟨#[115, 101, 113]⟩ 16 2 (by decide) w)
  rintro e u0 ⟨rfl, hb⟩
  have hlit := RdR.lit (size := 4) (e := 71) u0 (fm42.2.map ptC) #[.string ⟨#[115, 101, 113]⟩, .int .i64 2, .bool false, .int .i64 0] rfl (ptC_len _) (by show 1 ≤ maxLen; simp [maxLen]) 1 rfl
  have hsz : (u0.alloc (.cells #[.string ⟨#[115, 101, 113]⟩, .int .i64 2, .bool false, .int .i64 0] 71)).heap.size = u0.heap.size + 1 := World.size_alloc _ _
  rw [← hsz] at hlit
  have Hlit := Lib.hid hlit
  replace hb := hb.alloc hb.size (.cells #[.string ⟨#[115, 101, 113]⟩, .int .i64 2, .bool false, .int .i64 0] 71)
  clear hlit hsz
  go_wp2
  go_ret
  exact ⟨some ⟨u0.heap.size, 0, none⟩, 1, 1, rfl, Hlit.out, hb⟩
set_option maxRecDepth 40000 in
set_option maxHeartbeats 8000000 in
theorem high_44 (w : World) : Calls Tryz.prog 62 #[.int .i64 44] w (RetPt fm44.2 w) := by
  go_enter Tryz.func62, Tryz.ntmps62
  go_wp2_with fail
  go_fit (qu_any ⟨#[116, 97, 114, 103, 101, 116, 95, 115, 121, 115, 116, 101, 109]⟩ 8 1 (by decide) w)
  rintro e u0 ⟨rfl, hb⟩
  go_wp2_with fail
  go_fit (qu_any ⟨#[116, 97, 114, 103, 101, 116, 95, 99, 111, 109, 112, 111, 110, 101, 110, 116]⟩ 8 1 (by decide) u0)
  rintro e u1 ⟨rfl, hbx⟩
  replace hb := bnx hb hbx
  clear hbx
  go_wp2_with fail
  go_fit (qu_any ⟨#[99, 111, 117, 110, 116]⟩ 16 2 (by decide) u1)
  rintro e u2 ⟨rfl, hbx⟩
  replace hb := bnx hb hbx
  clear hbx
  have hlit := RdR.lit (size := 4) (e := 71) u2 (fm44.2.map ptC) #[.string ⟨#[116, 97, 114, 103, 101, 116, 95, 115, 121, 115, 116, 101, 109]⟩, .int .i64 1, .bool false, .int .i64 0, .string ⟨#[116, 97, 114, 103, 101, 116, 95, 99, 111, 109, 112, 111, 110, 101, 110, 116]⟩, .int .i64 1, .bool false, .int .i64 0, .string ⟨#[99, 111, 117, 110, 116]⟩, .int .i64 2, .bool false, .int .i64 0] rfl (ptC_len _) (by show 3 ≤ maxLen; simp [maxLen]) 3 rfl
  have hsz : (u2.alloc (.cells #[.string ⟨#[116, 97, 114, 103, 101, 116, 95, 115, 121, 115, 116, 101, 109]⟩, .int .i64 1, .bool false, .int .i64 0, .string ⟨#[116, 97, 114, 103, 101, 116, 95, 99, 111, 109, 112, 111, 110, 101, 110, 116]⟩, .int .i64 1, .bool false, .int .i64 0, .string ⟨#[99, 111, 117, 110, 116]⟩, .int .i64 2, .bool false, .int .i64 0] 71)).heap.size = u2.heap.size + 1 := World.size_alloc _ _
  rw [← hsz] at hlit
  have Hlit := Lib.hid hlit
  replace hb := hb.alloc hb.size (.cells #[.string ⟨#[116, 97, 114, 103, 101, 116, 95, 115, 121, 115, 116, 101, 109]⟩, .int .i64 1, .bool false, .int .i64 0, .string ⟨#[116, 97, 114, 103, 101, 116, 95, 99, 111, 109, 112, 111, 110, 101, 110, 116]⟩, .int .i64 1, .bool false, .int .i64 0, .string ⟨#[99, 111, 117, 110, 116]⟩, .int .i64 2, .bool false, .int .i64 0] 71)
  clear hlit hsz
  go_wp2
  go_ret
  exact ⟨some ⟨u2.heap.size, 0, none⟩, 3, 3, rfl, Hlit.out, hb⟩
set_option maxRecDepth 40000 in
set_option maxHeartbeats 8000000 in
theorem high_47 (w : World) : Calls Tryz.prog 62 #[.int .i64 47] w (RetPt fm47.2 w) := by
  go_enter Tryz.func62, Tryz.ntmps62
  go_wp2_with fail
  go_fit (qu_any ⟨#[116, 97, 114, 103, 101, 116, 95, 115, 121, 115, 116, 101, 109]⟩ 8 1 (by decide) w)
  rintro e u0 ⟨rfl, hb⟩
  go_wp2_with fail
  go_fit (qu_any ⟨#[116, 97, 114, 103, 101, 116, 95, 99, 111, 109, 112, 111, 110, 101, 110, 116]⟩ 8 1 (by decide) u0)
  rintro e u1 ⟨rfl, hbx⟩
  replace hb := bnx hb hbx
  clear hbx
  go_wp2_with fail
  go_fit (qu_any ⟨#[116, 121, 112, 101]⟩ 8 1 (by decide) u1)
  rintro e u2 ⟨rfl, hbx⟩
  replace hb := bnx hb hbx
  clear hbx
  have hlit := RdR.lit (size := 4) (e := 71) u2 (fm47.2.map ptC) #[.string ⟨#[116, 97, 114, 103, 101, 116, 95, 115, 121, 115, 116, 101, 109]⟩, .int .i64 1, .bool false, .int .i64 0, .string ⟨#[116, 97, 114, 103, 101, 116, 95, 99, 111, 109, 112, 111, 110, 101, 110, 116]⟩, .int .i64 1, .bool false, .int .i64 0, .string ⟨#[116, 121, 112, 101]⟩, .int .i64 1, .bool false, .int .i64 0] rfl (ptC_len _) (by show 3 ≤ maxLen; simp [maxLen]) 3 rfl
  have hsz : (u2.alloc (.cells #[.string ⟨#[116, 97, 114, 103, 101, 116, 95, 115, 121, 115, 116, 101, 109]⟩, .int .i64 1, .bool false, .int .i64 0, .string ⟨#[116, 97, 114, 103, 101, 116, 95, 99, 111, 109, 112, 111, 110, 101, 110, 116]⟩, .int .i64 1, .bool false, .int .i64 0, .string ⟨#[116, 121, 112, 101]⟩, .int .i64 1, .bool false, .int .i64 0] 71)).heap.size = u2.heap.size + 1 := World.size_alloc _ _
  rw [← hsz] at hlit
  have Hlit := Lib.hid hlit
  replace hb := hb.alloc hb.size (.cells #[.string ⟨#[116, 97, 114, 103, 101, 116, 95, 115, 121, 115, 116, 101, 109]⟩, .int .i64 1, .bool false, .int .i64 0, .string ⟨#[116, 97, 114, 103, 101, 116, 95, 99, 111, 109, 112, 111, 110, 101, 110, 116]⟩, .int .i64 1, .bool false, .int .i64 0, .string ⟨#[116, 121, 112, 101]⟩, .int .i64 1, .bool false, .int .i64 0] 71)
  clear hlit hsz
  go_wp2
  go_ret
  exact ⟨some ⟨u2.heap.size, 0, none⟩, 3, 3, rfl, Hlit.out, hb⟩
set_option maxRecDepth 40000 in
set_option maxHeartbeats 8000000 in
theorem high_66 (w : World) : Calls Tryz.prog 62 #[.int .i64 66] w (RetPt fm66.2 w) := by
  go_enter Tryz.func62, Tryz.ntmps62
  go_wp2_with fail
  go_fit (qu_any ⟨#[116, 97, 114, 103, 101, 116, 95, 115, 121, 115, 116, 101, 109]⟩ 8 1 (by decide) w)
  rintro e u0 ⟨rfl, hb⟩
  go_wp2_with fail
  go_fit (qu_any ⟨#[116, 97, 114, 103, 101, 116, 95, 99, 111, 109, 112, 111, 110, 101, 110, 116]⟩ 8 1 (by decide) u0)
  rintro e u1 ⟨rfl, hbx⟩
  replace hb := bnx hb hbx
  clear hbx
  go_wp2_with fail
  go_fit (qu_any ⟨#[114, 101, 113, 95, 115, 116, 114, 101, 97, 109, 95, 105, 100]⟩ 8 1 (by decide) u1)
  rintro e u2 ⟨rfl, hbx⟩
  replace hb := bnx hb hbx
  clear hbx
  go_wp2_with fail
  go_fit (qu_any ⟨#[114, 101, 113, 95, 109, 101, 115, 115, 97, 103, 101, 95, 114, 97, 116, 101]⟩ 16 2 (by decide) u2)
  rintro e u3 ⟨rfl, hbx⟩
  replace hb := bnx hb hbx
  clear hbx
  go_wp2_with fail
  go_fit (qu_any ⟨#[115, 116, 97, 114, 116, 95, 115, 116, 111, 112]⟩ 8 1 (by decide) u3)
  rintro e u4 ⟨rfl, hbx⟩
  replace hb := bnx hb hbx
  clear hbx
  have hlit := RdR.lit (size := 4) (e := 71) u4 (fm66.2.map ptC) #[.string ⟨#[116, 97, 114, 103, 101, 116, 95, 115, 121, 115, 116, 101, 109]⟩, .int .i64 1, .bool false, .int .i64 0, .string ⟨#[116, 97, 114, 103, 101, 116, 95, 99, 111, 109, 112, 111, 110, 101, 110, 116]⟩, .int .i64 1, .bool false, .int .i64 0, .string ⟨#[114, 101, 113, 95, 115, 116, 114, 101, 97, 109, 95, 105, 100]⟩, .int .i64 1, .bool false, .int .i64 0, .string ⟨#[114, 101, 113, 95, 109, 101, 115, 115, 97, 103, 101, 95, 114, 97, 116, 101]⟩, .int .i64 2, .bool false, .int .i64 0, .string ⟨#[115, 116, 97, 114, 116, 95, 115, 116, 111, 112]⟩, .int .i64 1, .bool false, .int .i64 0] rfl (ptC_len _) (by show 5 ≤ maxLen; simp [maxLen]) 5 rfl
  have hsz : (u4.alloc (.cells #[.string ⟨#[116, 97, 114, 103, 101, 116, 95, 115, 121, 115, 116, 101, 109]⟩, .int .i64 1, .bool false, .int .i64 0, .string ⟨#[116, 97, 114, 103, 101, 116, 95, 99, 111, 109, 112, 111, 110, 101, 110, 116]⟩, .int .i64 1, .bool false, .int .i64 0, .string ⟨#[114, 101, 113, 95, 115, 116, 114, 101, 97, 109, 95, 105, 100]⟩, .int .i64 1, .bool false, .int .i64 0, .string ⟨#[114, 101, 113, 95, 109, 101, 115, 115, 97, 103, 101, 95, 114, 97, 116, 101]⟩, .int .i64 2, .bool false, .int .i64 0, .string ⟨#[115, 116, 97, 114, 116, 95, 115, 116, 111, 112]⟩, .int .i64 1, .bool false, .int .i64 0] 71)).heap.size = u4.heap.size + 1 := World.size_alloc _ _
  rw [← hsz] at hlit
  have Hlit := Lib.hid hlit
  replace hb := hb.alloc hb.size (.cells #[.string ⟨#[116, 97, 114, 103, 101, 116, 95, 115, 121, 115, 116, 101, 109]⟩, .int .i64 1, .bool false, .int .i64 0, .string ⟨#[116, 97, 114, 103, 101, 116, 95, 99, 111, 109, 112, 111, 110, 101, 110, 116]⟩, .int .i64 1, .bool false, .int .i64 0, .string ⟨#[114, 101, 113, 95, 115, 116, 114, 101, 97, 109, 95, 105, 100]⟩, .int .i64 1, .bool false, .int .i64 0, .string ⟨#[114, 101, 113, 95, 109, 101, 115, 115, 97, 103, 101, 95, 114, 97, 116, 101]⟩, .int .i64 2, .bool false, .int .i64 0, .string ⟨#[115, 116, 97, 114, 116, 95, 115, 116, 111, 112]⟩, .int .i64 1, .bool false, .int .i64 0] 71)
  clear hlit hsz
  go_wp2
  go_ret
  exact ⟨some ⟨u4.heap.size, 0, none⟩, 5, 5, rfl, Hlit.out, hb⟩
set_option maxRecDepth 40000 in
set_option maxHeartbeats 8000000 in
theorem high_77 (w : World) : Calls Tryz.prog 62 #[.int .i64 77] w (RetPt fm77.2 w) := by
  go_enter Tryz.func62, Tryz.ntmps62
  go_wp2_with fail
  go_fit (qu_any ⟨#[99, 111, 109, 109, 97, 110, 100]⟩ 16 2 (by decide) w)
  rintro e u0 ⟨rfl, hb⟩
  go_wp2_with fail
  go_fit (qu_any ⟨#[114, 101, 115, 117, 108, 116]⟩ 8 1 (by decide) u0)
  rintro e u1 ⟨rfl, hbx⟩
  replace hb := bnx hb hbx
  clear hbx
  have hlit := RdR.lit (size := 4) (e := 71) u1 (fm77.2.map ptC) #[.string ⟨#[99, 111, 109, 109, 97, 110, 100]⟩, .int .i64 2, .bool false, .int .i64 0, .string ⟨#[114, 101, 115, 117, 108, 116]⟩, .int .i64 1, .bool false, .int .i64 0] rfl (ptC_len _) (by show 2 ≤ maxLen; simp [maxLen]) 2 rfl
  have hsz : (u1.alloc (.cells #[.string ⟨#[99, 111, 109, 109, 97, 110, 100]⟩, .int .i64 2, .bool false, .int .i64 0, .string ⟨#[114, 101, 115, 117, 108, 116]⟩, .int .i64 1, .bool false, .int .i64 0] 71)).heap.size = u1.heap.size + 1 := World.size_alloc _ _
  rw [← hsz] at hlit
  have Hlit := Lib.hid hlit
  replace hb := hb.alloc hb.size (.cells #[.string ⟨#[99, 111, 109, 109, 97, 110, 100]⟩, .int .i64 2, .bool false, .int .i64 0, .string ⟨#[114, 101, 115, 117, 108, 116]⟩, .int .i64 1, .bool false, .int .i64 0] 71)
  clear hlit hsz
  go_wp2
  go_ret
  exact ⟨some ⟨u1.heap.size, 0, none⟩, 2, 2, rfl, Hlit.out, hb⟩
set_option maxRecDepth 40000 in
set_option maxHeartbeats 8000000 in
theorem high_111 (w : World) : Calls Tryz.prog 62 #[.int .i64 111] w (RetPt fm111.2 w) := by
  go_enter Tryz.func62, Tryz.ntmps62
  go_wp2_with fail
  go_fit (qi_any ⟨#[116, 99, 49]⟩ 64 8 (by decide) w)
  rintro e u0 ⟨rfl, hb⟩
  go_wp2_with fail
  go_fit (qi_any ⟨#[116, 115, 49]⟩ 64 8 (by decide) u0)
  rintro e u1 ⟨rfl, hbx⟩
  replace hb := bnx hb hbx
  clear hbx
  have hlit := RdR.lit (size := 4) (e := 71) u1 (fm111.2.map ptC) #[.string ⟨#[116, 99, 49]⟩, .int .i64 8, .bool true, .int .i64 0, .string ⟨#[116, 115, 49]⟩, .int .i64 8, .bool true, .int .i64 0] rfl (ptC_len _) (by show 2 ≤ maxLen; simp [maxLen]) 2 rfl
  have hsz : (u1.alloc (.cells #[.string ⟨#[116, 99, 49]⟩, .int .i64 8, .bool true, .int .i64 0, .string ⟨#[116, 115, 49]⟩, .int .i64 8, .bool true, .int .i64 0] 71)).heap.size = u1.heap.size + 1 := World.size_alloc _ _
  rw [← hsz] at hlit
  have Hlit := Lib.hid hlit
  replace hb := hb.alloc hb.size (.cells #[.string ⟨#[116, 99, 49]⟩, .int .i64 8, .bool true, .int .i64 0, .string ⟨#[116, 115, 49]⟩, .int .i64 8, .bool true, .int .i64 0] 71)
  clear hlit hsz
  go_wp2
  go_ret
  exact ⟨some ⟨u1.heap.size, 0, none⟩, 2, 2, rfl, Hlit.out, hb⟩
set_option maxRecDepth 40000 in
set_option maxHeartbeats 8000000 in
theorem high_125 (w : World) : Calls Tryz.prog 62 #[.int .i64 125] w (RetPt fm125.2 w) := by
  go_enter Tryz.func62, Tryz.ntmps62
  go_wp2_with fail
  go_fit (qu_any ⟨#[86, 99, 99]⟩ 16 2 (by decide) w)
  rintro e u0 ⟨rfl, hb⟩
  go_wp2_with fail
  go_fit (qu_any ⟨#[86, 115, 101, 114, 118, 111]⟩ 16 2 (by decide) u0)
  rintro e u1 ⟨rfl, hbx⟩
  replace hb := bnx hb hbx
  clear hbx
  go_wp2_with fail
  go_fit (qu_any ⟨#[102, 108, 97, 103, 115]⟩ 16 2 (by decide) u1)
  rintro e u2 ⟨rfl, hbx⟩
  replace hb := bnx hb hbx
  clear hbx
  have hlit := RdR.lit (size := 4) (e := 71) u2 (fm125.2.map ptC) #[.string ⟨#[86, 99, 99]⟩, .int .i64 2, .bool false, .int .i64 0, .string ⟨#[86, 115, 101, 114, 118, 111]⟩, .int .i64 2, .bool false, .int .i64 0, .string ⟨#[102, 108, 97, 103, 115]⟩, .int .i64 2, .bool false, .int .i64 0] rfl (ptC_len _) (by show 3 ≤ maxLen; simp [maxLen]) 3 rfl
  have hsz : (u2.alloc (.cells #[.string ⟨#[86, 99, 99]⟩, .int .i64 2, .bool false, .int .i64 0, .string ⟨#[86, 115, 101, 114, 118, 111]⟩, .int .i64 2, .bool false, .int .i64 0, .string ⟨#[102, 108, 97, 103, 115]⟩, .int .i64 2, .bool false, .int .i64 0] 71)).heap.size = u2.heap.size + 1 := World.size_alloc _ _
  rw [← hsz] at hlit
  have Hlit := Lib.hid hlit
  replace hb := hb.alloc hb.size (.cells #[.string ⟨#[86, 99, 99]⟩, .int .i64 2, .bool false, .int .i64 0, .string ⟨#[86, 115, 101, 114, 118, 111]⟩, .int .i64 2, .bool false, .int .i64 0, .string ⟨#[102, 108, 97, 103, 115]⟩, .int .i64 2, .bool false, .int .i64 0] 71)
  clear hlit hsz
  go_wp2
  go_ret
  exact ⟨some ⟨u2.heap.size, 0, none⟩, 3, 3, rfl, Hlit.out, hb⟩
set_option maxRecDepth 40000 in
set_option maxHeartbeats 8000000 in
theorem high_200 (w : World) : Calls Tryz.prog 62 #[.int .i64 200] w (RetPt fm200.2 w) := by
  go_enter Tryz.func62, Tryz.ntmps62
  go_wp2_with fail
  go_fit (qu_any ⟨#[116, 105, 109, 101, 95, 98, 111, 111, 116, 95, 109, 115]⟩ 32 4 (by decide) w)
  rintro e u0 ⟨rfl, hb⟩
  go_wp2_with fail
  go_fit (qu_any ⟨#[113, 117, 97, 116, 101, 114, 110, 105, 111, 110]⟩ 32 4 (by decide) u0)
  rintro e u1 ⟨rfl, hbx⟩
  replace hb := bnx hb hbx
  clear hbx
  go_wp2_with fail
  go_fit (qi_any ⟨#[120, 103, 121, 114, 111]⟩ 16 2 (by decide) u1)
  rintro e u2 ⟨rfl, hbx⟩
  replace hb := bnx hb hbx
  clear hbx
  go_wp2_with fail
  go_fit (qi_any ⟨#[121, 103, 121, 114, 111]⟩ 16 2 (by decide) u2)
  rintro e u3 ⟨rfl, hbx⟩
  replace hb := bnx hb hbx
  clear hbx
  go_wp2_with fail
  go_fit (qi_any ⟨#[122, 103, 121, 114, 111]⟩ 16 2 (by decide) u3)
  rintro e u4 ⟨rfl, hbx⟩
  replace hb := bnx hb hbx
  clear hbx
  have hlit := RdR.lit (size := 4) (e := 71) u4 (fm200.2.map ptC) #[.string ⟨#[116, 105, 109, 101, 95, 98, 111, 111, 116, 95, 109, 115]⟩, .int .i64 4, .bool false, .int .i64 0, .string ⟨#[113, 117, 97, 116, 101, 114, 110, 105, 111, 110]⟩, .int .i64 4, .bool false, .int .i64 0, .string ⟨#[120, 103, 121, 114, 111]⟩, .int .i64 2, .bool true, .int .i64 0, .string ⟨#[121, 103, 121, 114, 111]⟩, .int .i64 2, .bool true, .int .i64 0, .string ⟨#[122, 103, 121, 114, 111]⟩, .int .i64 2, .bool true, .int .i64 0] rfl (ptC_len _) (by show 5 ≤ maxLen; simp [maxLen]) 5 rfl
  have hsz : (u4.alloc (.cells #[.string ⟨#[116, 105, 109, 101, 95, 98, 111, 111, 116, 95, 109, 115]⟩, .int .i64 4, .bool false, .int .i64 0, .string ⟨#[113, 117, 97, 116, 101, 114, 110, 105, 111, 110]⟩, .int .i64 4, .bool false, .int .i64 0, .string ⟨#[120, 103, 121, 114, 111]⟩, .int .i64 2, .bool true, .int .i64 0, .string ⟨#[121, 103, 121, 114, 111]⟩, .int .i64 2, .bool true, .int .i64 0, .string ⟨#[122, 103, 121, 114, 111]⟩, .int .i64 2, .bool true, .int .i64 0] 71)).heap.size = u4.heap.size + 1 := World.size_alloc _ _
  rw [← hsz] at hlit
  have Hlit := Lib.hid hlit
  replace hb := hb.alloc hb.size (.cells #[.string ⟨#[116, 105, 109, 101, 95, 98, 111, 111, 116, 95, 109, 115]⟩, .int .i64 4, .bool false, .int .i64 0, .string ⟨#[113, 117, 97, 116, 101, 114, 110, 105, 111, 110]⟩, .int .i64 4, .bool false, .int .i64 0, .string ⟨#[120, 103, 121, 114, 111]⟩, .int .i64 2, .bool true, .int .i64 0, .string ⟨#[121, 103, 121, 114, 111]⟩, .int .i64 2, .bool true, .int .i64 0, .string ⟨#[122, 103, 121, 114, 111]⟩, .int .i64 2, .bool true, .int .i64 0] 71)
  clear hlit hsz
  go_wp2
  go_ret
  exact ⟨some ⟨u4.heap.size, 0, none⟩, 5, 5, rfl, Hlit.out, hb⟩
set_option maxRecDepth 40000 in
set_option maxHeartbeats 8000000 in
theorem high_201 (w : World) : Calls Tryz.prog 62 #[.int .i64 201] w (RetPt fm201.2 w) := by
  go_enter Tryz.func62, Tryz.ntmps62
  go_wp2_with fail
  go_fit (qu_any ⟨#[116, 105, 109, 101, 95, 98, 111, 111, 116, 95, 109, 115]⟩ 32 4 (by decide) w)
  rintro e u0 ⟨rfl, hb⟩
  go_wp2_with fail
  go_fit (qi_any ⟨#[120, 98, 105, 97, 115]⟩ 32 4 (by decide) u0)
  rintro e u1 ⟨rfl, hbx⟩
  replace hb := bnx hb hbx
  clear hbx
  go_wp2_with fail
  go_fit (qi_any ⟨#[121, 98, 105, 97, 115]⟩ 32 4 (by decide) u1)
  rintro e u2 ⟨rfl, hbx⟩
  replace hb := bnx hb hbx
  clear hbx
  go_wp2_with fail
  go_fit (qi_any ⟨#[122, 98, 105, 97, 115]⟩ 32 4 (by decide) u2)
  rintro e u3 ⟨rfl, hbx⟩
  replace hb := bnx hb hbx
  clear hbx
  go_wp2_with fail
  go_fit (qu_any ⟨#[115, 116, 101, 112, 115]⟩ 32 4 (by decide) u3)
  rintro e u4 ⟨rfl, hbx⟩
  replace hb := bnx hb hbx
  clear hbx
  go_wp2_with fail
  go_fit (qu_any ⟨#[99, 117, 116, 115]⟩ 16 2 (by decide) u4)
  rintro e u5 ⟨rfl, hbx⟩
  replace hb := bnx hb hbx
  clear hbx
  have hlit := RdR.lit (size := 4) (e := 71) u5 (fm201.2.map ptC) #[.string ⟨#[116, 105, 109, 101, 95, 98, 111, 111, 116, 95, 109, 115]⟩, .int .i64 4, .bool false, .int .i64 0, .string ⟨#[120, 98, 105, 97, 115]⟩, .int .i64 4, .bool true, .int .i64 0, .string ⟨#[121, 98, 105, 97, 115]⟩, .int .i64 4, .bool true, .int .i64 0, .string ⟨#[122, 98, 105, 97, 115]⟩, .int .i64 4, .bool true, .int .i64 0, .string ⟨#[115, 116, 101, 112, 115]⟩, .int .i64 4, .bool false, .int .i64 0, .string ⟨#[99, 117, 116, 115]⟩, .int .i64 2, .bool false, .int .i64 0] rfl (ptC_len _) (by show 6 ≤ maxLen; simp [maxLen]) 6 rfl
  have hsz : (u5.alloc (.cells #[.string ⟨#[116, 105, 109, 101, 95, 98, 111, 111, 116, 95, 109, 115]⟩, .int .i64 4, .bool false, .int .i64 0, .string ⟨#[120, 98, 105, 97, 115]⟩, .int .i64 4, .bool true, .int .i64 0, .string ⟨#[121, 98, 105, 97, 115]⟩, .int .i64 4, .bool true, .int .i64 0, .string ⟨#[122, 98, 105, 97, 115]⟩, .int .i64 4, .bool true, .int .i64 0, .string ⟨#[115, 116, 101, 112, 115]⟩, .int .i64 4, .bool false, .int .i64 0, .string ⟨#[99, 117, 116, 115]⟩, .int .i64 2, .bool false, .int .i64 0] 71)).heap.size = u5.heap.size + 1 := World.size_alloc _ _
  rw [← hsz] at hlit
  have Hlit := Lib.hid hlit
  replace hb := hb.alloc hb.size (.cells #[.string ⟨#[116, 105, 109, 101, 95, 98, 111, 111, 116, 95, 109, 115]⟩, .int .i64 4, .bool false, .int .i64 0, .string ⟨#[120, 98, 105, 97, 115]⟩, .int .i64 4, .bool true, .int .i64 0, .string ⟨#[121, 98, 105, 97, 115]⟩, .int .i64 4, .bool true, .int .i64 0, .string ⟨#[122, 98, 105, 97, 115]⟩, .int .i64 4, .bool true, .int .i64 0, .string ⟨#[115, 116, 101, 112, 115]⟩, .int .i64 4, .bool false, .int .i64 0, .string ⟨#[99, 117, 116, 115]⟩, .int .i64 2, .bool false, .int .i64 0] 71)
  clear hlit hsz
  go_wp2
  go_ret
  exact ⟨some ⟨u5.heap.size, 0, none⟩, 6, 6, rfl, Hlit.out, hb⟩
set_option maxRecDepth 40000 in
set_option maxHeartbeats 8000000 in
theorem high_202 (w : World) : Calls Tryz.prog 62 #[.int .i64 202] w (RetPt fm202.2 w) := by
  go_enter Tryz.func62, Tryz.ntmps62
  go_wp2_with fail
  go_fit (qu_any ⟨#[110, 117, 109, 98, 101, 114]⟩ 32 4 (by decide) w)
  rintro e u0 ⟨rfl, hb⟩
  go_wp2_with fail
  go_fit (qu_any ⟨#[112, 97, 114, 116]⟩ 8 1 (by decide) u0)
  rintro e u1 ⟨rfl, hbx⟩
  replace hb := bnx hb hbx
  clear hbx
  go_wp2_with fail
  go_fit (qmany_any ⟨#[98, 121, 116, 101, 115]⟩ 64 u1)
  rintro e u2 ⟨rfl, hbx⟩
  replace hb := bnx hb hbx
  clear hbx
  have hlit := RdR.lit (size := 4) (e := 71) u2 (fm202.2.map ptC) #[.string ⟨#[110, 117, 109, 98, 101, 114]⟩, .int .i64 4, .bool false, .int .i64 0, .string ⟨#[112, 97, 114, 116]⟩, .int .i64 1, .bool false, .int .i64 0, .string ⟨#[98, 121, 116, 101, 115]⟩, .int .i64 1, .bool false, .int .i64 64] rfl (ptC_len _) (by show 3 ≤ maxLen; simp [maxLen]) 3 rfl
  have hsz : (u2.alloc (.cells #[.string ⟨#[110, 117, 109, 98, 101, 114]⟩, .int .i64 4, .bool false, .int .i64 0, .string ⟨#[112, 97, 114, 116]⟩, .int .i64 1, .bool false, .int .i64 0, .string ⟨#[98, 121, 116, 101, 115]⟩, .int .i64 1, .bool false, .int .i64 64] 71)).heap.size = u2.heap.size + 1 := World.size_alloc _ _
  rw [← hsz] at hlit
  have Hlit := Lib.hid hlit
  replace hb := hb.alloc hb.size (.cells #[.string ⟨#[110, 117, 109, 98, 101, 114]⟩, .int .i64 4, .bool false, .int .i64 0, .string ⟨#[112, 97, 114, 116]⟩, .int .i64 1, .bool false, .int .i64 0, .string ⟨#[98, 121, 116, 101, 115]⟩, .int .i64 1, .bool false, .int .i64 64] 71)
  clear hlit hsz
  go_wp2
  go_ret
  exact ⟨some ⟨u2.heap.size, 0, none⟩, 3, 3, rfl, Hlit.out, hb⟩
set_option maxRecDepth 20000 in
set_option maxHeartbeats 4000000 in
theorem high_no (id : Int) (h33 : ¬ id = 33) (h35 : ¬ id = 35) (h36 : ¬ id = 36) (h42 : ¬ id = 42) (h44 : ¬ id = 44) (h47 : ¬ id = 47) (h66 : ¬ id = 66) (h77 : ¬ id = 77) (h111 : ¬ id = 111) (h125 : ¬ id = 125) (h200 : ¬ id = 200) (h201 : ¬ id = 201) (h202 : ¬ id = 202) (w : World) : Calls Tryz.prog 62 #[.int .i64 id] w (RetPt [] w) := by
  have q33 : (id == 33) = false := by rw [beq_eq_false_iff_ne]; exact h33
  have q35 : (id == 35) = false := by rw [beq_eq_false_iff_ne]; exact h35
  have q36 : (id == 36) = false := by rw [beq_eq_false_iff_ne]; exact h36
  have q42 : (id == 42) = false := by rw [beq_eq_false_iff_ne]; exact h42
  have q44 : (id == 44) = false := by rw [beq_eq_false_iff_ne]; exact h44
  have q47 : (id == 47) = false := by rw [beq_eq_false_iff_ne]; exact h47
  have q66 : (id == 66) = false := by rw [beq_eq_false_iff_ne]; exact h66
  have q77 : (id == 77) = false := by rw [beq_eq_false_iff_ne]; exact h77
  have q111 : (id == 111) = false := by rw [beq_eq_false_iff_ne]; exact h111
  have q125 : (id == 125) = false := by rw [beq_eq_false_iff_ne]; exact h125
  have q200 : (id == 200) = false := by rw [beq_eq_false_iff_ne]; exact h200
  have q201 : (id == 201) = false := by rw [beq_eq_false_iff_ne]; exact h201
  have q202 : (id == 202) = false := by rw [beq_eq_false_iff_ne]; exact h202
  go_enter Tryz.func62, Tryz.ntmps62
  go_wp2
  go_ret
  exact ⟨none, 0, 0, rfl, RdR.none_ _ _ _, Below.refl _ _⟩
def frqH (id : Int) : FmT := if id = 33 then fm33 else if id = 35 then fm35 else if id = 36 then fm36 else if id = 42 then fm42 else if id = 44 then fm44 else if id = 47 then fm47 else if id = 66 then fm66 else if id = 77 then fm77 else if id = 111 then fm111 else if id = 125 then fm125 else if id = 200 then fm200 else if id = 201 then fm201 else if id = 202 then fm202 else fmNone
theorem high_any (id : Int) (w : World) : Calls Tryz.prog 62 #[.int .i64 id] w (RetPt (frqH id).2 w) := by
  unfold frqH
  by_cases h33 : id = 33
  · subst h33
    rw [if_pos rfl]
    exact high_33 w
  rw [if_neg h33]
  by_cases h35 : id = 35
  · subst h35
    rw [if_pos rfl]
    exact high_35 w
  rw [if_neg h35]
  by_cases h36 : id = 36
  · subst h36
    rw [if_pos rfl]
    exact high_36 w
  rw [if_neg h36]
  by_cases h42 : id = 42
  · subst h42
    rw [if_pos rfl]
    exact high_42 w
  rw [if_neg h42]
  by_cases h44 : id = 44
  · subst h44
    rw [if_pos rfl]
    exact high_44 w
  rw [if_neg h44]
  by_cases h47 : id = 47
  · subst h47
    rw [if_pos rfl]
    exact high_47 w
  rw [if_neg h47]
  by_cases h66 : id = 66
  · subst h66
    rw [if_pos rfl]
    exact high_66 w
  rw [if_neg h66]
  by_cases h77 : id = 77
  · subst h77
    rw [if_pos rfl]
    exact high_77 w
  rw [if_neg h77]
  by_cases h111 : id = 111
  · subst h111
    rw [if_pos rfl]
    exact high_111 w
  rw [if_neg h111]
  by_cases h125 : id = 125
  · subst h125
    rw [if_pos rfl]
    exact high_125 w
  rw [if_neg h125]
  by_cases h200 : id = 200
  · subst h200
    rw [if_pos rfl]
    exact high_200 w
  rw [if_neg h200]
  by_cases h201 : id = 201
  · subst h201
    rw [if_pos rfl]
    exact high_201 w
  rw [if_neg h201]
  by_cases h202 : id = 202
  · subst h202
    rw [if_pos rfl]
    exact high_202 w
  rw [if_neg h202]
  exact high_no id h33 h35 h36 h42 h44 h47 h66 h77 h111 h125 h200 h201 h202 w

end Go.Proofs.YtonejdjhdjckjaaGreat
