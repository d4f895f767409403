/-
  Encode and Decode, the program's and the document's, walked (printed by gen_ubx9.py).
-/
import Derived.Test.YtmkidihcdljkiaaGreatKPUbx5
import Derived.Test.YtmkidihcdljkiaaGreatKPGSU
import Derived.Test.YtmkidihcdljkiaaGreatKPVal6
import Derived.Test.YtmkidihcdljkiaaGreatKPUbx6
import Derived.Test.YtmkidihcdljkiaaGreatKPGFC
import Derived.Test.YtmkidihcdljkiaaGreatKPGA
set_option linter.unusedSimpArgs false
set_option linter.unusedVariables false
namespace Go.Proofs.YtmkidihcdljkiaaGreat
open Go.RowKit NumLaw
attribute [local go_sem] Addr.add_mid

set_option maxRecDepth 10000 in
set_option maxHeartbeats 4000000 in
theorem ubEncode_any (V : UbV) (a : UbA) (h : UbOk V) (w : World) (hr : UbR w w.heap.size V a) :
    Calls Tryz.prog 10 #[.agg (ubL V a).toArray] w (RetPS w (ubEP V) (ubEE V)) := by
  obtain ⟨oE, hoE⟩ : ∃ oE, oE = ubE V := ⟨_, rfl⟩
  obtain ⟨FC, hFC⟩ : ∃ FC, FC = ubFC V := ⟨_, rfl⟩
  obtain ⟨FI, hFI⟩ : ∃ FI, FI = ubFI V := ⟨_, rfl⟩
  obtain ⟨FB, hFB⟩ : ∃ FB, FB = ubFB V := ⟨_, rfl⟩
  obtain ⟨EP, hEP⟩ : ∃ EP, EP = ubEP V := ⟨_, rfl⟩
  obtain ⟨EE, hEE⟩ : ∃ EE, EE = ubEE V := ⟨_, rfl⟩
  have H0 : Hid (oE = 0 → putB FC FI FB = EP ∧ putE FC FI FB.length = EE) := Lib.hid (fun h0 => by
    rw [hoE] at h0
    rw [hFC, hFI, hFB, hEP, hEE]
    unfold ubFC ubFI ubFB ubEP ubEE
    rw [if_pos h0, if_pos h0, if_pos h0, if_pos h0, if_pos h0]
    exact ⟨rfl, rfl⟩)
  have H1 : Hid (oE ≠ 0 → EP = [] ∧ EE = oE) := Lib.hid (fun h0 => by
    rw [hEP, hEE, hoE]
    rw [hoE] at h0
    unfold ubEP ubEE
    rw [if_neg h0, if_neg h0]
    exact ⟨rfl, rfl⟩)
  have Hput := Lib.hid (fun w hr => ubPut_any V a h w hr)
  rw [← hoE, ← hFC, ← hFI, ← hFB] at Hput
  rw [← hEP, ← hEE]
  have hb := (Below.refl w.heap.size w).alloc (Nat.le_refl _) (.cells (ubL V a).toArray 35)
  have hx : UbB (w.alloc (.cells (ubL V a).toArray 35)) w.heap.size V a := heap_alloc_new _ _
  have Hsz := Lib.hid (ub_size V a h.pl h.dl)
  have hr1 := (hr.up hb).more hb.size
  clear hoE hFC hFI hFB hEP hEE hr h
  go_enter Tryz.func10, Tryz.ntmps10
  go_wp2_with (first | (with_reducible refine stop_loadT 35 ?_) | (with_reducible refine stop_storeT 35 ?_) | (with_reducible refine stop_loadG 35 ?_))
  generalize (w.alloc (.cells (ubL V a).toArray 35)) = w1 at *
  refine go_ (wpList_load_row rfl _ _ rfl w.heap.size rfl _ _ _ _ hx Tryz.underlying35 rfl Hsz.out ?_)
  go_wp2_with fail
  go_fit (Hput.out w1 hr1)
  rintro e w2 ⟨A2, n2, c2, rfl, hr2, hb2⟩
  replace hb := bnx hb hb2
  have hb3 := (Below.refl w2.heap.size w2).alloc (Nat.le_refl _) (.cells #[.int .i64 FC, .int .i64 FI, .slice A2 n2 c2] 40)
  have hr3 := hr2.up hb3
  have hbf := bnx hb hb3
  have hs3 := hb3.size
  clear hb2 hx hr1 hr2 hb3 hb
  by_cases he : oE = 0
  · have he' : (oE : Int) = 0 := by omega
    obtain ⟨k1, k2⟩ := H0.out he
    have K1 := Lib.hid k1
    have K2 := Lib.hid k2
    clear k1 k2
    go_wp2_with fail
    generalize (w2.alloc (.cells #[.int .i64 FC, .int .i64 FI, .slice A2 n2 c2] 40)) = w3 at *
    go_fit (frPut_any FC FI A2 n2 c2 w2.heap.size FB w3 hr3 hs3)
    rintro e w4 ⟨A4, n4, c4, rfl, hown, hb4⟩
    rw [K1.out] at hown
    rw [K2.out]
    replace hown := own_mono hown hbf.size
    have hbz := bnx hbf hb4
    clear hb4 hbf hr3 hs3
    go_wp2
    go_ret2
    exact ⟨A4, n4, c4, rfl, hown, hbz⟩
  · have he' : ¬ (oE : Int) = 0 := by omega
    obtain ⟨rfl, rfl⟩ := H1.out he
    go_wp2
    go_ret2
    exact ⟨none, 0, 0, rfl, World.ownsRow_nil _ _ _ _, hbf⟩

set_option maxRecDepth 10000 in
set_option maxHeartbeats 4000000 in
theorem qubEncode_any (V : UbV) (a : UbA) (h : UbOk V) (w : World) (hr : UbR w w.heap.size V a) :
    Calls Tryz.prog 11 #[.agg (ubL V a).toArray] w (RetPS w (ubEP V) (ubEE V)) := by
  obtain ⟨oE, hoE⟩ : ∃ oE, oE = ubE V := ⟨_, rfl⟩
  obtain ⟨FC, hFC⟩ : ∃ FC, FC = ubFC V := ⟨_, rfl⟩
  obtain ⟨FI, hFI⟩ : ∃ FI, FI = ubFI V := ⟨_, rfl⟩
  obtain ⟨FB, hFB⟩ : ∃ FB, FB = ubFB V := ⟨_, rfl⟩
  obtain ⟨EP, hEP⟩ : ∃ EP, EP = ubEP V := ⟨_, rfl⟩
  obtain ⟨EE, hEE⟩ : ∃ EE, EE = ubEE V := ⟨_, rfl⟩
  have H0 : Hid (oE = 0 → putB FC FI FB = EP ∧ putE FC FI FB.length = EE) := Lib.hid (fun h0 => by
    rw [hoE] at h0
    rw [hFC, hFI, hFB, hEP, hEE]
    unfold ubFC ubFI ubFB ubEP ubEE
    rw [if_pos h0, if_pos h0, if_pos h0, if_pos h0, if_pos h0]
    exact ⟨rfl, rfl⟩)
  have H1 : Hid (oE ≠ 0 → EP = [] ∧ EE = oE) := Lib.hid (fun h0 => by
    rw [hEP, hEE, hoE]
    rw [hoE] at h0
    unfold ubEP ubEE
    rw [if_neg h0, if_neg h0]
    exact ⟨rfl, rfl⟩)
  have Hput := Lib.hid (fun w hr => qubPut_any V a h w hr)
  rw [← hoE, ← hFC, ← hFI, ← hFB] at Hput
  rw [← hEP, ← hEE]
  have hb := (Below.refl w.heap.size w).alloc (Nat.le_refl _) (.cells (ubL V a).toArray 35)
  have hx : UbB (w.alloc (.cells (ubL V a).toArray 35)) w.heap.size V a := heap_alloc_new _ _
  have Hsz := Lib.hid (ub_size V a h.pl h.dl)
  have hr1 := (hr.up hb).more hb.size
  clear hoE hFC hFI hFB hEP hEE hr h
  go_enter Tryz.func11, Tryz.ntmps11
  go_wp2_with (first | (with_reducible refine stop_loadT 35 ?_) | (with_reducible refine stop_storeT 35 ?_) | (with_reducible refine stop_loadG 35 ?_))
  generalize (w.alloc (.cells (ubL V a).toArray 35)) = w1 at *
  refine go_ (wpList_load_row rfl _ _ rfl w.heap.size rfl _ _ _ _ hx Tryz.underlying35 rfl Hsz.out ?_)
  go_wp2_with fail
  go_fit (Hput.out w1 hr1)
  rintro e w2 ⟨A2, n2, c2, rfl, hr2, hb2⟩
  replace hb := bnx hb hb2
  have hb3 := (Below.refl w2.heap.size w2).alloc (Nat.le_refl _) (.cells #[.int .i64 FC, .int .i64 FI, .slice A2 n2 c2] 40)
  have hr3 := hr2.up hb3
  have hbf := bnx hb hb3
  have hs3 := hb3.size
  clear hb2 hx hr1 hr2 hb3 hb
  by_cases he : oE = 0
  · have he' : (oE : Int) = 0 := by omega
    obtain ⟨k1, k2⟩ := H0.out he
    have K1 := Lib.hid k1
    have K2 := Lib.hid k2
    clear k1 k2
    go_wp2_with fail
    generalize (w2.alloc (.cells #[.int .i64 FC, .int .i64 FI, .slice A2 n2 c2] 40)) = w3 at *
    go_fit (frqPut_any FC FI A2 n2 c2 w2.heap.size FB w3 hr3 hs3)
    rintro e w4 ⟨A4, n4, c4, rfl, hown, hb4⟩
    rw [K1.out] at hown
    rw [K2.out]
    replace hown := own_mono hown hbf.size
    have hbz := bnx hbf hb4
    clear hb4 hbf hr3 hs3
    go_wp2
    go_ret2
    exact ⟨A4, n4, c4, rfl, hown, hbz⟩
  · have he' : ¬ (oE : Int) = 0 := by omega
    obtain ⟨rfl, rfl⟩ := H1.out he
    go_wp2
    go_ret2
    exact ⟨none, 0, 0, rfl, World.ownsRow_nil _ _ _ _, hbf⟩

end Go.Proofs.YtmkidihcdljkiaaGreat
