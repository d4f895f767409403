/-
  ubx.Put, and the document's framed and Put, walked, a case a kind (printed by gen_ubx3.py).
-/
import Derived.Test.YtmkidihcdljkiaaGreatKPUbx2
import Derived.Test.YtmkidihcdljkiaaGreatKPVal6
set_option linter.unusedSimpArgs false
set_option linter.unusedVariables false
namespace Go.Proofs.YtmkidihcdljkiaaGreat
open Go.RowKit NumLaw
attribute [local go_sem] Addr.add_mid

/-- A frame and an error; its payload in new memory. -/
def RetFP (w : World) (c i : Int) (l : List UInt8) (err : Nat) (e : Ending) (w' : World) : Prop :=
  ∃ A n cap, e = .returned (.tuple #[.agg #[.int .i64 c, .int .i64 i, .slice A n cap], .int .i64 (err : Int)]) ∧ Rd w' w'.heap.size 1 A n cap (bv l) ∧ Below w.heap.size w w'
def ubFC (V : UbV) : Int := if ubE V = 0 then ubC V else 0
def ubFI (V : UbV) : Int := if ubE V = 0 then ubI V else 0
def ubFB (V : UbV) : List UInt8 := if ubE V = 0 then ubB V else []

set_option maxRecDepth 10000 in
set_option maxHeartbeats 2000000 in
theorem ubPut_1 (V : UbV) (a : UbA) (h : UbOk V) (w : World) (hr : UbR w w.heap.size V a) (hk : V.k = 1) :
    Calls Tryz.prog 8 #[.agg (ubL V a).toArray] w (RetFP w (ubFC V) (ubFI V) (ubFB V) (ubE V)) := by
  obtain ⟨oE, hoE⟩ : ∃ oE, oE = ubE V := ⟨_, rfl⟩
  obtain ⟨C, hC⟩ : ∃ C, C = ubC V := ⟨_, rfl⟩
  obtain ⟨I, hI⟩ : ∃ I, I = ubI V := ⟨_, rfl⟩
  obtain ⟨PB, hPB⟩ : ∃ PB, PB = ubB V := ⟨_, rfl⟩
  obtain ⟨FC, hFC⟩ : ∃ FC, FC = ubFC V := ⟨_, rfl⟩
  obtain ⟨FI, hFI⟩ : ∃ FI, FI = ubFI V := ⟨_, rfl⟩
  obtain ⟨FB, hFB⟩ : ∃ FB, FB = ubFB V := ⟨_, rfl⟩
  have H0 : Hid (oE = 0 → FC = C ∧ FI = I ∧ FB = PB) := Lib.hid (fun h0 => by rw [hoE] at h0; rw [hFC, hFI, hFB, hC, hI, hPB]; unfold ubFC ubFI ubFB; rw [if_pos h0, if_pos h0, if_pos h0]; exact ⟨rfl, rfl, rfl⟩)
  have H1 : Hid (oE ≠ 0 → FC = 0 ∧ FI = 0 ∧ FB = []) := Lib.hid (fun h0 => by rw [hoE] at h0; rw [hFC, hFI, hFB]; unfold ubFC ubFI ubFB; rw [if_neg h0, if_neg h0, if_neg h0]; exact ⟨rfl, rfl, rfl⟩)
  have hP : ubPart (ubC V) (ubI V) = .iface 88 (.agg #[]) := by simp [ubPart, ubC, ubI, ubKd, hk]
  have Hnm := Lib.hid (fun w => ubnames_any V a h.pl h.dl w)
  have Hput := Lib.hid (fun w hr => ubput1 V a h w hr hk)
  rw [← hC, ← hI] at Hnm hP
  rw [← hPB, ← hoE] at Hput
  rw [← hoE, ← hFC, ← hFI, ← hFB]
  obtain ⟨x0, x1, hs, hb⟩ := al2 w (.cells (ubL V a).toArray 35) (.cells #[.int .i64 0, .int .i64 0, .slice none 0 0] 40)
  have hx : UbB ((w.alloc (.cells (ubL V a).toArray 35)).alloc (.cells #[.int .i64 0, .int .i64 0, .slice none 0 0] 40)) w.heap.size V a := x0
  have hm : ∀ w : World, (method 59 88 (.agg #[]) "landfall/ubx.put").run Tryz.prog w = .ok (111, .agg #[]) w := fun _ => by kernel_rfl
  have hmf : ∀ (fn : Fn) (first cap : Array Value) (w : World), (Instr.makeFunc fn first cap).run Tryz.prog w = .ok (.func fn first cap) w := fun _ _ _ _ => rfl
  have Hsz : Hid ((Tryz.prog.info? 35).map (·.size) = some (ubL V a).toArray.size) := Lib.hid (by rw [List.size_toArray, ubL_len h.pl h.dl]; kernel_rfl)
  clear hoE hC hI hPB hFC hFI hFB hk h hs
  go_enter Tryz.func8, Tryz.ntmps8
  go_wp2_with (first | (with_reducible refine stop_loadT 35 ?_) | (with_reducible refine stop_storeT 35 ?_) | (with_reducible refine stop_loadG 35 ?_))
  generalize ((w.alloc (.cells (ubL V a).toArray 35)).alloc (.cells #[.int .i64 0, .int .i64 0, .slice none 0 0] 40)) = w1 at *
  refine go_ (wpList_load_row rfl _ _ rfl w.heap.size rfl _ _ _ _ hx Tryz.underlying35 rfl Hsz.out ?_)
  go_wp2_with fail
  go_fit (Hnm.out w1)
  rintro e w2 ⟨rfl, hb2⟩
  have hx2 := hx.old hb2 (blk_lt hx)
  replace x1 := blk_old x1 hb2 (blk_lt x1)
  replace hb := bnx hb hb2
  have hr2 := (hr.up hb).more hb.size
  have hg2 := blk_lt x1
  clear hx x0 hb2 hr
  go_wp2_with fail
  go_fit (ubnamed_any C I w2)
  rintro e w3 ⟨rfl, rfl⟩
  rw [hP]
  go_wp2_with (first | (with_reducible refine stop_loadT 35 ?_) | (with_reducible refine stop_storeT 35 ?_) | (with_reducible refine stop_loadG 35 ?_))
  refine go_ (wpList_load_row rfl _ _ rfl w.heap.size rfl _ _ _ _ hx2 Tryz.underlying35 rfl Hsz.out ?_)
  go_wp2_with fail
  go_fit (Hput.out w2 hr2)
  rintro e w3 ⟨A3, n3, c3, rfl, hown3, hb3⟩
  replace x1 := blk_old x1 hb3 (blk_lt x1)
  replace hb := bnx hb hb3
  clear hx2 hr2 hb3
  by_cases he : oE = 0
  · have he' : (oE : Int) = 0 := by omega
    obtain ⟨rfl, rfl, rfl⟩ := H0.out he
    go_wp2_with (first | (with_reducible refine stop_loadT 40 ?_) | (with_reducible refine stop_storeT 40 ?_) | (with_reducible refine stop_loadG 40 ?_))
    refine go_ (wpList_store_row rfl _ _ _ rfl (w.heap.size + 1) #[.int .i64 FC, .int .i64 FI, .slice A3 n3 c3] rfl rfl _ _ x1 (by kernel_rfl) rfl (by kernel_rfl) ?_)
    have x2 := setRow_heap _ _ _ (#[.int .i64 FC, .int .i64 FI, .slice A3 n3 c3] : Array Value) _ _ x1
    have haw : Aw (fun k => k = w.heap.size + 1) w3 (w3.setRow (w.heap.size + 1) #[.int .i64 FC, .int .i64 FI, .slice A3 n3 c3]) := aw_setRow20 _ _
    have hown4 := own_aw hown3 haw (fun k hk hu => by have := (own_blk hown3 hk).1; omega)
    have hb2 := below_aw20 hb haw (fun k hk => by rw [hk]; omega) (by have := hb.size; omega)
    generalize w3.setRow (w.heap.size + 1) #[.int .i64 FC, .int .i64 FI, .slice A3 n3 c3] = w4 at *
    have e0 := blk_cell (i := 0) (v := .int .i64 FC) x2 rfl
    have e1 := blk_cell (i := 1) (v := .int .i64 FI) x2 rfl
    have e2 := blk_cell (i := 2) (v := .slice A3 n3 c3) x2 rfl
    have hr4 := Rd.own hown4
    go_wp2
    refine bodyPost_ret (v := .tuple #[.agg #[.int .i64 FC, .int .i64 FI, .slice A3 n3 c3], .int .i64 0]) (by simp [results, go_sem, e0, e1, e2]) rfl ⟨A3, n3, c3, by rw [he]; rfl, hr4, hb2⟩
  · have he' : ¬ (oE : Int) = 0 := by omega
    obtain ⟨rfl, rfl, rfl⟩ := H1.out he
    go_wp2_with (first | (with_reducible refine stop_loadT 40 ?_) | (with_reducible refine stop_storeT 40 ?_) | (with_reducible refine stop_loadG 40 ?_))
    refine go_ (wpList_store_row rfl _ _ _ rfl (w.heap.size + 1) #[.int .i64 0, .int .i64 0, .slice none 0 0] rfl rfl _ _ x1 (by kernel_rfl) rfl (by kernel_rfl) ?_)
    have x2 := setRow_heap _ _ _ (#[.int .i64 0, .int .i64 0, .slice none 0 0] : Array Value) _ _ x1
    have haw : Aw (fun k => k = w.heap.size + 1) w3 (w3.setRow (w.heap.size + 1) #[.int .i64 0, .int .i64 0, .slice none 0 0]) := aw_setRow20 _ _
    have hb2 := below_aw20 hb haw (fun k hk => by rw [hk]; omega) (by have := hb.size; omega)
    generalize w3.setRow (w.heap.size + 1) #[.int .i64 0, .int .i64 0, .slice none 0 0] = w4 at *
    have e0 := blk_cell (i := 0) (v := .int .i64 0) x2 rfl
    have e1 := blk_cell (i := 1) (v := .int .i64 0) x2 rfl
    have e2 := blk_cell (i := 2) (v := .slice none 0 0) x2 rfl
    go_wp2
    refine bodyPost_ret (v := .tuple #[.agg #[.int .i64 0, .int .i64 0, .slice none 0 0], .int .i64 (oE : Int)]) (by simp [results, go_sem, e0, e1, e2]) rfl ⟨none, 0, 0, rfl, Rd.none_ _ _ _, hb2⟩

set_option maxRecDepth 10000 in
set_option maxHeartbeats 2000000 in
theorem ubPut_2 (V : UbV) (a : UbA) (h : UbOk V) (w : World) (hr : UbR w w.heap.size V a) (hk : V.k = 2) :
    Calls Tryz.prog 8 #[.agg (ubL V a).toArray] w (RetFP w (ubFC V) (ubFI V) (ubFB V) (ubE V)) := by
  obtain ⟨oE, hoE⟩ : ∃ oE, oE = ubE V := ⟨_, rfl⟩
  obtain ⟨C, hC⟩ : ∃ C, C = ubC V := ⟨_, rfl⟩
  obtain ⟨I, hI⟩ : ∃ I, I = ubI V := ⟨_, rfl⟩
  obtain ⟨PB, hPB⟩ : ∃ PB, PB = ubB V := ⟨_, rfl⟩
  obtain ⟨FC, hFC⟩ : ∃ FC, FC = ubFC V := ⟨_, rfl⟩
  obtain ⟨FI, hFI⟩ : ∃ FI, FI = ubFI V := ⟨_, rfl⟩
  obtain ⟨FB, hFB⟩ : ∃ FB, FB = ubFB V := ⟨_, rfl⟩
  have H0 : Hid (oE = 0 → FC = C ∧ FI = I ∧ FB = PB) := Lib.hid (fun h0 => by rw [hoE] at h0; rw [hFC, hFI, hFB, hC, hI, hPB]; unfold ubFC ubFI ubFB; rw [if_pos h0, if_pos h0, if_pos h0]; exact ⟨rfl, rfl, rfl⟩)
  have H1 : Hid (oE ≠ 0 → FC = 0 ∧ FI = 0 ∧ FB = []) := Lib.hid (fun h0 => by rw [hoE] at h0; rw [hFC, hFI, hFB]; unfold ubFC ubFI ubFB; rw [if_neg h0, if_neg h0, if_neg h0]; exact ⟨rfl, rfl, rfl⟩)
  have hP : ubPart (ubC V) (ubI V) = .iface 89 (.agg #[]) := by simp [ubPart, ubC, ubI, ubKd, hk]
  have Hnm := Lib.hid (fun w => ubnames_any V a h.pl h.dl w)
  have Hput := Lib.hid (fun w hr => ubput2 V a h w hr hk)
  rw [← hC, ← hI] at Hnm hP
  rw [← hPB, ← hoE] at Hput
  rw [← hoE, ← hFC, ← hFI, ← hFB]
  obtain ⟨x0, x1, hs, hb⟩ := al2 w (.cells (ubL V a).toArray 35) (.cells #[.int .i64 0, .int .i64 0, .slice none 0 0] 40)
  have hx : UbB ((w.alloc (.cells (ubL V a).toArray 35)).alloc (.cells #[.int .i64 0, .int .i64 0, .slice none 0 0] 40)) w.heap.size V a := x0
  have hm : ∀ w : World, (method 59 89 (.agg #[]) "landfall/ubx.put").run Tryz.prog w = .ok (140, .agg #[]) w := fun _ => by kernel_rfl
  have hmf : ∀ (fn : Fn) (first cap : Array Value) (w : World), (Instr.makeFunc fn first cap).run Tryz.prog w = .ok (.func fn first cap) w := fun _ _ _ _ => rfl
  have Hsz : Hid ((Tryz.prog.info? 35).map (·.size) = some (ubL V a).toArray.size) := Lib.hid (by rw [List.size_toArray, ubL_len h.pl h.dl]; kernel_rfl)
  clear hoE hC hI hPB hFC hFI hFB hk h hs
  go_enter Tryz.func8, Tryz.ntmps8
  go_wp2_with (first | (with_reducible refine stop_loadT 35 ?_) | (with_reducible refine stop_storeT 35 ?_) | (with_reducible refine stop_loadG 35 ?_))
  generalize ((w.alloc (.cells (ubL V a).toArray 35)).alloc (.cells #[.int .i64 0, .int .i64 0, .slice none 0 0] 40)) = w1 at *
  refine go_ (wpList_load_row rfl _ _ rfl w.heap.size rfl _ _ _ _ hx Tryz.underlying35 rfl Hsz.out ?_)
  go_wp2_with fail
  go_fit (Hnm.out w1)
  rintro e w2 ⟨rfl, hb2⟩
  have hx2 := hx.old hb2 (blk_lt hx)
  replace x1 := blk_old x1 hb2 (blk_lt x1)
  replace hb := bnx hb hb2
  have hr2 := (hr.up hb).more hb.size
  have hg2 := blk_lt x1
  clear hx x0 hb2 hr
  go_wp2_with fail
  go_fit (ubnamed_any C I w2)
  rintro e w3 ⟨rfl, rfl⟩
  rw [hP]
  go_wp2_with (first | (with_reducible refine stop_loadT 35 ?_) | (with_reducible refine stop_storeT 35 ?_) | (with_reducible refine stop_loadG 35 ?_))
  refine go_ (wpList_load_row rfl _ _ rfl w.heap.size rfl _ _ _ _ hx2 Tryz.underlying35 rfl Hsz.out ?_)
  go_wp2_with fail
  go_fit (Hput.out w2 hr2)
  rintro e w3 ⟨A3, n3, c3, rfl, hown3, hb3⟩
  replace x1 := blk_old x1 hb3 (blk_lt x1)
  replace hb := bnx hb hb3
  clear hx2 hr2 hb3
  by_cases he : oE = 0
  · have he' : (oE : Int) = 0 := by omega
    obtain ⟨rfl, rfl, rfl⟩ := H0.out he
    go_wp2_with (first | (with_reducible refine stop_loadT 40 ?_) | (with_reducible refine stop_storeT 40 ?_) | (with_reducible refine stop_loadG 40 ?_))
    refine go_ (wpList_store_row rfl _ _ _ rfl (w.heap.size + 1) #[.int .i64 FC, .int .i64 FI, .slice A3 n3 c3] rfl rfl _ _ x1 (by kernel_rfl) rfl (by kernel_rfl) ?_)
    have x2 := setRow_heap _ _ _ (#[.int .i64 FC, .int .i64 FI, .slice A3 n3 c3] : Array Value) _ _ x1
    have haw : Aw (fun k => k = w.heap.size + 1) w3 (w3.setRow (w.heap.size + 1) #[.int .i64 FC, .int .i64 FI, .slice A3 n3 c3]) := aw_setRow20 _ _
    have hown4 := own_aw hown3 haw (fun k hk hu => by have := (own_blk hown3 hk).1; omega)
    have hb2 := below_aw20 hb haw (fun k hk => by rw [hk]; omega) (by have := hb.size; omega)
    generalize w3.setRow (w.heap.size + 1) #[.int .i64 FC, .int .i64 FI, .slice A3 n3 c3] = w4 at *
    have e0 := blk_cell (i := 0) (v := .int .i64 FC) x2 rfl
    have e1 := blk_cell (i := 1) (v := .int .i64 FI) x2 rfl
    have e2 := blk_cell (i := 2) (v := .slice A3 n3 c3) x2 rfl
    have hr4 := Rd.own hown4
    go_wp2
    refine bodyPost_ret (v := .tuple #[.agg #[.int .i64 FC, .int .i64 FI, .slice A3 n3 c3], .int .i64 0]) (by simp [results, go_sem, e0, e1, e2]) rfl ⟨A3, n3, c3, by rw [he]; rfl, hr4, hb2⟩
  · have he' : ¬ (oE : Int) = 0 := by omega
    obtain ⟨rfl, rfl, rfl⟩ := H1.out he
    go_wp2_with (first | (with_reducible refine stop_loadT 40 ?_) | (with_reducible refine stop_storeT 40 ?_) | (with_reducible refine stop_loadG 40 ?_))
    refine go_ (wpList_store_row rfl _ _ _ rfl (w.heap.size + 1) #[.int .i64 0, .int .i64 0, .slice none 0 0] rfl rfl _ _ x1 (by kernel_rfl) rfl (by kernel_rfl) ?_)
    have x2 := setRow_heap _ _ _ (#[.int .i64 0, .int .i64 0, .slice none 0 0] : Array Value) _ _ x1
    have haw : Aw (fun k => k = w.heap.size + 1) w3 (w3.setRow (w.heap.size + 1) #[.int .i64 0, .int .i64 0, .slice none 0 0]) := aw_setRow20 _ _
    have hb2 := below_aw20 hb haw (fun k hk => by rw [hk]; omega) (by have := hb.size; omega)
    generalize w3.setRow (w.heap.size + 1) #[.int .i64 0, .int .i64 0, .slice none 0 0] = w4 at *
    have e0 := blk_cell (i := 0) (v := .int .i64 0) x2 rfl
    have e1 := blk_cell (i := 1) (v := .int .i64 0) x2 rfl
    have e2 := blk_cell (i := 2) (v := .slice none 0 0) x2 rfl
    go_wp2
    refine bodyPost_ret (v := .tuple #[.agg #[.int .i64 0, .int .i64 0, .slice none 0 0], .int .i64 (oE : Int)]) (by simp [results, go_sem, e0, e1, e2]) rfl ⟨none, 0, 0, rfl, Rd.none_ _ _ _, hb2⟩

set_option maxRecDepth 10000 in
set_option maxHeartbeats 2000000 in
theorem ubPut_3 (V : UbV) (a : UbA) (h : UbOk V) (w : World) (hr : UbR w w.heap.size V a) (hk : V.k = 3) :
    Calls Tryz.prog 8 #[.agg (ubL V a).toArray] w (RetFP w (ubFC V) (ubFI V) (ubFB V) (ubE V)) := by
  obtain ⟨oE, hoE⟩ : ∃ oE, oE = ubE V := ⟨_, rfl⟩
  obtain ⟨C, hC⟩ : ∃ C, C = ubC V := ⟨_, rfl⟩
  obtain ⟨I, hI⟩ : ∃ I, I = ubI V := ⟨_, rfl⟩
  obtain ⟨PB, hPB⟩ : ∃ PB, PB = ubB V := ⟨_, rfl⟩
  obtain ⟨FC, hFC⟩ : ∃ FC, FC = ubFC V := ⟨_, rfl⟩
  obtain ⟨FI, hFI⟩ : ∃ FI, FI = ubFI V := ⟨_, rfl⟩
  obtain ⟨FB, hFB⟩ : ∃ FB, FB = ubFB V := ⟨_, rfl⟩
  have H0 : Hid (oE = 0 → FC = C ∧ FI = I ∧ FB = PB) := Lib.hid (fun h0 => by rw [hoE] at h0; rw [hFC, hFI, hFB, hC, hI, hPB]; unfold ubFC ubFI ubFB; rw [if_pos h0, if_pos h0, if_pos h0]; exact ⟨rfl, rfl, rfl⟩)
  have H1 : Hid (oE ≠ 0 → FC = 0 ∧ FI = 0 ∧ FB = []) := Lib.hid (fun h0 => by rw [hoE] at h0; rw [hFC, hFI, hFB]; unfold ubFC ubFI ubFB; rw [if_neg h0, if_neg h0, if_neg h0]; exact ⟨rfl, rfl, rfl⟩)
  have hP : ubPart (ubC V) (ubI V) = .iface 90 (.agg #[]) := by simp [ubPart, ubC, ubI, ubKd, hk]
  have Hnm := Lib.hid (fun w => ubnames_any V a h.pl h.dl w)
  have Hput := Lib.hid (fun w hr => ubput3 V a h w hr hk)
  rw [← hC, ← hI] at Hnm hP
  rw [← hPB, ← hoE] at Hput
  rw [← hoE, ← hFC, ← hFI, ← hFB]
  obtain ⟨x0, x1, hs, hb⟩ := al2 w (.cells (ubL V a).toArray 35) (.cells #[.int .i64 0, .int .i64 0, .slice none 0 0] 40)
  have hx : UbB ((w.alloc (.cells (ubL V a).toArray 35)).alloc (.cells #[.int .i64 0, .int .i64 0, .slice none 0 0] 40)) w.heap.size V a := x0
  have hm : ∀ w : World, (method 59 90 (.agg #[]) "landfall/ubx.put").run Tryz.prog w = .ok (153, .agg #[]) w := fun _ => by kernel_rfl
  have hmf : ∀ (fn : Fn) (first cap : Array Value) (w : World), (Instr.makeFunc fn first cap).run Tryz.prog w = .ok (.func fn first cap) w := fun _ _ _ _ => rfl
  have Hsz : Hid ((Tryz.prog.info? 35).map (·.size) = some (ubL V a).toArray.size) := Lib.hid (by rw [List.size_toArray, ubL_len h.pl h.dl]; kernel_rfl)
  clear hoE hC hI hPB hFC hFI hFB hk h hs
  go_enter Tryz.func8, Tryz.ntmps8
  go_wp2_with (first | (with_reducible refine stop_loadT 35 ?_) | (with_reducible refine stop_storeT 35 ?_) | (with_reducible refine stop_loadG 35 ?_))
  generalize ((w.alloc (.cells (ubL V a).toArray 35)).alloc (.cells #[.int .i64 0, .int .i64 0, .slice none 0 0] 40)) = w1 at *
  refine go_ (wpList_load_row rfl _ _ rfl w.heap.size rfl _ _ _ _ hx Tryz.underlying35 rfl Hsz.out ?_)
  go_wp2_with fail
  go_fit (Hnm.out w1)
  rintro e w2 ⟨rfl, hb2⟩
  have hx2 := hx.old hb2 (blk_lt hx)
  replace x1 := blk_old x1 hb2 (blk_lt x1)
  replace hb := bnx hb hb2
  have hr2 := (hr.up hb).more hb.size
  have hg2 := blk_lt x1
  clear hx x0 hb2 hr
  go_wp2_with fail
  go_fit (ubnamed_any C I w2)
  rintro e w3 ⟨rfl, rfl⟩
  rw [hP]
  go_wp2_with (first | (with_reducible refine stop_loadT 35 ?_) | (with_reducible refine stop_storeT 35 ?_) | (with_reducible refine stop_loadG 35 ?_))
  refine go_ (wpList_load_row rfl _ _ rfl w.heap.size rfl _ _ _ _ hx2 Tryz.underlying35 rfl Hsz.out ?_)
  go_wp2_with fail
  go_fit (Hput.out w2 hr2)
  rintro e w3 ⟨A3, n3, c3, rfl, hown3, hb3⟩
  replace x1 := blk_old x1 hb3 (blk_lt x1)
  replace hb := bnx hb hb3
  clear hx2 hr2 hb3
  by_cases he : oE = 0
  · have he' : (oE : Int) = 0 := by omega
    obtain ⟨rfl, rfl, rfl⟩ := H0.out he
    go_wp2_with (first | (with_reducible refine stop_loadT 40 ?_) | (with_reducible refine stop_storeT 40 ?_) | (with_reducible refine stop_loadG 40 ?_))
    refine go_ (wpList_store_row rfl _ _ _ rfl (w.heap.size + 1) #[.int .i64 FC, .int .i64 FI, .slice A3 n3 c3] rfl rfl _ _ x1 (by kernel_rfl) rfl (by kernel_rfl) ?_)
    have x2 := setRow_heap _ _ _ (#[.int .i64 FC, .int .i64 FI, .slice A3 n3 c3] : Array Value) _ _ x1
    have haw : Aw (fun k => k = w.heap.size + 1) w3 (w3.setRow (w.heap.size + 1) #[.int .i64 FC, .int .i64 FI, .slice A3 n3 c3]) := aw_setRow20 _ _
    have hown4 := own_aw hown3 haw (fun k hk hu => by have := (own_blk hown3 hk).1; omega)
    have hb2 := below_aw20 hb haw (fun k hk => by rw [hk]; omega) (by have := hb.size; omega)
    generalize w3.setRow (w.heap.size + 1) #[.int .i64 FC, .int .i64 FI, .slice A3 n3 c3] = w4 at *
    have e0 := blk_cell (i := 0) (v := .int .i64 FC) x2 rfl
    have e1 := blk_cell (i := 1) (v := .int .i64 FI) x2 rfl
    have e2 := blk_cell (i := 2) (v := .slice A3 n3 c3) x2 rfl
    have hr4 := Rd.own hown4
    go_wp2
    refine bodyPost_ret (v := .tuple #[.agg #[.int .i64 FC, .int .i64 FI, .slice A3 n3 c3], .int .i64 0]) (by simp [results, go_sem, e0, e1, e2]) rfl ⟨A3, n3, c3, by rw [he]; rfl, hr4, hb2⟩
  · have he' : ¬ (oE : Int) = 0 := by omega
    obtain ⟨rfl, rfl, rfl⟩ := H1.out he
    go_wp2_with (first | (with_reducible refine stop_loadT 40 ?_) | (with_reducible refine stop_storeT 40 ?_) | (with_reducible refine stop_loadG 40 ?_))
    refine go_ (wpList_store_row rfl _ _ _ rfl (w.heap.size + 1) #[.int .i64 0, .int .i64 0, .slice none 0 0] rfl rfl _ _ x1 (by kernel_rfl) rfl (by kernel_rfl) ?_)
    have x2 := setRow_heap _ _ _ (#[.int .i64 0, .int .i64 0, .slice none 0 0] : Array Value) _ _ x1
    have haw : Aw (fun k => k = w.heap.size + 1) w3 (w3.setRow (w.heap.size + 1) #[.int .i64 0, .int .i64 0, .slice none 0 0]) := aw_setRow20 _ _
    have hb2 := below_aw20 hb haw (fun k hk => by rw [hk]; omega) (by have := hb.size; omega)
    generalize w3.setRow (w.heap.size + 1) #[.int .i64 0, .int .i64 0, .slice none 0 0] = w4 at *
    have e0 := blk_cell (i := 0) (v := .int .i64 0) x2 rfl
    have e1 := blk_cell (i := 1) (v := .int .i64 0) x2 rfl
    have e2 := blk_cell (i := 2) (v := .slice none 0 0) x2 rfl
    go_wp2
    refine bodyPost_ret (v := .tuple #[.agg #[.int .i64 0, .int .i64 0, .slice none 0 0], .int .i64 (oE : Int)]) (by simp [results, go_sem, e0, e1, e2]) rfl ⟨none, 0, 0, rfl, Rd.none_ _ _ _, hb2⟩

set_option maxRecDepth 10000 in
set_option maxHeartbeats 2000000 in
theorem ubPut_4 (V : UbV) (a : UbA) (h : UbOk V) (w : World) (hr : UbR w w.heap.size V a) (hk : V.k = 4) :
    Calls Tryz.prog 8 #[.agg (ubL V a).toArray] w (RetFP w (ubFC V) (ubFI V) (ubFB V) (ubE V)) := by
  obtain ⟨oE, hoE⟩ : ∃ oE, oE = ubE V := ⟨_, rfl⟩
  obtain ⟨C, hC⟩ : ∃ C, C = ubC V := ⟨_, rfl⟩
  obtain ⟨I, hI⟩ : ∃ I, I = ubI V := ⟨_, rfl⟩
  obtain ⟨PB, hPB⟩ : ∃ PB, PB = ubB V := ⟨_, rfl⟩
  obtain ⟨FC, hFC⟩ : ∃ FC, FC = ubFC V := ⟨_, rfl⟩
  obtain ⟨FI, hFI⟩ : ∃ FI, FI = ubFI V := ⟨_, rfl⟩
  obtain ⟨FB, hFB⟩ : ∃ FB, FB = ubFB V := ⟨_, rfl⟩
  have H0 : Hid (oE = 0 → FC = C ∧ FI = I ∧ FB = PB) := Lib.hid (fun h0 => by rw [hoE] at h0; rw [hFC, hFI, hFB, hC, hI, hPB]; unfold ubFC ubFI ubFB; rw [if_pos h0, if_pos h0, if_pos h0]; exact ⟨rfl, rfl, rfl⟩)
  have H1 : Hid (oE ≠ 0 → FC = 0 ∧ FI = 0 ∧ FB = []) := Lib.hid (fun h0 => by rw [hoE] at h0; rw [hFC, hFI, hFB]; unfold ubFC ubFI ubFB; rw [if_neg h0, if_neg h0, if_neg h0]; exact ⟨rfl, rfl, rfl⟩)
  have hP : ubPart (ubC V) (ubI V) = .iface 91 (.agg #[]) := by cases hy : V.y <;> simp [ubPart, ubC, ubI, ubKd, hk, hy]
  have Hnm := Lib.hid (fun w => ubnames_any V a h.pl h.dl w)
  have Hput := Lib.hid (fun w hr => ubput4 V a h w hr hk)
  rw [← hC, ← hI] at Hnm hP
  rw [← hPB, ← hoE] at Hput
  rw [← hoE, ← hFC, ← hFI, ← hFB]
  obtain ⟨x0, x1, hs, hb⟩ := al2 w (.cells (ubL V a).toArray 35) (.cells #[.int .i64 0, .int .i64 0, .slice none 0 0] 40)
  have hx : UbB ((w.alloc (.cells (ubL V a).toArray 35)).alloc (.cells #[.int .i64 0, .int .i64 0, .slice none 0 0] 40)) w.heap.size V a := x0
  have hm : ∀ w : World, (method 59 91 (.agg #[]) "landfall/ubx.put").run Tryz.prog w = .ok (160, .agg #[]) w := fun _ => by kernel_rfl
  have hmf : ∀ (fn : Fn) (first cap : Array Value) (w : World), (Instr.makeFunc fn first cap).run Tryz.prog w = .ok (.func fn first cap) w := fun _ _ _ _ => rfl
  have Hsz : Hid ((Tryz.prog.info? 35).map (·.size) = some (ubL V a).toArray.size) := Lib.hid (by rw [List.size_toArray, ubL_len h.pl h.dl]; kernel_rfl)
  clear hoE hC hI hPB hFC hFI hFB hk h hs
  go_enter Tryz.func8, Tryz.ntmps8
  go_wp2_with (first | (with_reducible refine stop_loadT 35 ?_) | (with_reducible refine stop_storeT 35 ?_) | (with_reducible refine stop_loadG 35 ?_))
  generalize ((w.alloc (.cells (ubL V a).toArray 35)).alloc (.cells #[.int .i64 0, .int .i64 0, .slice none 0 0] 40)) = w1 at *
  refine go_ (wpList_load_row rfl _ _ rfl w.heap.size rfl _ _ _ _ hx Tryz.underlying35 rfl Hsz.out ?_)
  go_wp2_with fail
  go_fit (Hnm.out w1)
  rintro e w2 ⟨rfl, hb2⟩
  have hx2 := hx.old hb2 (blk_lt hx)
  replace x1 := blk_old x1 hb2 (blk_lt x1)
  replace hb := bnx hb hb2
  have hr2 := (hr.up hb).more hb.size
  have hg2 := blk_lt x1
  clear hx x0 hb2 hr
  go_wp2_with fail
  go_fit (ubnamed_any C I w2)
  rintro e w3 ⟨rfl, rfl⟩
  rw [hP]
  go_wp2_with (first | (with_reducible refine stop_loadT 35 ?_) | (with_reducible refine stop_storeT 35 ?_) | (with_reducible refine stop_loadG 35 ?_))
  refine go_ (wpList_load_row rfl _ _ rfl w.heap.size rfl _ _ _ _ hx2 Tryz.underlying35 rfl Hsz.out ?_)
  go_wp2_with fail
  go_fit (Hput.out w2 hr2)
  rintro e w3 ⟨A3, n3, c3, rfl, hown3, hb3⟩
  replace x1 := blk_old x1 hb3 (blk_lt x1)
  replace hb := bnx hb hb3
  clear hx2 hr2 hb3
  by_cases he : oE = 0
  · have he' : (oE : Int) = 0 := by omega
    obtain ⟨rfl, rfl, rfl⟩ := H0.out he
    go_wp2_with (first | (with_reducible refine stop_loadT 40 ?_) | (with_reducible refine stop_storeT 40 ?_) | (with_reducible refine stop_loadG 40 ?_))
    refine go_ (wpList_store_row rfl _ _ _ rfl (w.heap.size + 1) #[.int .i64 FC, .int .i64 FI, .slice A3 n3 c3] rfl rfl _ _ x1 (by kernel_rfl) rfl (by kernel_rfl) ?_)
    have x2 := setRow_heap _ _ _ (#[.int .i64 FC, .int .i64 FI, .slice A3 n3 c3] : Array Value) _ _ x1
    have haw : Aw (fun k => k = w.heap.size + 1) w3 (w3.setRow (w.heap.size + 1) #[.int .i64 FC, .int .i64 FI, .slice A3 n3 c3]) := aw_setRow20 _ _
    have hown4 := own_aw hown3 haw (fun k hk hu => by have := (own_blk hown3 hk).1; omega)
    have hb2 := below_aw20 hb haw (fun k hk => by rw [hk]; omega) (by have := hb.size; omega)
    generalize w3.setRow (w.heap.size + 1) #[.int .i64 FC, .int .i64 FI, .slice A3 n3 c3] = w4 at *
    have e0 := blk_cell (i := 0) (v := .int .i64 FC) x2 rfl
    have e1 := blk_cell (i := 1) (v := .int .i64 FI) x2 rfl
    have e2 := blk_cell (i := 2) (v := .slice A3 n3 c3) x2 rfl
    have hr4 := Rd.own hown4
    go_wp2
    refine bodyPost_ret (v := .tuple #[.agg #[.int .i64 FC, .int .i64 FI, .slice A3 n3 c3], .int .i64 0]) (by simp [results, go_sem, e0, e1, e2]) rfl ⟨A3, n3, c3, by rw [he]; rfl, hr4, hb2⟩
  · have he' : ¬ (oE : Int) = 0 := by omega
    obtain ⟨rfl, rfl, rfl⟩ := H1.out he
    go_wp2_with (first | (with_reducible refine stop_loadT 40 ?_) | (with_reducible refine stop_storeT 40 ?_) | (with_reducible refine stop_loadG 40 ?_))
    refine go_ (wpList_store_row rfl _ _ _ rfl (w.heap.size + 1) #[.int .i64 0, .int .i64 0, .slice none 0 0] rfl rfl _ _ x1 (by kernel_rfl) rfl (by kernel_rfl) ?_)
    have x2 := setRow_heap _ _ _ (#[.int .i64 0, .int .i64 0, .slice none 0 0] : Array Value) _ _ x1
    have haw : Aw (fun k => k = w.heap.size + 1) w3 (w3.setRow (w.heap.size + 1) #[.int .i64 0, .int .i64 0, .slice none 0 0]) := aw_setRow20 _ _
    have hb2 := below_aw20 hb haw (fun k hk => by rw [hk]; omega) (by have := hb.size; omega)
    generalize w3.setRow (w.heap.size + 1) #[.int .i64 0, .int .i64 0, .slice none 0 0] = w4 at *
    have e0 := blk_cell (i := 0) (v := .int .i64 0) x2 rfl
    have e1 := blk_cell (i := 1) (v := .int .i64 0) x2 rfl
    have e2 := blk_cell (i := 2) (v := .slice none 0 0) x2 rfl
    go_wp2
    refine bodyPost_ret (v := .tuple #[.agg #[.int .i64 0, .int .i64 0, .slice none 0 0], .int .i64 (oE : Int)]) (by simp [results, go_sem, e0, e1, e2]) rfl ⟨none, 0, 0, rfl, Rd.none_ _ _ _, hb2⟩

set_option maxRecDepth 10000 in
set_option maxHeartbeats 2000000 in
theorem ubPut_5 (V : UbV) (a : UbA) (h : UbOk V) (w : World) (hr : UbR w w.heap.size V a) (hk : V.k = 5) :
    Calls Tryz.prog 8 #[.agg (ubL V a).toArray] w (RetFP w (ubFC V) (ubFI V) (ubFB V) (ubE V)) := by
  obtain ⟨oE, hoE⟩ : ∃ oE, oE = ubE V := ⟨_, rfl⟩
  obtain ⟨C, hC⟩ : ∃ C, C = ubC V := ⟨_, rfl⟩
  obtain ⟨I, hI⟩ : ∃ I, I = ubI V := ⟨_, rfl⟩
  obtain ⟨PB, hPB⟩ : ∃ PB, PB = ubB V := ⟨_, rfl⟩
  obtain ⟨FC, hFC⟩ : ∃ FC, FC = ubFC V := ⟨_, rfl⟩
  obtain ⟨FI, hFI⟩ : ∃ FI, FI = ubFI V := ⟨_, rfl⟩
  obtain ⟨FB, hFB⟩ : ∃ FB, FB = ubFB V := ⟨_, rfl⟩
  have H0 : Hid (oE = 0 → FC = C ∧ FI = I ∧ FB = PB) := Lib.hid (fun h0 => by rw [hoE] at h0; rw [hFC, hFI, hFB, hC, hI, hPB]; unfold ubFC ubFI ubFB; rw [if_pos h0, if_pos h0, if_pos h0]; exact ⟨rfl, rfl, rfl⟩)
  have H1 : Hid (oE ≠ 0 → FC = 0 ∧ FI = 0 ∧ FB = []) := Lib.hid (fun h0 => by rw [hoE] at h0; rw [hFC, hFI, hFB]; unfold ubFC ubFI ubFB; rw [if_neg h0, if_neg h0, if_neg h0]; exact ⟨rfl, rfl, rfl⟩)
  have hP : ubPart (ubC V) (ubI V) = .iface 92 (.agg #[]) := by simp [ubPart, ubC, ubI, ubKd, hk]
  have Hnm := Lib.hid (fun w => ubnames_any V a h.pl h.dl w)
  have Hput := Lib.hid (fun w hr => ubput5 V a h w hr hk)
  rw [← hC, ← hI] at Hnm hP
  rw [← hPB, ← hoE] at Hput
  rw [← hoE, ← hFC, ← hFI, ← hFB]
  obtain ⟨x0, x1, hs, hb⟩ := al2 w (.cells (ubL V a).toArray 35) (.cells #[.int .i64 0, .int .i64 0, .slice none 0 0] 40)
  have hx : UbB ((w.alloc (.cells (ubL V a).toArray 35)).alloc (.cells #[.int .i64 0, .int .i64 0, .slice none 0 0] 40)) w.heap.size V a := x0
  have hm : ∀ w : World, (method 59 92 (.agg #[]) "landfall/ubx.put").run Tryz.prog w = .ok (167, .agg #[]) w := fun _ => by kernel_rfl
  have hmf : ∀ (fn : Fn) (first cap : Array Value) (w : World), (Instr.makeFunc fn first cap).run Tryz.prog w = .ok (.func fn first cap) w := fun _ _ _ _ => rfl
  have Hsz : Hid ((Tryz.prog.info? 35).map (·.size) = some (ubL V a).toArray.size) := Lib.hid (by rw [List.size_toArray, ubL_len h.pl h.dl]; kernel_rfl)
  clear hoE hC hI hPB hFC hFI hFB hk h hs
  go_enter Tryz.func8, Tryz.ntmps8
  go_wp2_with (first | (with_reducible refine stop_loadT 35 ?_) | (with_reducible refine stop_storeT 35 ?_) | (with_reducible refine stop_loadG 35 ?_))
  generalize ((w.alloc (.cells (ubL V a).toArray 35)).alloc (.cells #[.int .i64 0, .int .i64 0, .slice none 0 0] 40)) = w1 at *
  refine go_ (wpList_load_row rfl _ _ rfl w.heap.size rfl _ _ _ _ hx Tryz.underlying35 rfl Hsz.out ?_)
  go_wp2_with fail
  go_fit (Hnm.out w1)
  rintro e w2 ⟨rfl, hb2⟩
  have hx2 := hx.old hb2 (blk_lt hx)
  replace x1 := blk_old x1 hb2 (blk_lt x1)
  replace hb := bnx hb hb2
  have hr2 := (hr.up hb).more hb.size
  have hg2 := blk_lt x1
  clear hx x0 hb2 hr
  go_wp2_with fail
  go_fit (ubnamed_any C I w2)
  rintro e w3 ⟨rfl, rfl⟩
  rw [hP]
  go_wp2_with (first | (with_reducible refine stop_loadT 35 ?_) | (with_reducible refine stop_storeT 35 ?_) | (with_reducible refine stop_loadG 35 ?_))
  refine go_ (wpList_load_row rfl _ _ rfl w.heap.size rfl _ _ _ _ hx2 Tryz.underlying35 rfl Hsz.out ?_)
  go_wp2_with fail
  go_fit (Hput.out w2 hr2)
  rintro e w3 ⟨A3, n3, c3, rfl, hown3, hb3⟩
  replace x1 := blk_old x1 hb3 (blk_lt x1)
  replace hb := bnx hb hb3
  clear hx2 hr2 hb3
  by_cases he : oE = 0
  · have he' : (oE : Int) = 0 := by omega
    obtain ⟨rfl, rfl, rfl⟩ := H0.out he
    go_wp2_with (first | (with_reducible refine stop_loadT 40 ?_) | (with_reducible refine stop_storeT 40 ?_) | (with_reducible refine stop_loadG 40 ?_))
    refine go_ (wpList_store_row rfl _ _ _ rfl (w.heap.size + 1) #[.int .i64 FC, .int .i64 FI, .slice A3 n3 c3] rfl rfl _ _ x1 (by kernel_rfl) rfl (by kernel_rfl) ?_)
    have x2 := setRow_heap _ _ _ (#[.int .i64 FC, .int .i64 FI, .slice A3 n3 c3] : Array Value) _ _ x1
    have haw : Aw (fun k => k = w.heap.size + 1) w3 (w3.setRow (w.heap.size + 1) #[.int .i64 FC, .int .i64 FI, .slice A3 n3 c3]) := aw_setRow20 _ _
    have hown4 := own_aw hown3 haw (fun k hk hu => by have := (own_blk hown3 hk).1; omega)
    have hb2 := below_aw20 hb haw (fun k hk => by rw [hk]; omega) (by have := hb.size; omega)
    generalize w3.setRow (w.heap.size + 1) #[.int .i64 FC, .int .i64 FI, .slice A3 n3 c3] = w4 at *
    have e0 := blk_cell (i := 0) (v := .int .i64 FC) x2 rfl
    have e1 := blk_cell (i := 1) (v := .int .i64 FI) x2 rfl
    have e2 := blk_cell (i := 2) (v := .slice A3 n3 c3) x2 rfl
    have hr4 := Rd.own hown4
    go_wp2
    refine bodyPost_ret (v := .tuple #[.agg #[.int .i64 FC, .int .i64 FI, .slice A3 n3 c3], .int .i64 0]) (by simp [results, go_sem, e0, e1, e2]) rfl ⟨A3, n3, c3, by rw [he]; rfl, hr4, hb2⟩
  · have he' : ¬ (oE : Int) = 0 := by omega
    obtain ⟨rfl, rfl, rfl⟩ := H1.out he
    go_wp2_with (first | (with_reducible refine stop_loadT 40 ?_) | (with_reducible refine stop_storeT 40 ?_) | (with_reducible refine stop_loadG 40 ?_))
    refine go_ (wpList_store_row rfl _ _ _ rfl (w.heap.size + 1) #[.int .i64 0, .int .i64 0, .slice none 0 0] rfl rfl _ _ x1 (by kernel_rfl) rfl (by kernel_rfl) ?_)
    have x2 := setRow_heap _ _ _ (#[.int .i64 0, .int .i64 0, .slice none 0 0] : Array Value) _ _ x1
    have haw : Aw (fun k => k = w.heap.size + 1) w3 (w3.setRow (w.heap.size + 1) #[.int .i64 0, .int .i64 0, .slice none 0 0]) := aw_setRow20 _ _
    have hb2 := below_aw20 hb haw (fun k hk => by rw [hk]; omega) (by have := hb.size; omega)
    generalize w3.setRow (w.heap.size + 1) #[.int .i64 0, .int .i64 0, .slice none 0 0] = w4 at *
    have e0 := blk_cell (i := 0) (v := .int .i64 0) x2 rfl
    have e1 := blk_cell (i := 1) (v := .int .i64 0) x2 rfl
    have e2 := blk_cell (i := 2) (v := .slice none 0 0) x2 rfl
    go_wp2
    refine bodyPost_ret (v := .tuple #[.agg #[.int .i64 0, .int .i64 0, .slice none 0 0], .int .i64 (oE : Int)]) (by simp [results, go_sem, e0, e1, e2]) rfl ⟨none, 0, 0, rfl, Rd.none_ _ _ _, hb2⟩

set_option maxRecDepth 10000 in
set_option maxHeartbeats 2000000 in
theorem ubPut_0 (V : UbV) (a : UbA) (h : UbOk V) (w : World) (hk : V.k ≠ 1 ∧ V.k ≠ 2 ∧ V.k ≠ 3 ∧ V.k ≠ 4 ∧ V.k ≠ 5) :
    Calls Tryz.prog 8 #[.agg (ubL V a).toArray] w (RetFP w (ubFC V) (ubFI V) (ubFB V) (ubE V)) := by
  obtain ⟨k1, k2, k3, k4, k5⟩ := hk
  have hE : ubE V = 6 := by simp [ubE, k1, k2, k3, k4, k5]
  have hFC : ubFC V = 0 := by unfold ubFC; rw [hE]; rfl
  have hFI : ubFI V = 0 := by unfold ubFI; rw [hE]; rfl
  have hFB : ubFB V = [] := by unfold ubFB; rw [hE]; rfl
  have hP : ubPart (ubC V) (ubI V) = .nilIface := by simp [ubPart, ubC, ubI, ubKd, k1, k2, k3, k4, k5]
  rw [hE, hFC, hFI, hFB]
  obtain ⟨C, hC⟩ : ∃ C, C = ubC V := ⟨_, rfl⟩
  obtain ⟨I, hI⟩ : ∃ I, I = ubI V := ⟨_, rfl⟩
  have Hnm := Lib.hid (fun w => ubnames_any V a h.pl h.dl w)
  rw [← hC, ← hI] at Hnm hP
  obtain ⟨x0, x1, hs, hb⟩ := al2 w (.cells (ubL V a).toArray 35) (.cells #[.int .i64 0, .int .i64 0, .slice none 0 0] 40)
  have hx : UbB ((w.alloc (.cells (ubL V a).toArray 35)).alloc (.cells #[.int .i64 0, .int .i64 0, .slice none 0 0] 40)) w.heap.size V a := x0
  have Hsz : Hid ((Tryz.prog.info? 35).map (·.size) = some (ubL V a).toArray.size) := Lib.hid (by rw [List.size_toArray, ubL_len h.pl h.dl]; kernel_rfl)
  clear hE hFC hFI hFB hC hI h hs k1 k2 k3 k4 k5
  go_enter Tryz.func8, Tryz.ntmps8
  go_wp2_with (first | (with_reducible refine stop_loadT 35 ?_) | (with_reducible refine stop_storeT 35 ?_) | (with_reducible refine stop_loadG 35 ?_))
  generalize ((w.alloc (.cells (ubL V a).toArray 35)).alloc (.cells #[.int .i64 0, .int .i64 0, .slice none 0 0] 40)) = w1 at *
  refine go_ (wpList_load_row rfl _ _ rfl w.heap.size rfl _ _ _ _ hx Tryz.underlying35 rfl Hsz.out ?_)
  go_wp2_with fail
  go_fit (Hnm.out w1)
  rintro e w2 ⟨rfl, hb2⟩
  replace x1 := blk_old x1 hb2 (blk_lt x1)
  replace hb := bnx hb hb2
  clear hx x0 hb2
  go_wp2_with fail
  go_fit (ubnamed_any C I w2)
  rintro e w3 ⟨rfl, rfl⟩
  rw [hP]
  go_wp2_with (first | (with_reducible refine stop_loadT 40 ?_) | (with_reducible refine stop_storeT 40 ?_) | (with_reducible refine stop_loadG 40 ?_))
  refine go_ (wpList_store_row rfl _ _ _ rfl (w.heap.size + 1) #[.int .i64 0, .int .i64 0, .slice none 0 0] rfl rfl _ _ x1 (by kernel_rfl) rfl (by kernel_rfl) ?_)
  have x2 := setRow_heap _ _ _ (#[.int .i64 0, .int .i64 0, .slice none 0 0] : Array Value) _ _ x1
  have haw : Aw (fun k => k = w.heap.size + 1) w2 (w2.setRow (w.heap.size + 1) #[.int .i64 0, .int .i64 0, .slice none 0 0]) := aw_setRow20 _ _
  have hb2 := below_aw20 hb haw (fun k hk => by rw [hk]; omega) (by have := hb.size; omega)
  generalize w2.setRow (w.heap.size + 1) #[.int .i64 0, .int .i64 0, .slice none 0 0] = w4 at *
  have e0 := blk_cell (i := 0) (v := .int .i64 0) x2 rfl
  have e1 := blk_cell (i := 1) (v := .int .i64 0) x2 rfl
  have e2 := blk_cell (i := 2) (v := .slice none 0 0) x2 rfl
  go_wp2
  refine bodyPost_ret (v := .tuple #[.agg #[.int .i64 0, .int .i64 0, .slice none 0 0], .int .i64 6]) (by simp [results, go_sem, e0, e1, e2]) rfl ⟨none, 0, 0, rfl, Rd.none_ _ _ _, hb2⟩

theorem ubPut_any (V : UbV) (a : UbA) (h : UbOk V) (w : World) (hr : UbR w w.heap.size V a) :
    Calls Tryz.prog 8 #[.agg (ubL V a).toArray] w (RetFP w (ubFC V) (ubFI V) (ubFB V) (ubE V)) := by
  rcases ub_kinds V with hk | hk | hk | hk | hk | hk
  · exact ubPut_1 V a h w hr hk
  · exact ubPut_2 V a h w hr hk
  · exact ubPut_3 V a h w hr hk
  · exact ubPut_4 V a h w hr hk
  · exact ubPut_5 V a h w hr hk
  · exact ubPut_0 V a h w hk

end Go.Proofs.YtmkidihcdljkiaaGreat
