/-
  Several texts in one: Resc1 Resc2 Resc3 RangeR2 Resc4 Resc5 Resc6.
-/
import Derived.Test.YtplgcfjcdjlnbaaKGR
import Derived.Test.YtplgcfjcdjlnbaaKBlk6
import Derived.Test.YtplgcfjcdjlnbaaKFlogBs
import Derived.Test.YtplgcfjcdjlnbaaKGS
import Derived.Test.YtplgcfjcdjlnbaaKBlk7
import Derived.Test.YtplgcfjcdjlnbaaKGB
import Derived.Test.YtplgcfjcdjlnbaaKGA
import Derived.Test.YtplgcfjcdjlnbaaKGT
import Derived.OwnWalk
/-
  rescue.Records, the document's Records, rescue.at walked (printed by gen_resc1.py).
-/
set_option linter.unusedSimpArgs false
set_option linter.unusedVariables false
namespace Go.Proofs.Ytplgcfjcdjlnbaa
open Go.RowKit NumLaw CrcLaw
attribute [local go_sem] Addr.add_mid

theorem rec_info37 : (Try.prog.info? 25).map (fun i => (i.zero, i.size, i.bytes)) = some (some (.agg (rcC 0 z12).toArray), 13, 52) := by kernel_rfl
theorem rd_one37 (w : World) {p : Nat × List Int} (hX : p.2.length = 12) : Rd (w.alloc (.cells (rcC p.1 p.2).toArray 25)) (w.heap.size + 1) 13 (some ⟨w.heap.size, 0, none⟩) 1 1 (rcC p.1 p.2) := by
  have := (RdR.lit (size := 13) (e := 25) w [rcC p.1 p.2] (rcC p.1 p.2).toArray (by simp) (by intro r hr; rw [List.mem_singleton.1 hr]; exact rcC_size _ _ hX) (by simp [maxLen]) 1 rfl).rd (by omega)
  simpa using this
/-- Records told, in new memory. -/
def RetRs (R : List (Nat × List Int)) (w : World) (e : Ending) (w' : World) : Prop :=
  ∃ (A : Option Addr) (n c : Nat), e = .returned (.slice A n c) ∧ n = R.length ∧ w'.ownsRow w.heap.size 25 13 (.slice A n c) n (R.map rcR).flatten ∧ Below w.heap.size w w'
theorem RdC.own {w : World} {base n c : Nat} {A : Option Addr} {R : List (Nat × List Int)} (h : w.ownsRow base 25 13 (.slice A n c) n (R.map rcR).flatten) (hl : R.length = n) (h12 : ∀ p ∈ R, p.2.length = 12) : RdC w w.heap.size A n c R :=
  RdR.own h (by rw [List.length_map]; exact hl) (fun r hr => by obtain ⟨p, hp, rfl⟩ := List.mem_map.1 hr; exact rcC_size _ _ (h12 p hp))
set_option maxRecDepth 10000 in
set_option maxHeartbeats 4000000 in
theorem records_any (no : Nat) (A : Option Addr) (n c B : Nat) (L : List En) (w : World) (h : RdE w B A n c L) (hB : B ≤ w.heap.size) (hn : n ≤ 100000) :
    Calls Try.prog 59 #[.agg #[.int .u32 (no : Int), .slice A n c]] w (RetRs (L.map recE) w) := by
  have hll := h.len
  have hv := RdE.v12 h
  have Hll := Lib.hid hll
  have Hv := Lib.hid hv
  obtain ⟨i1, hi1⟩ := info_parts rec_info37
  have Hi1 := Lib.hid hi1
  have hle := h.2.2.1
  have hmx := h.2.2.2.1
  unfold maxLen at hmx
  have hb0 : Below w.heap.size w (w.alloc (.cells #[.int .u32 (no : Int), .slice A n c] 41)) := (Below.refl _ _).alloc (Nat.le_refl _) _
  have hbox0 := heap_alloc_new w (.cells #[.int .u32 (no : Int), .slice A n c] 41)
  have c10 : (w.alloc (.cells #[.int .u32 (no : Int), .slice A n c] 41)).cell? ⟨w.heap.size, 1, none⟩ = some (.slice A n c) := blk_cell hbox0 rfl
  clear hll hv hi1
  go_enter Try.func59, Try.ntmps59
  go_wp2_with fail
  generalize (w.alloc (.cells #[.int .u32 (no : Int), .slice A n c] 41)) = w1 at *
  go_loopw [3, 9] (fun s i wr => ∃ (k : Nat) (A3 : Option Addr) (c3 : Nat), k ≤ n ∧ s = .slice A3 k c3 ∧ i = .int .i64 k ∧ wr.heap[w.heap.size]? = some (.cells #[.int .u32 (no : Int), .slice A n c] 41) ∧ Below w.heap.size w wr ∧ wr.ownsRow (w.heap.size + 1) 25 13 (.slice A3 k c3) k (((L.take k).map recE).map rcR).flatten) (fun _ i _ => n - (intOf i).toNat)
  case atStart => exact ⟨0, none, 0, by omega, rfl, rfl, hbox0, hb0, World.ownsRow_nil _ _ _ _⟩
  case round =>
    clear hbox0 hb0 c10 w1
    obtain ⟨k, A3, c3, hk, rfl, rfl, hbox, hb, hown⟩ := hrel
    have c1 : wr.cell? ⟨w.heap.size, 1, none⟩ = some (.slice A n c) := blk_cell hbox rfl
    by_cases hlt : k < n
    · have hlt' : (k : Int) < (n : Int) := by omega
      obtain ⟨gL, offL, x, hA, hgL, hx, hrx⟩ := h.at_ hlt
      subst hA
      have HxV := Lib.hid (Hv.out x (List.mem_of_getElem? hx))
      have Hr1 := Lib.hid (show wr.rangeAt gL (offL + k * 14) (enC x) from fun j u hu => (hb.cell (p := ⟨gL, offL + k * 14 + j, none⟩) (show gL < w.heap.size by omega)).trans (hrx j u hu))
      clear hrx
      go_wp2_with (first | (with_reducible refine stop_loadT 46 ?_) | (with_reducible refine stop_storeT 46 ?_) | (with_reducible refine stop_loadG 46 ?_))
      refine go_ (wpList_load_mid rfl _ _ rfl gL (offL + k * 14) rfl _ _ Hr1.out Try.underlying46 rfl (by rw [enC_len x HxV.out]; kernel_rfl) ?_)
      go_wp2_with (first | (with_reducible refine stop_loadT 46 ?_) | (with_reducible refine stop_storeT 46 ?_) | (with_reducible refine stop_loadG 46 ?_))
      have hbx : Below wr.heap.size wr (wr.alloc (.cells #[.bool false, .int .u32 0, .int .i32 0, .int .i32 0, .int .i32 0, .int .i32 0, .int .i32 0, .int .i32 0, .int .i32 0, .int .i32 0, .int .i32 0, .int .i32 0, .int .i32 0, .int .i32 0] 46)) := (Below.refl _ _).alloc (Nat.le_refl _) _
      have r6 := heap_alloc_new wr (.cells #[.bool false, .int .u32 0, .int .i32 0, .int .i32 0, .int .i32 0, .int .i32 0, .int .i32 0, .int .i32 0, .int .i32 0, .int .i32 0, .int .i32 0, .int .i32 0, .int .i32 0, .int .i32 0] 46)
      have lt0 : w.heap.size < wr.heap.size := blk_lt hbox
      have hne : ∀ j, (Value.slice A3 k c3).ownBlock = some j → j ≠ wr.heap.size := fun j hj => by have := (own_blk hown hj).2; omega
      replace hown := own_up hown hbx (Nat.le_refl _)
      replace hbox := blk_old hbox hbx lt0
      replace hb := bnx hb hbx
      generalize (wr.alloc (.cells #[.bool false, .int .u32 0, .int .i32 0, .int .i32 0, .int .i32 0, .int .i32 0, .int .i32 0, .int .i32 0, .int .i32 0, .int .i32 0, .int .i32 0, .int .i32 0, .int .i32 0, .int .i32 0] 46)) = w2 at *
      generalize wr.heap.size = g6 at *
      replace r6 : EnB w2 g6 zen := r6
      clear hbx Hr1 c1 wr
      refine go_ (wpList_store_row rfl _ _ _ rfl g6 (enC x).toArray rfl rfl _ _ r6 (by rw [List.size_toArray, enC_len x HxV.out]; kernel_rfl) (by rw [List.size_toArray, List.size_toArray, enC_len x HxV.out]; rfl) (all_oneCell_toArray (enC_one x)) ?_)
      obtain ⟨x6, hAz⟩ := en_store x HxV.out w2 g6 r6
      replace hown := own_aw hown hAz (fun j hj hu => hne j hj hu)
      replace hbox := hAz.keep hbox (by omega)
      replace hb := below_awG hb hAz (fun k hk => by omega) hb.size
      generalize (w2.setRow g6 (enC x).toArray) = wa at *
      clear hAz r6 w2
      have Hr1 := Lib.hid x6
      go_wp2_with (first | (with_reducible refine stop_loadT 25 ?_) | (with_reducible refine stop_storeT 25 ?_) | (with_reducible refine stop_loadG 25 ?_))
      refine go_ (wpList_load_mid rfl _ _ rfl g6 1 rfl _ _ x6.rec_ Try.underlying25 rfl (by rw [rcC_size x.t x.V HxV.out]; kernel_rfl) ?_)
      clear x6
      go_wp2_with (with_reducible refine stop_bs ?_)
      refine go_ (wpList_bs1 Try.underlying58 Hi1.out (by kernel_rfl) (by omega) (by omega) (rcC_size x.t x.V HxV.out) rfl ?_)
      have hbn : Below wa.heap.size wa (wa.alloc (.cells (rcC x.t x.V).toArray 25)) := (Below.refl _ _).alloc (Nat.le_refl _) _
      have hrd := rd_one37 wa (p := (x.t, x.V)) HxV.out
      have hlb := blk_lt hbox
      have hb2 := bnx hb hbn
      have hbox2 := blk_old hbox hbn hlb
      have hown2 := own_up hown hbn (Nat.le_refl _)
      clear hbn
      generalize (wa.alloc (.cells (rcC x.t x.V).toArray 25)) = wc at *
      generalize wa.heap.size = gb at *
      clear hbox hown hb
      go_wp2_with (at_builtin; refine stop_ ?_)
      refine go_ (wpList_appG (base := w.heap.size + 1) (n := k) Try.underlying58 Hi1.out (by kernel_rfl) (by omega) hown2 rfl hrd rfl (rcC_one x.t x.V) (k := k + 1) (ys := (((L.take (k + 1)).map recE).map rcR).flatten) rfl (by rw [take_succ hx]; simp [rcR, recE]) (by unfold maxLen; omega) (by omega) (by have := blk_lt hbox2; omega) ?_)
      intro A7 c7 wd hown7 hgr hob
      have hne6 : ∀ j, (Value.slice A3 k c3).ownBlock = some j → w.heap.size < j := fun j hj => by have := (own_blk hown2 hj).1; omega
      have hbox7 := (hgr.block _ (blk_lt hbox2) (fun e => by have := hne6 _ e.symm; omega)).trans hbox2
      have hb7 := Below.grown hb2 hgr hb2.size (fun j hj => by have := hne6 j hj; omega)
      clear hgr hob hown2 hrd hne6 hbox2 hb2 Hr1
      go_wp2
      go_roundw
      case rel => exact ⟨k + 1, A7, c7, by omega, rfl, by go_num, hbox7, hb7, hown7⟩
      case measure => simp [intOf]; omega
    · obtain rfl : k = n := by omega
      rw [List.take_of_length_le (by rw [Hll.out]; exact Nat.le_refl _)] at hown
      go_wp2
      go_ret
      exact ⟨A3, k, c3, rfl, by rw [List.length_map, Hll.out], own_mono hown (Nat.le_succ _), hb⟩
set_option maxRecDepth 10000 in
set_option maxHeartbeats 4000000 in
theorem qrecords_any (no : Nat) (A : Option Addr) (n c B : Nat) (L : List En) (w : World) (h : RdE w B A n c L) (hB : B ≤ w.heap.size) (hn : n ≤ 100000) :
    Calls Try.prog 60 #[.agg #[.int .u32 (no : Int), .slice A n c]] w (RetRs (L.map recE) w) := by
  have hll := h.len
  have hv := RdE.v12 h
  have Hll := Lib.hid hll
  have Hv := Lib.hid hv
  obtain ⟨i1, hi1⟩ := info_parts rec_info37
  have Hi1 := Lib.hid hi1
  have hle := h.2.2.1
  have hmx := h.2.2.2.1
  unfold maxLen at hmx
  have hb0 : Below w.heap.size w (w.alloc (.cells #[.int .u32 (no : Int), .slice A n c] 41)) := (Below.refl _ _).alloc (Nat.le_refl _) _
  have hbox0 := heap_alloc_new w (.cells #[.int .u32 (no : Int), .slice A n c] 41)
  have c10 : (w.alloc (.cells #[.int .u32 (no : Int), .slice A n c] 41)).cell? ⟨w.heap.size, 1, none⟩ = some (.slice A n c) := blk_cell hbox0 rfl
  clear hll hv hi1
  go_enter Try.func60, Try.ntmps60
  go_wp2_with fail
  generalize (w.alloc (.cells #[.int .u32 (no : Int), .slice A n c] 41)) = w1 at *
  go_loopw [3, 4] (fun s i wr => ∃ (k : Nat) (A3 : Option Addr) (c3 : Nat), k ≤ n ∧ s = .slice A3 k c3 ∧ i = .int .i64 k ∧ wr.heap[w.heap.size]? = some (.cells #[.int .u32 (no : Int), .slice A n c] 41) ∧ Below w.heap.size w wr ∧ wr.ownsRow (w.heap.size + 1) 25 13 (.slice A3 k c3) k (((L.take k).map recE).map rcR).flatten) (fun _ i _ => n - (intOf i).toNat)
  case atStart => exact ⟨0, none, 0, by omega, rfl, rfl, hbox0, hb0, World.ownsRow_nil _ _ _ _⟩
  case round =>
    clear hbox0 hb0 c10 w1
    obtain ⟨k, A3, c3, hk, rfl, rfl, hbox, hb, hown⟩ := hrel
    have c1 : wr.cell? ⟨w.heap.size, 1, none⟩ = some (.slice A n c) := blk_cell hbox rfl
    by_cases hlt : k < n
    · have hlt' : (k : Int) < (n : Int) := by omega
      obtain ⟨gL, offL, x, hA, hgL, hx, hrx⟩ := h.at_ hlt
      subst hA
      have HxV := Lib.hid (Hv.out x (List.mem_of_getElem? hx))
      have Hr1 := Lib.hid (show wr.rangeAt gL (offL + k * 14) (enC x) from fun j u hu => (hb.cell (p := ⟨gL, offL + k * 14 + j, none⟩) (show gL < w.heap.size by omega)).trans (hrx j u hu))
      clear hrx
      go_wp2_with (first | (with_reducible refine stop_loadT 25 ?_) | (with_reducible refine stop_storeT 25 ?_) | (with_reducible refine stop_loadG 25 ?_))
      refine go_ (wpList_load_mid rfl _ _ rfl gL (offL + k * 14 + 1) rfl _ _ (range_rec Hr1.out) Try.underlying25 rfl (by rw [rcC_size x.t x.V HxV.out]; kernel_rfl) ?_)
      clear c1
      generalize wr = wa at *
      go_wp2_with (with_reducible refine stop_bs ?_)
      refine go_ (wpList_bs1 Try.underlying58 Hi1.out (by kernel_rfl) (by omega) (by omega) (rcC_size x.t x.V HxV.out) rfl ?_)
      have hbn : Below wa.heap.size wa (wa.alloc (.cells (rcC x.t x.V).toArray 25)) := (Below.refl _ _).alloc (Nat.le_refl _) _
      have hrd := rd_one37 wa (p := (x.t, x.V)) HxV.out
      have hlb := blk_lt hbox
      have hb2 := bnx hb hbn
      have hbox2 := blk_old hbox hbn hlb
      have hown2 := own_up hown hbn (Nat.le_refl _)
      clear hbn
      generalize (wa.alloc (.cells (rcC x.t x.V).toArray 25)) = wc at *
      generalize wa.heap.size = gb at *
      clear hbox hown hb
      go_wp2_with (at_builtin; refine stop_ ?_)
      refine go_ (wpList_appG (base := w.heap.size + 1) (n := k) Try.underlying58 Hi1.out (by kernel_rfl) (by omega) hown2 rfl hrd rfl (rcC_one x.t x.V) (k := k + 1) (ys := (((L.take (k + 1)).map recE).map rcR).flatten) rfl (by rw [take_succ hx]; simp [rcR, recE]) (by unfold maxLen; omega) (by omega) (by have := blk_lt hbox2; omega) ?_)
      intro A7 c7 wd hown7 hgr hob
      have hne6 : ∀ j, (Value.slice A3 k c3).ownBlock = some j → w.heap.size < j := fun j hj => by have := (own_blk hown2 hj).1; omega
      have hbox7 := (hgr.block _ (blk_lt hbox2) (fun e => by have := hne6 _ e.symm; omega)).trans hbox2
      have hb7 := Below.grown hb2 hgr hb2.size (fun j hj => by have := hne6 j hj; omega)
      clear hgr hob hown2 hrd hne6 hbox2 hb2 Hr1
      go_wp2
      go_roundw
      case rel => exact ⟨k + 1, A7, c7, by omega, rfl, by go_num, hbox7, hb7, hown7⟩
      case measure => simp [intOf]; omega
    · obtain rfl : k = n := by omega
      rw [List.take_of_length_le (by rw [Hll.out]; exact Nat.le_refl _)] at hown
      go_wp2
      go_ret
      exact ⟨A3, k, c3, rfl, by rw [List.length_map, Hll.out], own_mono hown (Nat.le_succ _), hb⟩
/-- A block and whether it can be taken. -/
def RetAt (s : List UInt8) (w : World) (e : Ending) (w' : World) : Prop :=
  ∃ (A : Option Addr) (n c : Nat), e = .returned (.tuple #[.agg #[.int .u32 (blkNo s : Int), .slice A n c], .bool (decide (blkE s = 0))]) ∧ RdE w' w'.heap.size A n c (blkL s) ∧ Below w.heap.size w w'
def RetAn (s : List UInt8) (w : World) (e : Ending) (w' : World) : Prop :=
  ∃ (A : Option Addr) (n c : Nat), e = .returned (.tuple #[.agg #[.int .u32 (blkNo s : Int), .slice A n c], .bool (decide (blkE s = 0))]) ∧ RdE w' w'.heap.size A n c (blkL s) ∧ Below w.heap.size w w' ∧ OfT w' 46 (.slice A n c)
theorem RetAn.any {s : List UInt8} {w w' : World} {e : Ending} (h : RetAn s w e w') : RetAt s w e w' := by
  obtain ⟨A, n, c, h1, h2, h3, _⟩ := h
  exact ⟨A, n, c, h1, h2, h3⟩
theorem ofT_setRow {w : World} {e t : TypeId} {v : Value} {g : Nat} {cs : Array Value} (h : OfT w e v) (hg : w.heap[g]? = some (.cells cs t)) (hne : t ≠ e) (cs' : Array Value) : OfT (w.setRow g cs') e v :=
  ofT_aw h (aw_setRow35 g cs') (fun k hk cur hc => by
    subst hk
    rw [hg] at hc
    injection hc with hc
    injection hc with _ h2 _
    exact hne h2)
theorem blk_mark {s : List UInt8} (h : ¬ (s.getD 0 0).toNat = 76) : blkE s ≠ 0 := fun h0 => by
  obtain ⟨h1, h2, _, h4, h5⟩ := blk_back h0
  obtain ⟨g1, g2, g3⟩ := putE_zero h1
  have hp := (page_parts (no := blkNo s) (L := blkL s) (by omega)).1
  have hl := pageB_len (no := blkNo s) g3
  apply h
  rw [← h2]
  unfold putB
  rw [if_pos h1]
  rw [List.getD_eq_getElem?_getD] at hp ⊢
  rw [List.getElem?_append_left (by omega), hp]
  rfl
theorem own_rdE {w w' : World} {A : Option Addr} {n c : Nat} {L : List En} (h : RdE w w.heap.size A n c L) (hb : Below w.heap.size w w') : RdE w' w'.heap.size A n c L := RdR.nx h hb
theorem rdE_set {w : World} {A : Option Addr} {n c g : Nat} {L : List En} {cs : Array Value} {t : TypeId} (h : RdE w w.heap.size A n c L) (hg : w.heap[g]? = some (.cells cs t)) (hcs : cs.size < 14) (cs' : Array Value) : RdE (w.setRow g cs') (w.setRow g cs').heap.size A n c L := by
  unfold RdE at h ⊢
  refine ⟨h.1, h.2.1, h.2.2.1, h.2.2.2.1, fun hn => ?_⟩
  obtain ⟨g', off, e, hlt, hr⟩ := h.2.2.2.2 hn
  have hne : g' ≠ g := fun he => by
    subst he
    have hl : 0 < (L.map enC).length := by have := h.1; omega
    have hr0 := hr 0 _ (List.getElem?_eq_getElem hl)
    have h14 := h.2.1 _ (List.getElem_mem hl)
    have h13 := hr0 13 _ (List.getElem?_eq_getElem (by rw [h14]; decide))
    simp [World.cell?, hg] at h13
    have := (Array.getElem?_eq_some_iff.1 h13).1
    omega
  exact ⟨g', off, e, by rw [setRow_size]; exact hlt, fun k r hk j v hv => (cell_setRow_other35 hne).trans (hr k r hk j v hv)⟩
set_option maxRecDepth 10000 in
set_option maxHeartbeats 4000000 in
theorem at_new (A : Option Addr) (n c B at0 : Nat) (l : List UInt8) (w : World) (h : Rd w B 1 A n c (bv l)) (hB : B ≤ w.heap.size) (hn : at0 + 256 ≤ n) (hn2 : n ≤ 1000000) :
    Calls Try.prog 119 #[.slice A n c, .int .i64 (at0 : Int)] w (RetAn ((l.drop at0).take 256) w) := by
  have hlb := h.blen
  have hle := h.le
  have hmx := h.max
  unfold maxLen at hmx
  obtain ⟨i0, hi⟩ := info_parts u8_info
  have Hi := Lib.hid hi
  have hpg : Rd w B 1 (cutA A c at0 1) 256 (c - at0) (bv ((l.drop at0).take 256)) := (h.bdrop (k := at0) (by omega)).btake (k := 256) (by omega)
  have hsl : ((l.drop at0).take 256).length = 256 := by rw [List.length_take, List.length_drop]; omega
  generalize (l.drop at0).take 256 = s at *
  have hcut : ∀ w, (Instr.slice 26 (.slice A n c) (some (.int .i64 (at0 : Int))) (some (.int .i64 ((at0 : Int) + 256))) none).run Try.prog w = .ok (.slice (cutA A c at0 1) 256 (c - at0)) w := fun w => by
    have := run_cut_lh (P := Try.prog) Try.underlying26 Hi.out.1 Hi.out.2.2.1 A n c at0 (at0 + 256) (by omega) (by omega) w
    rwa [show ((at0 + 256 : Nat) : Int) = (at0 : Int) + 256 by omega, show at0 + 256 - at0 = 256 by omega] at this
  have hb1 : Below w.heap.size w (w.alloc (.cells #[.int .u32 0, .slice none 0 0] 41)) := (Below.refl _ _).alloc (Nat.le_refl _) _
  have hres := heap_alloc_new w (.cells #[.int .u32 0, .slice none 0 0] 41)
  have hpg1 := hpg.up (hb1.mono hB)
  obtain ⟨b0, hb0⟩ : ∃ v, v = (s.getD 0 0).toNat := ⟨_, rfl⟩
  have hb0l : b0 < 256 := by rw [hb0]; exact UInt8.toNat_lt _
  obtain ⟨ad, x0, hA, hx0, hc0⟩ := hpg1.byte (k := 0) (by omega)
  rw [show x0.toNat = b0 by rw [hb0, List.getD_eq_getElem?_getD, hx0]; rfl, addr_zero] at hc0
  have Hbm := Lib.hid (fun (hm : ¬ b0 = 76) => blk_mark (s := s) (by rw [← hb0]; exact hm))
  have htk := blkTake_new (cutA A c at0 1) 256 (c - at0) B s _ hpg1 (Nat.le_trans hB hb1.size) (by omega)
  have Htk := Lib.hid htk
  have Hsl := Lib.hid hsl
  rw [hA] at hcut Htk
  clear hlb hi hsl hpg htk hb0 h hpg1
  by_cases hm : b0 = 76
  · subst hm
    go_enter Try.func119, Try.ntmps119
    go_wp2_with fail
    generalize (w.alloc (.cells #[.int .u32 0, .slice none 0 0] 41)) = w1 at *
    go_fit Htk.out
    unfold RetTBn
    rintro e w2 ⟨A2, n2, c2, rfl, hr2, hbx, ho2⟩
    have hres2 := blk_old hres hbx (blk_lt hres)
    have hb2 := bnx hb1 hbx
    have hbn : Below w2.heap.size w2 (w2.alloc (.cells #[.int .u32 0, .slice none 0 0] 41)) := (Below.refl _ _).alloc (Nat.le_refl _) _
    have hx3 := heap_alloc_new w2 (.cells #[.int .u32 0, .slice none 0 0] 41)
    have hl2 := blk_lt hres2
    have hres3 := blk_old hres2 hbn hl2
    have hb3 := bnx hb2 hbn
    have hr3 := own_rdE hr2 hbn
    have Hb2 := Lib.hid hr2
    clear hcut hc0 Htk hbx hbn hres hb1 hres2 hb2 hr2
    have HdE : Hid ((((blkE s : Nat) : Int) == 0) = decide (blkE s = 0)) := Lib.hid (by rw [Bool.eq_iff_iff]; simp)
    go_wp2_with (first | (with_reducible refine stop_loadT 41 ?_) | (with_reducible refine stop_storeT 41 ?_))
    refine go_ (wpList_store_row rfl _ _ _ rfl w2.heap.size #[.int .u32 (blkNo s : Int), .slice A2 n2 c2] rfl rfl _ _ hx3 (by kernel_rfl) rfl (by kernel_rfl) ?_)
    have hx4 := setRow_heap _ _ _ (#[.int .u32 (blkNo s : Int), .slice A2 n2 c2] : Array Value) _ _ hx3
    have haw := aw_setRow35 (w := w2.alloc (.cells #[.int .u32 0, .slice none 0 0] 41)) w2.heap.size (#[.int .u32 (blkNo s : Int), .slice A2 n2 c2] : Array Value)
    have hres4 := haw.keep hres3 (by omega)
    have hb4 := below_setRow hb3 (Nat.le_of_lt hl2) (#[.int .u32 (blkNo s : Int), .slice A2 n2 c2] : Array Value)
    have hB4 := below_setRow ((Below.refl w2.heap.size w2).alloc (Nat.le_refl _) (.cells #[.int .u32 0, .slice none 0 0] 41)) (Nat.le_refl _) (#[.int .u32 (blkNo s : Int), .slice A2 n2 c2] : Array Value)
    have hr4 := own_rdE Hb2.out hB4
    have ho4 := ofT_below ho2 hB4
    clear hx3 hres3 hb3 hr3 haw hB4 Hb2 ho2
    generalize ((w2.alloc (.cells #[.int .u32 0, .slice none 0 0] 41)).setRow w2.heap.size #[.int .u32 (blkNo s : Int), .slice A2 n2 c2]) = w4 at *
    generalize w2.heap.size = gx at *
    go_wp2_with (first | (with_reducible refine stop_loadT 41 ?_) | (with_reducible refine stop_storeT 41 ?_))
    refine go_ (wpList_load_row rfl _ _ rfl gx rfl _ _ _ _ hx4 Try.underlying41 rfl (by kernel_rfl) ?_)
    go_wp2_with (first | (with_reducible refine stop_loadT 41 ?_) | (with_reducible refine stop_storeT 41 ?_))
    refine go_ (wpList_store_row rfl _ _ _ rfl w.heap.size #[.int .u32 (blkNo s : Int), .slice A2 n2 c2] rfl rfl _ _ hres4 (by kernel_rfl) rfl (by kernel_rfl) ?_)
    have hres6 := setRow_heap _ _ _ (#[.int .u32 (blkNo s : Int), .slice A2 n2 c2] : Array Value) _ _ hres4
    have hb6 := below_setRow hb4 (Nat.le_refl _) (#[.int .u32 (blkNo s : Int), .slice A2 n2 c2] : Array Value)
    have hr6 := rdE_set hr4 hres4 (by decide) (#[.int .u32 (blkNo s : Int), .slice A2 n2 c2] : Array Value)
    have ho6 := ofT_setRow ho4 hres4 (by decide) (#[.int .u32 (blkNo s : Int), .slice A2 n2 c2] : Array Value)
    generalize (w4.setRow w.heap.size #[.int .u32 (blkNo s : Int), .slice A2 n2 c2]) = v5 at *
    have e0 := blk_cell (i := 0) (v := .int .u32 (blkNo s : Int)) hres6 rfl
    have e1 := blk_cell (i := 1) (v := .slice A2 n2 c2) hres6 rfl
    go_wp2
    refine bodyPost_ret (v := .tuple #[.agg #[.int .u32 (blkNo s : Int), .slice A2 n2 c2], .bool (((blkE s : Nat) : Int) == 0)]) (by simp [results, go_sem, e0, e1]) rfl ⟨A2, n2, c2, by rw [HdE.out], hr6, hb6, ho6⟩
  · have hbad := Hbm.out hm
    have hm' : ¬ (b0 : Int) = 76 := by omega
    have hmq : ((b0 : Int) != 76) = true := by simp; omega
    obtain ⟨k1, k2⟩ := blk_bad hbad
    unfold RetAn
    rw [k1, k2, decide_eq_false hbad]
    clear Htk Hbm hbad k1 k2
    go_enter Try.func119, Try.ntmps119
    go_wp2_with (first | (with_reducible refine stop_build0 41 ?_))
    refine go_ ?_
    generalize (w.alloc (.cells #[.int .u32 0, .slice none 0 0] 41)) = w1 at *
    go_wp2_with (first | (with_reducible refine stop_loadT 41 ?_) | (with_reducible refine stop_storeT 41 ?_))
    refine go_ (wpList_store_row rfl _ _ _ rfl w.heap.size #[.int .u32 0, .slice none 0 0] rfl rfl _ _ hres (by kernel_rfl) rfl (by kernel_rfl) ?_)
    have hresZ := setRow_heap _ _ _ (#[.int .u32 0, .slice none 0 0] : Array Value) _ _ hres
    have hbZ := below_setRow hb1 (Nat.le_refl _) (#[.int .u32 0, .slice none 0 0] : Array Value)
    generalize (w1.setRow w.heap.size #[.int .u32 0, .slice none 0 0]) = v5 at *
    have e0 := blk_cell (i := 0) (v := .int .u32 0) hresZ rfl
    have e1 := blk_cell (i := 1) (v := .slice none 0 0) hresZ rfl
    go_wp2
    exact bodyPost_ret (v := .tuple #[.agg #[.int .u32 0, .slice none 0 0], .bool false]) (by simp [results, go_sem, e0, e1]) rfl ⟨none, 0, 0, rfl, rdE_none _ _, hbZ, ofT_none _ _ _ _⟩

theorem at_any (A : Option Addr) (n c B at0 : Nat) (l : List UInt8) (w : World) (h : Rd w B 1 A n c (bv l)) (hB : B ≤ w.heap.size) (hn : at0 + 256 ≤ n) (hn2 : n ≤ 1000000) :
    Calls Try.prog 119 #[.slice A n c, .int .i64 (at0 : Int)] w (RetAt ((l.drop at0).take 256) w) :=
  (at_new A n c B at0 l w h hB hn hn2).mono fun _ _ h => h.any

end Go.Proofs.Ytplgcfjcdjlnbaa

/-
  The document's Recs and Ints walked (printed by gen_resc2.py).
-/
set_option linter.unusedSimpArgs false
set_option linter.unusedVariables false
namespace Go.Proofs.Ytplgcfjcdjlnbaa
open Go.RowKit NumLaw CrcLaw
attribute [local go_sem] Addr.add_mid
attribute [-go_sem] run_eql_struct run_neq_struct

theorem rec_guard37 : Try.prog.eqGuardType Try.prog.depth 25 = false := by kernel_rfl
theorem recp_neq (x y : Nat × List Int) (hx : x.2.length = 12) (hy : y.2.length = 12) (w : World) : (binOp .neq 25 (.agg (rcR x).toArray) (.agg (rcR y).toArray)).run Try.prog w = .ok (.bool (!decide (x = y))) w := by
  rw [show decide (x = y) = decide (x.1 = y.1 ∧ x.2 = y.2) by rw [decide_eq_decide]; exact Prod.ext_iff]
  exact rec_neq x.1 y.1 x.2 y.2 hx hy w
theorem rc_len {p : Nat × List Int} (h : (rcR p).length = 13) : p.2.length = 12 := by
  unfold rcR rcC at h
  rw [List.length_cons, List.length_map] at h
  omega
theorem RdC.v12 {w : World} {B : Nat} {A : Option Addr} {n c : Nat} {R : List (Nat × List Int)} (h : RdC w B A n c R) : ∀ p ∈ R, p.2.length = 12 := fun p hp => rc_len (h.2.1 _ (List.mem_map.2 ⟨p, hp, rfl⟩))
/-- Whole numbers that a slice reads. -/
def RdI (w : World) (B : Nat) (A : Option Addr) (n c : Nat) (L : List Nat) : Prop := RdR w B 1 A n c (L.map fun k : Nat => [Value.int .i64 (k : Int)])
theorem RdI.len {w : World} {B : Nat} {A : Option Addr} {n c : Nat} {L : List Nat} (h : RdI w B A n c L) : L.length = n := by have := h.1; rwa [List.length_map] at this
theorem RdI.at_ {w : World} {B : Nat} {A : Option Addr} {n c : Nat} {L : List Nat} (h : RdI w B A n c L) {k : Nat} (hk : k < n) : ∃ g off x, A = some ⟨g, off, none⟩ ∧ g < B ∧ L[k]? = some x ∧ w.cell? ⟨g, off + k, none⟩ = some (.int .i64 (x : Int)) := by
  obtain ⟨g, off, r, h1, h2, h3, h4, h5⟩ := RdR.at_ h hk
  rw [List.getElem?_map] at h3
  cases hx : L[k]? with
  | none => rw [hx] at h3; cases h3
  | some x =>
    rw [hx] at h3
    injection h3 with h3
    subst h3
    have := h5 0 _ rfl
    rw [Nat.mul_one, Nat.add_zero] at this
    exact ⟨g, off, x, h1, h2, rfl, this⟩
theorem intv_flat (L : List Nat) : (L.map fun k : Nat => [Value.int .i64 (k : Int)]).flatten = L.map fun k : Nat => Value.int .i64 (k : Int) := by
  induction L with
  | nil => rfl
  | cons x L ih => rw [List.map_cons, List.flatten_cons, ih]; rfl
set_option maxRecDepth 10000 in
set_option maxHeartbeats 4000000 in
theorem recs37_any (A : Option Addr) (n c : Nat) (A' : Option Addr) (n' c' : Nat) (L L' : List (Nat × List Int)) (B : Nat) (w : World) (h : RdC w B A n c L) (h' : RdC w B A' n' c' L') (hB : B ≤ w.heap.size) :
    Calls Try.prog 57 #[.slice A n c, .slice A' n' c'] w fun e w' => e = .returned (.bool (decide (L = L'))) ∧ Below w.heap.size w w' := by
  have hl := RdC.len h
  have hl' := RdC.len h'
  have hmx := h.2.2.2.1
  have hle := h.2.2.1
  have hmx' := h'.2.2.2.1
  have hle' := h'.2.2.1
  unfold maxLen at hmx hmx'
  have hv := RdC.v12 h
  have hv' := RdC.v12 h'
  have Hl := Lib.hid hl
  have Hl' := Lib.hid hl'
  have Hv := Lib.hid hv
  have Hv' := Lib.hid hv'
  clear hl hl' hv hv'
  by_cases hn : n = n'
  case neg =>
    have hd : decide (L = L') = false := decide_eq_false (fun e => hn (by rw [← Hl.out, ← Hl'.out, e]))
    have Hd := Lib.hid hd
    have hn' : ¬ (n : Int) = (n' : Int) := by omega
    have hnq : ((n : Int) != (n' : Int)) = true := by simp; omega
    clear hd
    go_enter Try.func57, Try.ntmps57
    go_wp2
    go_ret
    exact ⟨by rw [Hd.out]; rfl, Below.refl _ _⟩
  subst hn
  have qg := rec_guard37
  go_enter Try.func57, Try.ntmps57
  go_wp2_with fail
  go_loopw [5] (fun i wr => ∃ k : Nat, k ≤ n ∧ i = .int .i64 k ∧ Below w.heap.size w wr ∧ Hid (L.take k = L'.take k)) (fun i _ => n - (intOf i).toNat)
  case atStart => exact ⟨0, by omega, rfl, Below.refl _ _, Lib.hid rfl⟩
  case round =>
    obtain ⟨k, hk, rfl, hb, ht⟩ := hrel
    by_cases hlt : k < n
    · have hlt' : (k : Int) < (n : Int) := by omega
      obtain ⟨g, off, x, rfl, hg, hx, hr⟩ := RdC.at_ h hlt
      obtain ⟨g', off', y, rfl, hg', hy, hr'⟩ := RdC.at_ h' hlt
      have HxV := Lib.hid (Hv.out x (List.mem_of_getElem? hx))
      have HyV := Lib.hid (Hv'.out y (List.mem_of_getElem? hy))
      have Hr := Lib.hid (show ∀ wq, Below w.heap.size w wq → wq.rangeAt g (off + k * 13) (rcR x) from fun wq hbq j v hv => (hbq.cell (p := ⟨g, off + k * 13 + j, none⟩) (show g < w.heap.size by omega)).trans (hr j v hv))
      have Hr' := Lib.hid (show ∀ wq, Below w.heap.size w wq → wq.rangeAt g' (off' + k * 13) (rcR y) from fun wq hbq j v hv => (hbq.cell (p := ⟨g', off' + k * 13 + j, none⟩) (show g' < w.heap.size by omega)).trans (hr' j v hv))
      have hq := fun w => recp_neq x y HxV.out HyV.out w
      have Hne := Lib.hid (take_ne hx hy)
      have Htx := Lib.hid (take_succ hx)
      have Hty := Lib.hid (take_succ hy)
      clear hx hy hr hr'
      go_wp2_with fail
      refine Ord.region_ (fun w' => Below w.heap.size w w') false [] (by kernel_rfl) (by kernel_rfl) hb.drew ?_
      replace hb := hb.drew
      generalize wr.drew = wd at *
      ((with_reducible refine Ord.e_p (v := ?_) ?_ ?_ ?_ ?_); rotate_left; (· exact rfl); (· kernel_rfl); (· intro w2; go_simp; try with_reducible rfl))
      (try simp only [Act.put, List.setIfInBounds_toArray, List.set_cons_zero, List.set_cons_succ])
      ((with_reducible refine Ord.e_p (v := ?_) ?_ ?_ ?_ ?_); rotate_left; (· exact rfl); (· kernel_rfl); (· intro w2; go_simp; try with_reducible rfl))
      (try simp only [Act.put, List.setIfInBounds_toArray, List.set_cons_zero, List.set_cons_succ])
      ((with_reducible refine Ord.e_p (v := ?_) ?_ ?_ ?_ ?_); rotate_left; (· exact rfl); (· kernel_rfl); (· intro w2; go_simp; try with_reducible rfl))
      (try simp only [Act.put, List.setIfInBounds_toArray, List.set_cons_zero, List.set_cons_succ])
      refine Ord.e_rowS (cs := rcR x) (b := g) (o := off + k * 13) Try.underlying25 rfl (by rw [show (rcR x).length = 13 from rcC_size _ _ HxV.out]; kernel_rfl) rfl (by unfold rcR rcC; simp) (fun w' hS => Hr.out w' hS) hb (by kernel_rfl) ?_
      (try simp only [Act.put, List.setIfInBounds_toArray, List.set_cons_zero, List.set_cons_succ])
      ((with_reducible refine Ord.e_p (v := ?_) ?_ ?_ ?_ ?_); rotate_left; (· exact rfl); (· kernel_rfl); (· intro w2; go_simp; try with_reducible rfl))
      (try simp only [Act.put, List.setIfInBounds_toArray, List.set_cons_zero, List.set_cons_succ])
      ((with_reducible refine Ord.e_p (v := ?_) ?_ ?_ ?_ ?_); rotate_left; (· exact rfl); (· kernel_rfl); (· intro w2; go_simp; try with_reducible rfl))
      (try simp only [Act.put, List.setIfInBounds_toArray, List.set_cons_zero, List.set_cons_succ])
      ((with_reducible refine Ord.e_p (v := ?_) ?_ ?_ ?_ ?_); rotate_left; (· exact rfl); (· kernel_rfl); (· intro w2; go_simp; try with_reducible rfl))
      (try simp only [Act.put, List.setIfInBounds_toArray, List.set_cons_zero, List.set_cons_succ])
      refine Ord.e_rowS (cs := rcR y) (b := g') (o := off' + k * 13) Try.underlying25 rfl (by rw [show (rcR y).length = 13 from rcC_size _ _ HyV.out]; kernel_rfl) rfl (by unfold rcR rcC; simp) (fun w' hS => Hr'.out w' hS) hb (by kernel_rfl) ?_
      (try simp only [Act.put, List.setIfInBounds_toArray, List.set_cons_zero, List.set_cons_succ])
      ((with_reducible refine Ord.e_p (v := ?_) ?_ ?_ ?_ ?_); rotate_left; (· exact rfl); (· kernel_rfl); (· intro w2; go_simp; try with_reducible rfl))
      (try simp only [Act.put, List.setIfInBounds_toArray, List.set_cons_zero, List.set_cons_succ])
      refine Ord.e_nil ?_
      clear hq
      by_cases hxy : x = y
      · subst hxy
        have hxb : (!decide (x = x)) = false := by simp
        have Ht2 : Hid (L.take (k + 1) = L'.take (k + 1)) := Lib.hid (by rw [Htx.out, Hty.out, ht.out])
        go_wp2
        go_roundw
        case rel => exact ⟨k + 1, by omega, by go_num, hb, Ht2⟩
        case measure => simp [intOf]; omega
      · have hd : decide (L = L') = false := decide_eq_false (Hne.out hxy)
        have Hd := Lib.hid hd
        rw [show (!decide (x = y)) = true by rw [decide_eq_false hxy]; rfl]
        clear hd
        go_wp2
        go_ret
        exact ⟨by rw [Hd.out]; rfl, hb⟩
    · obtain rfl : k = n := by omega
      have hd : decide (L = L') = true := decide_eq_true (by
        have := ht.out
        rwa [List.take_of_length_le (by rw [Hl.out]; exact Nat.le_refl _), List.take_of_length_le (by rw [Hl'.out]; exact Nat.le_refl _)] at this)
      have Hd := Lib.hid hd
      clear hd
      go_wp2
      go_ret
      exact ⟨by rw [Hd.out]; rfl, hb⟩
set_option maxRecDepth 10000 in
set_option maxHeartbeats 4000000 in
theorem ints37_any (A : Option Addr) (n c : Nat) (A' : Option Addr) (n' c' : Nat) (L L' : List Nat) (B : Nat) (w : World) (h : RdI w B A n c L) (h' : RdI w B A' n' c' L') (hB : B ≤ w.heap.size) :
    Calls Try.prog 58 #[.slice A n c, .slice A' n' c'] w fun e w' => e = .returned (.bool (decide (L = L'))) ∧ Below w.heap.size w w' := by
  have hl := RdI.len h
  have hl' := RdI.len h'
  have hmx := h.2.2.2.1
  have hle := h.2.2.1
  have hmx' := h'.2.2.2.1
  have hle' := h'.2.2.1
  unfold maxLen at hmx hmx'
  have Hl := Lib.hid hl
  have Hl' := Lib.hid hl'
  clear hl hl'
  by_cases hn : n = n'
  case neg =>
    have hd : decide (L = L') = false := decide_eq_false (fun e => hn (by rw [← Hl.out, ← Hl'.out, e]))
    have Hd := Lib.hid hd
    have hn' : ¬ (n : Int) = (n' : Int) := by omega
    have hnq : ((n : Int) != (n' : Int)) = true := by simp; omega
    clear hd
    go_enter Try.func58, Try.ntmps58
    go_wp2
    go_ret
    exact ⟨by rw [Hd.out]; rfl, Below.refl _ _⟩
  subst hn
  go_enter Try.func58, Try.ntmps58
  go_wp2_with fail
  go_loopw [5] (fun i wr => ∃ k : Nat, k ≤ n ∧ i = .int .i64 k ∧ Below w.heap.size w wr ∧ Hid (L.take k = L'.take k)) (fun i _ => n - (intOf i).toNat)
  case atStart => exact ⟨0, by omega, rfl, Below.refl _ _, Lib.hid rfl⟩
  case round =>
    obtain ⟨k, hk, rfl, hb, ht⟩ := hrel
    by_cases hlt : k < n
    · have hlt' : (k : Int) < (n : Int) := by omega
      obtain ⟨g, off, x, rfl, hg, hx, hr⟩ := RdI.at_ h hlt
      obtain ⟨g', off', y, rfl, hg', hy, hr'⟩ := RdI.at_ h' hlt
      have Hr := Lib.hid (show ∀ wq, Below w.heap.size w wq → wq.cell? ⟨g, off + k, none⟩ = some (.int .i64 (x : Int)) from fun wq hbq => (hbq.cell (p := ⟨g, off + k, none⟩) (show g < w.heap.size by omega)).trans hr)
      have Hr' := Lib.hid (show ∀ wq, Below w.heap.size w wq → wq.cell? ⟨g', off' + k, none⟩ = some (.int .i64 (y : Int)) from fun wq hbq => (hbq.cell (p := ⟨g', off' + k, none⟩) (show g' < w.heap.size by omega)).trans hr')
      have Hne := Lib.hid (take_ne hx hy)
      have Htx := Lib.hid (take_succ hx)
      have Hty := Lib.hid (take_succ hy)
      clear hx hy hr hr'
      go_wp2_with fail
      refine Ord.region_ (fun w' => Below w.heap.size w w') false [] (by kernel_rfl) (by kernel_rfl) hb.drew ?_
      replace hb := hb.drew
      generalize wr.drew = wd at *
      ((with_reducible refine Ord.e_p (v := ?_) ?_ ?_ ?_ ?_); rotate_left; (· exact rfl); (· kernel_rfl); (· intro w2; go_simp; try with_reducible rfl))
      (try simp only [Act.put, List.setIfInBounds_toArray, List.set_cons_zero, List.set_cons_succ])
      ((with_reducible refine Ord.e_p (v := ?_) ?_ ?_ ?_ ?_); rotate_left; (· exact rfl); (· kernel_rfl); (· intro w2; go_simp; try with_reducible rfl))
      (try simp only [Act.put, List.setIfInBounds_toArray, List.set_cons_zero, List.set_cons_succ])
      ((with_reducible refine Ord.e_p (v := ?_) ?_ ?_ ?_ ?_); rotate_left; (· exact rfl); (· kernel_rfl); (· intro w2; go_simp; try with_reducible rfl))
      (try simp only [Act.put, List.setIfInBounds_toArray, List.set_cons_zero, List.set_cons_succ])
      refine Ord.e_loadS (ad := ⟨g, off + k, none⟩) Try.underlying3 rfl (fun w' hS => Hr.out w' hS) hb rfl (by kernel_rfl) ?_
      (try simp only [Act.put, List.setIfInBounds_toArray, List.set_cons_zero, List.set_cons_succ])
      ((with_reducible refine Ord.e_p (v := ?_) ?_ ?_ ?_ ?_); rotate_left; (· exact rfl); (· kernel_rfl); (· intro w2; go_simp; try with_reducible rfl))
      (try simp only [Act.put, List.setIfInBounds_toArray, List.set_cons_zero, List.set_cons_succ])
      ((with_reducible refine Ord.e_p (v := ?_) ?_ ?_ ?_ ?_); rotate_left; (· exact rfl); (· kernel_rfl); (· intro w2; go_simp; try with_reducible rfl))
      (try simp only [Act.put, List.setIfInBounds_toArray, List.set_cons_zero, List.set_cons_succ])
      ((with_reducible refine Ord.e_p (v := ?_) ?_ ?_ ?_ ?_); rotate_left; (· exact rfl); (· kernel_rfl); (· intro w2; go_simp; try with_reducible rfl))
      (try simp only [Act.put, List.setIfInBounds_toArray, List.set_cons_zero, List.set_cons_succ])
      refine Ord.e_loadS (ad := ⟨g', off' + k, none⟩) Try.underlying3 rfl (fun w' hS => Hr'.out w' hS) hb rfl (by kernel_rfl) ?_
      (try simp only [Act.put, List.setIfInBounds_toArray, List.set_cons_zero, List.set_cons_succ])
      ((with_reducible refine Ord.e_p (v := ?_) ?_ ?_ ?_ ?_); rotate_left; (· exact rfl); (· kernel_rfl); (· intro w2; go_simp; try with_reducible rfl))
      (try simp only [Act.put, List.setIfInBounds_toArray, List.set_cons_zero, List.set_cons_succ])
      refine Ord.e_nil ?_
      by_cases hxy : x = y
      · subst hxy
        have hxb : ((x : Int) != (x : Int)) = false := by simp
        have Ht2 : Hid (L.take (k + 1) = L'.take (k + 1)) := Lib.hid (by rw [Htx.out, Hty.out, ht.out])
        go_wp2
        go_roundw
        case rel => exact ⟨k + 1, by omega, by go_num, hb, Ht2⟩
        case measure => simp [intOf]; omega
      · have hd : decide (L = L') = false := decide_eq_false (Hne.out hxy)
        have Hd := Lib.hid hd
        have hxb : ((x : Int) != (y : Int)) = true := by simp; omega
        clear hd
        go_wp2
        go_ret
        exact ⟨by rw [Hd.out]; rfl, hb⟩
    · obtain rfl : k = n := by omega
      have hd : decide (L = L') = true := decide_eq_true (by
        have := ht.out
        rwa [List.take_of_length_le (by rw [Hl.out]; exact Nat.le_refl _), List.take_of_length_le (by rw [Hl'.out]; exact Nat.le_refl _)] at this)
      have Hd := Lib.hid hd
      clear hd
      go_wp2
      go_ret
      exact ⟨by rw [Hd.out]; rfl, hb⟩

end Go.Proofs.Ytplgcfjcdjlnbaa

/-
  The plain law of Read; the document's Read walked (printed by gen_resc3.py).
-/
set_option linter.unusedSimpArgs false
set_option linter.unusedVariables false
namespace Go.Proofs.Ytplgcfjcdjlnbaa
open Go.RowKit NumLaw CrcLaw
attribute [local go_sem] Addr.add_mid

/-- The page of a number. -/
def pgR (l : List UInt8) (i : Nat) : List UInt8 := (l.drop (256 * i)).take 256
def goodR (s : List UInt8) (k : Nat) : Prop := blkE s = 0 ∧ blkNo s = k
instance (s : List UInt8) (k : Nat) : Decidable (goodR s k) := by unfold goodR; infer_instance
def rdStep (r : List (Nat × List Int) × List Nat) (k : Nat) (s : List UInt8) : List (Nat × List Int) × List Nat := if goodR s k then (r.1 ++ (blkL s).map recE, r.2) else (r.1, r.2 ++ [k])
def readS (l : List UInt8) : Nat → List (Nat × List Int) × List Nat
  | 0 => ([], [])
  | k + 1 => rdStep (readS l k) k (pgR l k)
def intR (L : List Nat) : List (List Value) := L.map fun k : Nat => [Value.int .i64 (k : Int)]
theorem intR_one (L : List Nat) : ∀ r ∈ intR L, r.length = 1 := fun r hr => by obtain ⟨k, _, rfl⟩ := List.mem_map.1 hr; rfl
theorem int_info37 : (Try.prog.info? 3).map (fun i => (i.zero, i.size, i.bytes)) = some (some (.int .i64 0), 1, 8) := by kernel_rfl
def RetRd (p : List (Nat × List Int) × List Nat) (w : World) (e : Ending) (w' : World) : Prop :=
  ∃ (A : Option Addr) (n c : Nat) (A' : Option Addr) (n' c' : Nat), e = .returned (.tuple #[.slice A n c, .slice A' n' c']) ∧ RdC w' w'.heap.size A n c p.1 ∧ RdI w' w'.heap.size A' n' c' p.2 ∧ Below w.heap.size w w'
theorem blk_q {s : List UInt8} : (∀ p ∈ (blkL s).map recE, p.2.length = 12) ∧ (blkL s).length ≤ 255 := by
  by_cases h : blkE s = 0
  · obtain ⟨_, _, _, h4, h5⟩ := blk_back h
    exact ⟨fun p hp => by obtain ⟨x, hx, rfl⟩ := List.mem_map.1 hp; exact (h4 x hx).2.1, h5⟩
  · rw [(blk_bad h).2]
    exact ⟨by simp, by simp⟩
theorem readS_12 (l : List UInt8) : ∀ k, ∀ p ∈ (readS l k).1, p.2.length = 12
  | 0, p, hp => by cases hp
  | k + 1, p, hp => by
    unfold readS rdStep at hp
    split at hp
    · rcases List.mem_append.1 hp with h | h
      · exact readS_12 l k p h
      · exact blk_q.1 p h
    · exact readS_12 l k p hp
theorem readS_good {l : List UInt8} {k : Nat} (h : goodR (pgR l k) k) : readS l (k + 1) = ((readS l k).1 ++ (blkL (pgR l k)).map recE, (readS l k).2) := by
  show rdStep _ _ _ = _
  unfold rdStep
  rw [if_pos h]
theorem readS_bad {l : List UInt8} {k : Nat} (h : ¬ goodR (pgR l k) k) : readS l (k + 1) = ((readS l k).1, (readS l k).2 ++ [k]) := by
  show rdStep _ _ _ = _
  unfold rdStep
  rw [if_neg h]
theorem rcR_one (R : List (Nat × List Int)) : ∀ u ∈ (R.map rcR).flatten, u.oneCell' = true := fun u hu => by
  obtain ⟨r, hr, hu⟩ := List.mem_flatten.1 hu
  obtain ⟨p, _, rfl⟩ := List.mem_map.1 hr
  exact rcC_one _ _ u hu
def Dis (v v' : Value) : Prop := ∀ j, v.ownBlock = some j → v'.ownBlock = some j → False
set_option maxRecDepth 10000 in
set_option maxHeartbeats 8000000 in
theorem qread37_any (A : Option Addr) (n c B : Nat) (l : List UInt8) (w : World) (h : Rd w B 1 A n c (bv l)) (hB : B ≤ w.heap.size) (hn : n ≤ 100000) :
    Calls Try.prog 56 #[.slice A n c] w (RetRd (readS l (n / 256)) w) := by
  have hlb := h.blen
  have hle := h.le
  have hmx := h.max
  unfold maxLen at hmx
  obtain ⟨i0, hi⟩ := info_parts u8_info
  obtain ⟨i1, hi1⟩ := info_parts rec_info37
  obtain ⟨i2, hi2⟩ := info_parts int_info37
  have Hi := Lib.hid hi
  have Hi1 := Lib.hid hi1
  have Hi2 := Lib.hid hi2
  have Hlb := Lib.hid hlb
  obtain ⟨N, hN⟩ : ∃ v, v = n / 256 := ⟨_, rfl⟩
  have hNn : 256 * N ≤ n ∧ n < 256 * N + 256 := by omega
  have hdv : IntKind.i64.wrap ((n : Int).tdiv 256) = (N : Int) := by
    rw [Int.tdiv_eq_ediv_of_nonneg (by omega), IntWalk.i64_in _ (by omega)]
    omega
  rw [← hN]
  clear hlb hi hi1 hi2 hN
  go_enter Try.func56, Try.ntmps56
  go_wp2_with fail
  go_loopw [4, 5, 6] (fun o b i wr => ∃ (k n3 c3 n4 c4 : Nat) (A3 A4 : Option Addr), k ≤ N ∧ o = .slice A3 n3 c3 ∧ b = .slice A4 n4 c4 ∧ i = .int .i64 k ∧ n3 ≤ 255 * k ∧ n4 ≤ k ∧ Below w.heap.size w wr ∧ wr.ownsRow w.heap.size 25 13 (.slice A3 n3 c3) n3 ((readS l k).1.map rcR).flatten ∧ wr.ownsRow w.heap.size 3 1 (.slice A4 n4 c4) n4 (intR (readS l k).2).flatten ∧ Hid (Dis (.slice A3 n3 c3) (.slice A4 n4 c4)) ∧ Hid ((readS l k).1.length = n3 ∧ (readS l k).2.length = n4)) (fun _ _ i _ => N - (intOf i).toNat)
  case atStart => exact ⟨0, 0, 0, 0, 0, none, none, by omega, rfl, rfl, rfl, by omega, by omega, Below.refl _ _, World.ownsRow_nil _ _ _ _, World.ownsRow_nil _ _ _ _, Lib.hid (fun j hj => by cases hj), Lib.hid ⟨rfl, rfl⟩⟩
  case round =>
    obtain ⟨k, n3, c3, n4, c4, A3, A4, hk, rfl, rfl, rfl, hn3, hn4, hb, own3, own4, Hdis, Hlen⟩ := hrel
    by_cases hlt : k < N
    · have hlt' : (k : Int) < (N : Int) := by omega
      have hwk : IntKind.i64.wrap (256 * (k : Int)) = 256 * (k : Int) := IntWalk.i64_in _ (by omega)
      have hwk2 : IntKind.i64.wrap (256 * (k : Int) + 256) = 256 * (k : Int) + 256 := IntWalk.i64_in _ (by omega)
      have hr := h.up (hb.mono hB)
      have hpg : Rd wr B 1 (cutA A c (256 * k) 1) 256 (c - 256 * k) (bv (pgR l k)) := (hr.bdrop (k := 256 * k) (by omega)).btake (k := 256) (by omega)
      have hsl : (pgR l k).length = 256 := by unfold pgR; rw [List.length_take, List.length_drop, Hlb.out]; omega
      have Hg := Lib.hid (@readS_good l k)
      have Hbd := Lib.hid (@readS_bad l k)
      have htk := qblkTake_any (cutA A c (256 * k) 1) 256 (c - 256 * k) B (pgR l k) wr hpg (Nat.le_trans hB hb.size) (by omega)
      have Htk := Lib.hid htk
      have HdE : Hid ((((blkE (pgR l k) : Nat) : Int) != 0) = !decide (blkE (pgR l k) = 0)) := Lib.hid (by rw [Bool.eq_iff_iff]; simp)
      have hno32 : blkNo (pgR l k) < 4294967296 := by
        by_cases he : blkE (pgR l k) = 0
        · exact (blk_back he).2.2.1
        · rw [(blk_bad he).1]; omega
      have hcut : ∀ w, (Instr.slice 26 (.slice A n c) (some (.int .i64 (256 * (k : Int)))) (some (.int .i64 (256 * (k : Int) + 256))) none).run Try.prog w = .ok (.slice (cutA A c (256 * k) 1) 256 (c - 256 * k)) w := fun w => by
        have := run_cut_lh (P := Try.prog) Try.underlying26 Hi.out.1 Hi.out.2.2.1 A n c (256 * k) (256 * k + 256) (by omega) (by omega) w
        rwa [show ((256 * k : Nat) : Int) = 256 * (k : Int) by omega, show ((256 * k + 256 : Nat) : Int) = 256 * (k : Int) + 256 by omega, show 256 * k + 256 - 256 * k = 256 by omega] at this
      generalize pgR l k = s at *
      clear hr hpg htk
      go_wp2_with fail
      go_fit Htk.out
      unfold RetTBk
      rintro e w2 ⟨A2, n2, c2, rfl, hr2, hbx⟩
      have hb2 := bnx hb hbx
      replace own3 := own_up own3 hbx (Nat.le_refl _)
      replace own4 := own_up own4 hbx (Nat.le_refl _)
      have hbn : Below w2.heap.size w2 (w2.alloc (.cells #[.int .u32 0, .slice none 0 0] 41)) := (Below.refl _ _).alloc (Nat.le_refl _) _
      have hx3 := heap_alloc_new w2 (.cells #[.int .u32 0, .slice none 0 0] 41)
      have own3' := own_up own3 hbn (Nat.le_refl _)
      have own4' := own_up own4 hbn (Nat.le_refl _)
      have hlw2 : w.heap.size ≤ w2.heap.size := hb2.size
      have H3 := Lib.hid own3
      have H4 := Lib.hid own4
      have Hr2 := Lib.hid hr2
      clear hcut Htk hbx hb own3 own4 hr2
      obtain ⟨no, hno⟩ : ∃ v, v = blkNo s := ⟨_, rfl⟩
      rw [← hno] at hno32 ⊢
      have Hno := Lib.hid hno
      clear hno
      obtain ⟨ee, hee⟩ : ∃ v, v = blkE s := ⟨_, rfl⟩
      rw [← hee] at HdE ⊢
      have Hee := Lib.hid hee
      clear hee
      go_wp2_with (first | (with_reducible refine stop_loadT 41 ?_) | (with_reducible refine stop_storeT 41 ?_))
      refine go_ (wpList_store_row rfl _ _ _ rfl w2.heap.size #[.int .u32 (no : Int), .slice A2 n2 c2] rfl rfl _ _ hx3 (by kernel_rfl) rfl (by kernel_rfl) ?_)
      have hx4 := setRow_heap _ _ _ (#[.int .u32 (no : Int), .slice A2 n2 c2] : Array Value) _ _ hx3
      have haw := aw_setRow35 (w := w2.alloc (.cells #[.int .u32 0, .slice none 0 0] 41)) w2.heap.size (#[.int .u32 (no : Int), .slice A2 n2 c2] : Array Value)
      have hb4 := bnx hb2 (below_setRow ((Below.refl w2.heap.size w2).alloc (Nat.le_refl _) (.cells #[.int .u32 0, .slice none 0 0] 41)) (Nat.le_refl _) (#[.int .u32 (no : Int), .slice A2 n2 c2] : Array Value))
      have own34 := own_aw own3' haw (fun j hj hu => by have := (own_blk H3.out hj).2; omega)
      have own44 := own_aw own4' haw (fun j hj hu => by have := (own_blk H4.out hj).2; omega)
      have hr4 := own_rdE Hr2.out (below_setRow ((Below.refl w2.heap.size w2).alloc (Nat.le_refl _) (.cells #[.int .u32 0, .slice none 0 0] 41)) (Nat.le_refl _) (#[.int .u32 (no : Int), .slice A2 n2 c2] : Array Value))
      have hlt3 : ∀ j, (Value.slice A3 n3 c3).ownBlock = some j → w.heap.size ≤ j ∧ j < w2.heap.size := fun j hj => own_blk H3.out hj
      have hlt4 : ∀ j, (Value.slice A4 n4 c4).ownBlock = some j → w.heap.size ≤ j ∧ j < w2.heap.size := fun j hj => own_blk H4.out hj
      clear hx3 haw own3' own4' H3 H4 Hr2 hb2
      generalize ((w2.alloc (.cells #[.int .u32 0, .slice none 0 0] 41)).setRow w2.heap.size #[.int .u32 (no : Int), .slice A2 n2 c2]) = w4 at *
      generalize w2.heap.size = gx at *
      have c0 : w4.cell? ⟨gx, 0, none⟩ = some (.int .u32 (no : Int)) := blk_cell hx4 rfl
      have hwn : IntKind.u64.wrap (no : Int) = (no : Int) := by rw [IntKind.wrap_u64]; omega
      have hwi : IntKind.u64.wrap (k : Int) = (k : Int) := by rw [IntKind.wrap_u64]; omega
      by_cases hg : ee = 0 ∧ no = k
      · obtain ⟨rfl, rfl⟩ := hg
        have hnn : ((no : Int) != (no : Int)) = false := by simp
        have hG := Hg.out ⟨Hee.out.symm, Hno.out.symm⟩
        have HG := Lib.hid hG
        have Hq := Lib.hid (blk_q (s := s))
        have hgl := blk_lt hx4
        clear hG hlt' Hg Hbd
        go_wp2_with (first | (with_reducible refine stop_loadT 41 ?_) | (with_reducible refine stop_storeT 41 ?_))
        refine go_ (wpList_load_row rfl _ _ rfl gx rfl _ _ _ _ hx4 Try.underlying41 rfl (by kernel_rfl) ?_)
        go_wp2_with fail
        have hnE := RdE.len hr4
        have hn255 : n2 ≤ 255 := by rw [← hnE]; exact Hq.out.2
        go_fit (qrecords_any no A2 n2 c2 w4.heap.size (blkL s) w4 hr4 (Nat.le_refl _) (by omega))
        unfold RetRs
        rintro e w5 ⟨A5, n5, c5, rfl, hn5, own5, hb5⟩
        rw [List.length_map, hnE] at hn5
        subst hn5
        have own35 := own_up own34 hb5 (Nat.le_refl _)
        have own45 := own_up own44 hb5 (Nat.le_refl _)
        have hbb := bnx hb4 hb5
        have hrc5 := RdC.own own5 (by rw [List.length_map, hnE]) Hq.out.1
        have Hflat := Lib.hid (show ((readS l no).1.map rcR).flatten ++ (((blkL s).map recE).map rcR).flatten = ((readS l (no + 1)).1.map rcR).flatten by rw [HG.out, List.map_append, List.flatten_append])
        have Hl5 := Lib.hid (show (readS l (no + 1)).1.length = n3 + n5 ∧ (readS l (no + 1)).2.length = n4 by rw [HG.out]; exact ⟨by rw [List.length_append, Hlen.out.1, List.length_map, hnE], Hlen.out.2⟩)
        have H2 := Lib.hid (show (readS l (no + 1)).2 = (readS l no).2 by rw [HG.out])
        clear hnE c0 hx4 hr4 own34 own44 hb4 hwn hwi
        go_wp2_with (at_builtin; refine stop_ ?_)
        refine go_ (wpList_appG (base := w.heap.size) (n := n3) Try.underlying58 Hi1.out (by kernel_rfl) (by omega) own35 rfl (RdR.rd hrc5 (by omega)) rfl (rcR_one _) (k := n3 + n5) rfl Hflat.out (by unfold maxLen; omega) (by omega) hbb.size ?_)
        intro A7 c7 w7 own7 hgr hob
        have own47 := own_aw own45 (Aw.of_grown hgr) (fun j hj hu => Hdis.out j hu hj)
        have hb7 := Below.grown hbb hgr hbb.size (fun j hj => by have := hlt3 j hj; omega)
        have Hd7 := Lib.hid (show Dis (.slice A7 (n3 + n5) c7) (.slice A4 n4 c4) from fun j h1 h2 => by
          rcases hob with h3 | h3
          · exact Hdis.out j (h3.symm.trans h1) h2
          · have h4 := h3.symm.trans h1
            injection h4 with h4
            have := hlt4 j h2
            have := hb5.size
            omega)
        rw [← H2.out] at own47
        clear hgr hob own35 own45 own5 hrc5 hbb hb5
        go_wp2
        go_roundw
        case rel => exact ⟨no + 1, n3 + n5, c7, n4, c4, A7, A4, by omega, rfl, rfl, by go_num, by omega, by omega, hb7, own7, own47, Hd7, Hl5⟩
        case measure => simp [intOf]; omega
      · have hB0 := Hbd.out (fun hgg => hg ⟨Hee.out.trans hgg.1, Hno.out.trans hgg.2⟩)
        have HB0 := Lib.hid hB0
        have hbig : (if ee = 0 then ((no : Int) != (k : Int)) else true) = true := by
          by_cases he : ee = 0
          · rw [if_pos he]; simp; exact fun h => hg ⟨he, by omega⟩
          · rw [if_neg he]
        have Hflat := Lib.hid (show (intR (readS l k).2).flatten ++ [Value.int .i64 (k : Int)] = (intR (readS l (k + 1)).2).flatten by rw [HB0.out]; unfold intR; rw [List.map_append, List.flatten_append]; rfl)
        have Hl5 := Lib.hid (show (readS l (k + 1)).1.length = n3 ∧ (readS l (k + 1)).2.length = n4 + 1 by rw [HB0.out]; exact ⟨Hlen.out.1, by rw [List.length_append, Hlen.out.2]; rfl⟩)
        have H2 := Lib.hid (show (readS l (k + 1)).1 = (readS l k).1 by rw [HB0.out])
        have hbn := (Below.refl w4.heap.size w4).alloc (Nat.le_refl _) (.cells #[.int .i64 (k : Int)] 3)
        have hrd := rd_litG w4 3 [.int .i64 (k : Int)] (by simp [maxLen])
        have own35 := own_up own34 hbn (Nat.le_refl _)
        have own45 := own_up own44 hbn (Nat.le_refl _)
        have hbb := bnx hb4 hbn
        have hgl := blk_lt hx4
        have hsz := hbn.size
        clear hB0 Hg Hbd hr4 hbn
        by_cases he : ee = 0
        · subst he
          have hne : ¬ (no : Int) = (k : Int) := fun h => hg ⟨rfl, by omega⟩
          have hnn : ((no : Int) != (k : Int)) = true := by simp; omega
          clear hbig
          go_wp2_with (at_builtin; refine stop_ ?_)
          generalize (w4.alloc (.cells #[.int .i64 (k : Int)] 3)) = w5 at *
          refine go_ (wpList_appG (base := w.heap.size) (n := n4) Try.underlying80 Hi2.out (by kernel_rfl) (by omega) own45 rfl hrd rfl (by intro u hu; rw [List.mem_singleton.1 hu]; rfl) (k := n4 + 1) rfl Hflat.out (by unfold maxLen; omega) (by omega) hbb.size ?_)
          intro A7 c7 w7 own7 hgr hob
          have own37 := own_aw own35 (Aw.of_grown hgr) (fun j hj hu => Hdis.out j hj hu)
          have hb7 := Below.grown hbb hgr hbb.size (fun j hj => by have := hlt4 j hj; omega)
          have Hd7 := Lib.hid (show Dis (.slice A3 n3 c3) (.slice A7 (n4 + 1) c7) from fun j h1 h2 => by
            rcases hob with h3 | h3
            · exact Hdis.out j h1 (h3.symm.trans h2)
            · have h4 := h3.symm.trans h2
              injection h4 with h4
              have := hlt3 j h1
              omega)
          rw [← H2.out] at own37
          clear hgr hob own35 own45 hrd hbb c0 hx4 hwn hwi
          go_wp2
          go_roundw
          case rel => exact ⟨k + 1, n3, c3, n4 + 1, c7, A3, A7, by omega, rfl, rfl, by go_num, by omega, by omega, hb7, own37, own7, Hd7, Hl5⟩
          case measure => simp [intOf]; omega
        · have hne : ¬ (ee : Int) = 0 := by omega
          have hnn : ((ee : Int) != 0) = true := by simp; omega
          clear hbig
          go_wp2_with (at_builtin; refine stop_ ?_)
          generalize (w4.alloc (.cells #[.int .i64 (k : Int)] 3)) = w5 at *
          refine go_ (wpList_appG (base := w.heap.size) (n := n4) Try.underlying80 Hi2.out (by kernel_rfl) (by omega) own45 rfl hrd rfl (by intro u hu; rw [List.mem_singleton.1 hu]; rfl) (k := n4 + 1) rfl Hflat.out (by unfold maxLen; omega) (by omega) hbb.size ?_)
          intro A7 c7 w7 own7 hgr hob
          have own37 := own_aw own35 (Aw.of_grown hgr) (fun j hj hu => Hdis.out j hj hu)
          have hb7 := Below.grown hbb hgr hbb.size (fun j hj => by have := hlt4 j hj; omega)
          have Hd7 := Lib.hid (show Dis (.slice A3 n3 c3) (.slice A7 (n4 + 1) c7) from fun j h1 h2 => by
            rcases hob with h3 | h3
            · exact Hdis.out j h1 (h3.symm.trans h2)
            · have h4 := h3.symm.trans h2
              injection h4 with h4
              have := hlt3 j h1
              omega)
          rw [← H2.out] at own37
          clear hgr hob own35 own45 hrd hbb c0 hx4 hwn hwi
          go_wp2
          go_roundw
          case rel => exact ⟨k + 1, n3, c3, n4 + 1, c7, A3, A7, by omega, rfl, rfl, by go_num, by omega, by omega, hb7, own37, own7, Hd7, Hl5⟩
          case measure => simp [intOf]; omega
    · obtain rfl : k = N := by omega
      have hrc := RdC.own own3 Hlen.out.1 (readS_12 l k)
      have hri : RdI wr wr.heap.size A4 n4 c4 (readS l k).2 := RdR.own (ls := intR (readS l k).2) own4 (by unfold intR; rw [List.length_map]; exact Hlen.out.2) (intR_one _)
      clear own3 own4
      go_wp2
      go_ret2
      exact ⟨A3, n3, c3, A4, n4, c4, rfl, hrc, hri, hb⟩

end Go.Proofs.Ytplgcfjcdjlnbaa

/-
  A range over a function whose iterator makes memory, what is assigned ahead of a round may make memory too (turned from RangeR).
-/
set_option linter.unusedSimpArgs false
set_option linter.unusedVariables false
namespace Go.Proofs.Ytplgcfjcdjlnbaa
open Go.RowKit

theorem rangeFunc_R2 {P : Program} {n : Nat} {α : Type} {g : Operand} {ps : Array Tmp} {assign body : Code} {Q : Exit → Act → World → Prop} {a : Act} {w : World}
    {gf : Nat} {lb : Array Value} (hg : a.eval g = .func (.func gf) #[] lb) (eg : ∀ args w, (callFunc gf args).run P w = .ok (.enter gf args) w)
    {E : α → Array Value → World → Prop} {K U : Nat → Prop} {xs : List α} {W0 : World → Prop} (hseq : SeqR P (n - 1) gf lb E K U xs W0) (hW0 : ∀ W, Aw (fun _ => False) w W → w.heap.size + 2 ≤ W.heap.size → W0 W) (hps : ∀ x vs W, E x vs W → vs.size = ps.size) {F : α → Act → World → Prop} (hF : ∀ x a A B, F x a A → (∃ o, A.heap[w.heap.size]? = some (.deferred o)) → (∃ o, A.heap[w.heap.size + 1]? = some (.loop o)) → Aw (fun k => k = w.heap.size ∨ k = w.heap.size + 1) A B → F x a B) (hU : ∀ k, U k → k < w.heap.size)
    (hK : ∀ k, K k → k < w.heap.size)
    (I : List α → World → Prop) (Ix : Code → List α → World → Prop) (hI : ∀ pre A B, I pre A → Aw (fun k => U k ∨ k = w.heap.size ∨ k = w.heap.size + 1) A B → I pre B) (hIx : ∀ c pre A B, Ix c pre A → Aw (fun k => U k ∨ k = w.heap.size ∨ k = w.heap.size + 1) A B → Ix c pre B)
    (h0 : I [] w)
    (hassign : ∀ (l : Nat) (x : α) (vs : Array Value) (W : World) (K : Act → World → Prop), E x vs W → (∀ a W', Aw (fun _ => False) W W' → F x a W' → K a W') →
      assign.wpIn (Fence.wide.inRound l) (n - 1 - 1) P (Exit.then K (fun _ _ _ => False)) { tmps := (ps.zip vs).foldl (fun t (p, v) => t.setIfInBounds p v) a.tmps, defers := [] } W)
    (hbody : ∀ (pre : List α) (x : α) (a : Act) (W : World), I pre W → F x a W → (pre ++ [x]) <+: xs → w.heap.size + 2 ≤ W.heap.size → body.wpIn (Fence.wide.inRound (w.heap.size + 1)) (n - 1 - 1) P (postW K w.heap.size I Ix (pre ++ [x]) W) a W)
    (hdone : ∀ (W : World), I xs W → W.heap[w.heap.size]? = some (.deferred (some [])) → Q .normal { a with defers := { target := .collected w.heap.size, args := #[] } :: a.defers } W)
    (hstop : ∀ (c : Code) (pre : List α) (W : World), pre <+: xs → Ix c pre W → W.heap[w.heap.size]? = some (.deferred (some [])) → c.wpIn Fence.wide n P Q { a with defers := { target := .collected w.heap.size, args := #[] } :: a.defers } W) :
    (Code.rangeFunc g ps assign body).wpIn Fence.wide n P Q a w := by
  refine wpIn_rangeFunc ?_
  intro fn _
  rw [show Fence.wide.round = none from rfl]
  obtain ⟨rec, hrec⟩ : ∃ rec : LoopState → Option Code → Loop, rec = fun st pe => { state := st, pending := pe, fn, tmps := a.tmps, params := ps, assign, body, defers := w.heap.size } := ⟨_, rfl⟩
  obtain ⟨W1, hW1⟩ : ∃ W1, (w.alloc (.deferred (some []))).alloc (.loop (rec .ready none)) = W1 := ⟨_, rfl⟩
  have hL1 : W1.heap[w.heap.size + 1]? = some (.loop (rec .ready none)) := by
    rw [← hW1]; have := World.alloc_heap_new (w.alloc (.deferred (some []))) (.loop (rec .ready none)); rwa [World.size_alloc] at this
  have hK1 : W1.heap[w.heap.size]? = some (.deferred (some [])) := by
    rw [← hW1]; exact (Below.heap_alloc _ _ _ (by simp)).trans (World.alloc_heap_new w _)
  have hA1 : ∀ V : Nat → Prop, Aw V w W1 := fun V => by rw [← hW1]; exact ((Aw.refl V w).alloc _).alloc _
  have hI1 : I [] W1 := hI _ _ _ h0 (hA1 _)
  have hUD : ¬ U w.heap.size := fun h => absurd (hU _ h) (Nat.lt_irrefl _)
  have hUL : ¬ U (w.heap.size + 1) := fun h => absurd (hU _ h) (by omega)
  refine ⟨w.heap.size + 1, [{ target := .collected w.heap.size, args := #[] }], W1, { target := .fn (.func gf) lb, args := #[.func (.yield (w.heap.size + 1)) #[] #[]] }, W1, gf,
    #[.func (.yield (w.heap.size + 1)) #[] #[]] ++ lb, W1, ?_, ?_, ?_, ?_, ?_, ?_⟩
  · rw [← hW1, hrec]; exact run_enterLoop_outer _ _ _ _ _
  · simp only [resolve, hg]
    simp [go_sem]
  · intro f' hf'; exact trivial
  · simp [invoke, go_sem, eg]
  · intro hd; simp [Fence.wide] at hd
  · refine (hseq (w.heap.size + 1)
      (fun pre W => I pre W ∧ W.heap[w.heap.size + 1]? = some (.loop (rec .ready none)) ∧ W.heap[w.heap.size]? = some (.deferred (some [])))
      (fun pre W => ∃ c, Ix c pre W ∧ W.heap[w.heap.size + 1]? = some (.loop (rec .done (some c))) ∧ W.heap[w.heap.size]? = some (.deferred (some [])))
      W1 (hW0 _ (hA1 _) (by have := (Array.getElem?_eq_some_iff.1 hL1).1; omega))
      (fun pre A B hs ha => ⟨hI _ _ _ hs.1 (ha.mono fun k hk => .inl hk), ha.keep hs.2.1 hUL, ha.keep hs.2.2 hUD⟩)
      (fun pre A B hs ha => by
        obtain ⟨c, hc, hl, hk⟩ := hs
        exact ⟨c, hIx _ _ _ _ hc (ha.mono fun k hk => .inl hk), ha.keep hl hUL, ha.keep hk hUD⟩)
      ?_ ⟨hI1, hL1, hK1⟩).mono ?_
    · rintro pre x vs W ⟨hi, hl, hk⟩ hpre hex
      have hlt : w.heap.size + 1 < W.heap.size := (Array.getElem?_eq_some_iff.1 hl).1
      have hy := run_yield (P := P) (args := vs) hl (by rw [hrec]; exact hps x vs W hex)
      rw [hrec] at hy
      refine ⟨fn, _, assign, body, hy, roundIn_of_wpIn trivial (hassign _ x vs W _ hex (fun a1 Wa hwa hfa => ⟨_, run_beginRound (hwa.keep hl (fun h => h)) (by rw [hrec]), ?_⟩))⟩
      have hla := hwa.keep hl (fun h => h)
      have hka := hwa.keep hk (fun h => h)
      have hlta : w.heap.size + 1 < Wa.heap.size := Nat.lt_of_lt_of_le hlt hwa.size
      obtain ⟨W2, hW2⟩ : ∃ W2, W2 = Wa.putObj (w.heap.size + 1) (.loop { rec .ready none with state := .busy }) := ⟨_, rfl⟩
      rw [← hW2]
      have hl2 : W2.heap[w.heap.size + 1]? = some (.loop { rec .ready none with state := .busy }) := by rw [hW2]; exact World.putObj_heap_same hlta
      have hk2 : W2.heap[w.heap.size]? = some (.deferred (some [])) := by rw [hW2]; exact (World.putObj_heap_other (by omega)).trans hka
      have ha2a : Aw (fun k => k = w.heap.size + 1) Wa W2 := by rw [hW2]; exact (Aw.refl _ Wa).put _ rfl
      have ha2 : Aw (fun k => k = w.heap.size + 1) W W2 := (hwa.mono (fun k h => h.elim)).trans ha2a
      refine wpIn_mono (hbody pre x a1 _ (hI _ _ _ hi (ha2.mono fun k hk => .inr (.inr hk))) (hF _ _ _ _ hfa ⟨_, hka⟩ ⟨_, hla⟩ (ha2a.mono fun k hk => .inr hk)) hpre (by have := ha2.size; omega)) ?_
      have fin : ∀ (jump : Option Code) (W3 : World), Keeps (fun k => k = w.heap.size ∨ k = w.heap.size + 1) W2 W3 →
          (Instr.endRound (w.heap.size + 1) jump).run P W3 = .ok (.bool jump.isNone) (W3.putObj (w.heap.size + 1) (.loop (rec (if jump.isNone then .ready else .done) jump))) ∧
          (W3.putObj (w.heap.size + 1) (.loop (rec (if jump.isNone then .ready else .done) jump))).heap[w.heap.size + 1]? = some (.loop (rec (if jump.isNone then .ready else .done) jump)) ∧
          (W3.putObj (w.heap.size + 1) (.loop (rec (if jump.isNone then .ready else .done) jump))).heap[w.heap.size]? = some (.deferred (some [])) := fun jump W3 hk3 => by
        have hl3 := hk3.2 _ _ (.inr rfl) hl2
        have := run_endRound (P := P) jump hl3
        rw [hrec] at this ⊢
        exact ⟨this, World.putObj_heap_same (Array.getElem?_eq_some_iff.1 hl3).1, (World.putObj_heap_other (by omega)).trans (hk3.2 _ _ (.inl rfl) hk2)⟩
      have aw3 : ∀ (W3 : World) (o : Obj), Aw (fun k => U k ∨ k = w.heap.size ∨ k = w.heap.size + 1) W3 (W3.putObj (w.heap.size + 1) o) := fun W3 o => (Aw.refl _ W3).put o (.inr (.inr rfl))
      rintro e a3 W3 hp
      cases e with
      | normal =>
        obtain ⟨hk3, hi3⟩ := hp
        obtain ⟨hr, hl4, hk4⟩ := fin none W3 (hk3.mono fun k hk => .inr hk)
        refine ⟨_, _, hr, .inl ⟨rfl, ⟨hI _ _ _ hi3 (aw3 W3 _), hl4, hk4⟩, ?_, fun k o hu ho => ?_⟩⟩
        · rw [World.putObj_size]; exact Nat.le_trans ha2.size hk3.1
        · have hne : k ≠ w.heap.size + 1 := fun e => by have := hK k hu; omega
          exact (World.putObj_heap_other hne).trans (hk3.2 k o (.inl hu) (ha2.keep ho hne))
      | ret =>
        obtain ⟨hk3, hi3⟩ := hp
        obtain ⟨hr, hl4, hk4⟩ := fin (some .ret) W3 hk3
        exact ⟨_, _, hr, .inr ⟨rfl, .ret, hIx _ _ _ _ hi3 (aw3 W3 _), hl4, hk4⟩⟩
      | exit id =>
        obtain ⟨hk3, hi3⟩ := hp
        obtain ⟨hr, hl4, hk4⟩ := fin (some (.exit id)) W3 hk3
        exact ⟨_, _, hr, .inr ⟨rfl, .exit id, hIx _ _ _ _ hi3 (aw3 W3 _), hl4, hk4⟩⟩
      | goto t =>
        obtain ⟨hk3, hi3⟩ := hp
        obtain ⟨hr, hl4, hk4⟩ := fin (some (.goto t)) W3 hk3
        exact ⟨_, _, hr, .inr ⟨rfl, .goto t, hIx _ _ _ _ hi3 (aw3 W3 _), hl4, hk4⟩⟩
      | panic ch => exact hp.elim
      | outgrown => exact hp.elim
    · have aw3 : ∀ (W3 : World) (o : Obj), Aw (fun k => U k ∨ k = w.heap.size ∨ k = w.heap.size + 1) W3 (W3.putObj (w.heap.size + 1) o) := fun W3 o => (Aw.refl _ W3).put o (.inr (.inr rfl))
      rintro e W2 ⟨⟨v, rfl⟩, (⟨hi, hl, hk⟩ | ⟨pre, hSp, c, hi, hl, hk⟩)⟩
      · exact ⟨none, _, by have := run_endLoop (P := P) hl (by rw [hrec]; simp); rw [hrec] at this; exact this, hdone _ (hI _ _ _ hi (aw3 W2 _)) ((World.putObj_heap_other (by omega)).trans hk)⟩
      · exact ⟨some c, _, by have := run_endLoop (P := P) hl (by rw [hrec]; simp); rw [hrec] at this; exact this, hstop c pre _ hSp (hIx _ _ _ _ hi (aw3 W2 _)) ((World.putObj_heap_other (by omega)).trans hk)⟩

end Go.Proofs.Ytplgcfjcdjlnbaa

/-
  rescue.places and its iterator walked (printed by gen_resc4.py).
-/
set_option linter.unusedSimpArgs false
set_option linter.unusedVariables false
namespace Go.Proofs.Ytplgcfjcdjlnbaa
open Go.RowKit NumLaw CrcLaw
attribute [local go_sem] Addr.add_mid

def pgP (l : List UInt8) (p : Nat) : List UInt8 := (l.drop p).take 256
def stR (_ : Bool) : Nat := 256
def stS (b : Bool) : Nat := if b = true then 256 else 1
def plc (st : Bool → Nat) (l : List UInt8) : Nat → Nat → List Nat
  | 0, _ => []
  | f + 1, p => if p + 256 ≤ l.length then p :: plc st l f (p + st (decide (blkE (pgP l p) = 0))) else []
theorem plc_end {st : Bool → Nat} {l : List UInt8} {f p : Nat} (h : ¬ p + 256 ≤ l.length) : plc st l f p = [] := by
  cases f with
  | zero => rfl
  | succ f => unfold plc; rw [if_neg h]
theorem plc_step {st : Bool → Nat} {l : List UInt8} {f p : Nat} (h : p + 256 ≤ l.length) (hf : l.length < f + p) : ∃ f', f = f' + 1 ∧ plc st l f p = p :: plc st l f' (p + st (decide (blkE (pgP l p) = 0))) := by
  obtain ⟨f', rfl⟩ : ∃ j, f = j + 1 := ⟨f - 1, by omega⟩
  refine ⟨f', rfl, ?_⟩
  rw [plc, if_pos h]
theorem Rd.keepBlk {w w' : World} {B n c : Nat} {A : Option Addr} {xs : List Value} (h : Rd w B 1 A n c xs) (hk : 0 < n → ∀ a, A = some a → w'.heap[a.block]? = w.heap[a.block]?) : Rd w' B 1 A n c xs :=
  ⟨h.len, h.le, h.max, fun hn => by
    obtain ⟨ad, e, hb, hc⟩ := h.at_ hn
    exact ⟨ad, e, hb, fun j u hu => by
      have := hc j u hu
      rw [World.cell?] at this ⊢
      rw [show (ad.add j).block = ad.block by unfold Addr.add; split <;> rfl] at this ⊢
      rw [hk (by omega) _ e]
      exact this⟩⟩
theorem rdE_aw {U : Nat → Prop} {w w' : World} {A : Option Addr} {n c B : Nat} {L : List En} (h : RdE w B A n c L) (ha : Aw U w w') (hB : B ≤ w.heap.size) (hu : ∀ k, U k → ∀ j, 13 ≤ j → w.cell? ⟨k, j, none⟩ = none) : RdE w' B A n c L := by
  unfold RdE at h ⊢
  refine ⟨h.1, h.2.1, h.2.2.1, h.2.2.2.1, fun hn => ?_⟩
  obtain ⟨g', off, e, hlt, hr⟩ := h.2.2.2.2 hn
  have hne : ¬ U g' := fun he => by
    have hl : 0 < (L.map enC).length := by have := h.1; omega
    have hr0 := hr 0 _ (List.getElem?_eq_getElem hl)
    have h14 := h.2.1 _ (List.getElem_mem hl)
    have h13 := hr0 13 _ (List.getElem?_eq_getElem (by rw [h14]; decide))
    rw [hu g' he _ (by omega)] at h13
    cases h13
  refine ⟨g', off, e, hlt, fun k r hk j v hv => ?_⟩
  have := hr k r hk j v hv
  rw [World.cell?] at this ⊢
  rw [show (⟨g', off + k * 14 + j, none⟩ : Addr).block = g' from rfl] at this ⊢
  rw [ha.block g' (by omega) hne]
  exact this
/-- What is handed to yield: a place, the block there, whether it can be taken. -/
def PF (l : List UInt8) (x : Nat) (vs : Array Value) (W : World) : Prop := ∃ A n c, vs = #[.agg #[.int .i64 (x : Int), .int .u32 (blkNo (pgP l x) : Int), .slice A n c], .bool (decide (blkE (pgP l x) = 0))] ∧ RdE W W.heap.size A n c (blkL (pgP l x))
/-- The same; the entries lie in a block of entries. -/
def PFn (l : List UInt8) (x : Nat) (vs : Array Value) (W : World) : Prop := ∃ A n c, vs = #[.agg #[.int .i64 (x : Int), .int .u32 (blkNo (pgP l x) : Int), .slice A n c], .bool (decide (blkE (pgP l x) = 0))] ∧ RdE W W.heap.size A n c (blkL (pgP l x)) ∧ OfT W 46 (.slice A n c)
theorem PF.keep {l : List UInt8} {x : Nat} {vs : Array Value} {A B : World} {U : Nat → Prop} (h : PF l x vs A) (ha : Aw U A B) (hu : ∀ k, U k → ∀ j, 13 ≤ j → A.cell? ⟨k, j, none⟩ = none) : PF l x vs B := by
  obtain ⟨A', n, c, e, hr⟩ := h
  exact ⟨A', n, c, e, RdR.more (rdE_aw hr ha (Nat.le_refl _) hu) ha.size⟩
theorem stepR_any (b : Bool) (w : World) : Calls Try.prog 101 #[.bool b] w fun e w' => e = .returned (.int .i64 (stR b : Int)) ∧ w = w' := by
  go_enter Try.func101, Try.ntmps101
  go_wp2
  go_ret
  exact ⟨rfl, rfl⟩
theorem stepS_any (b : Bool) (w : World) : Calls Try.prog 102 #[.bool b] w fun e w' => e = .returned (.int .i64 (stS b : Int)) ∧ w = w' := by
  cases b
  all_goals
    go_enter Try.func102, Try.ntmps102
    go_wp2
    go_ret
    exact ⟨rfl, rfl⟩
theorem places_any (A : Option Addr) (n c gs : Nat) (w : World) :
    Calls Try.prog 100 #[.slice A n c, .func (.func gs) #[] #[]] w fun e w' => e = .returned (.func (.func 118) #[] #[.pointer (some ⟨w.heap.size, 0, none⟩), .pointer (some ⟨w.heap.size + 1, 0, none⟩)]) ∧ w' = (w.alloc (.cells #[.slice A n c] 26)).alloc (.cells #[.func (.func gs) #[] #[]] 145) := by
  go_enter Try.func100, Try.ntmps100
  go_wp2
  go_ret
  exact ⟨by simp, rfl⟩
set_option maxRecDepth 10000 in
set_option maxHeartbeats 8000000 in
theorem places_seqR (g1 g2 : Nat) (A : Option Addr) (n c B : Nat) (l : List UInt8) (m : Nat) (hn : n ≤ 100000) :
    SeqR Try.prog m 118 #[.pointer (some ⟨g1, 0, none⟩), .pointer (some ⟨g2, 0, none⟩)] (PF l) (fun k => k = g1 ∨ k = g2 ∨ (0 < n ∧ ∃ a, A = some a ∧ a.block = k)) (fun _ => False) (plc stR l (n + 1) 0)
      (fun W => W.heap[g1]? = some (.cells #[.slice A n c] 26) ∧ W.heap[g2]? = some (.cells #[.func (.func 101) #[] #[]] 145) ∧ Rd W B 1 A n c (bv l) ∧ B ≤ W.heap.size) := by
  rintro l0 J Jx W ⟨h1, h2, h3, h4⟩ hJ hJx hY h0
  have hro : Fence.wide.round = none := rfl
  have hll : l.length = n := h3.blen
  have Hll := Lib.hid hll
  obtain ⟨xs, hxs⟩ : ∃ v, v = plc stR l (n + 1) 0 := ⟨_, rfl⟩
  have Hxs := Lib.hid hxs
  rw [← hxs] at hY ⊢
  clear hll hxs
  refine callsIn_of_wp Try.func118 rfl trivial ?_ hro
  simp only [Try.ntmps118, List.size_toArray, List.length_cons, List.length_nil, Nat.reduceAdd, Nat.reduceSub, Array.replicate_succ, Array.replicate_zero, List.push_toArray, List.append_toArray, List.nil_append, List.cons_append]
  gi_wp2_with fail
  gi_loopw [4] (fun i wr => ∃ (p f : Nat) (pre : List Nat), i = .int .i64 p ∧ Hid (xs = pre ++ plc stR l f p ∧ n < f + p) ∧ p ≤ n ∧ J pre wr ∧ wr.heap[g1]? = some (.cells #[.slice A n c] 26) ∧ wr.heap[g2]? = some (.cells #[.func (.func 101) #[] #[]] 145) ∧ Rd wr B 1 A n c (bv l) ∧ B ≤ wr.heap.size) (fun i wr => n - (intOf i).toNat)
  case atStart => exact ⟨0, n + 1, [], rfl, Lib.hid ⟨by rw [Hxs.out]; rfl, by omega⟩, by omega, h0, h1, h2, h3, h4⟩
  case round =>
    clear h0 h1 h2 h3 h4 W
    obtain ⟨p, f, pre, rfl, Hp, hpn, hj, h1, h2, h3, h4⟩ := hrel
    have c1 : wr.cell? ⟨g1, 0, none⟩ = some (.slice A n c) := blk_cell h1 rfl
    by_cases hlt : p + 256 ≤ n
    · obtain ⟨f', hf, hpl⟩ := plc_step (st := stR) (l := l) (f := f) (p := p) (by rw [Hll.out]; exact hlt) (by rw [Hll.out]; exact Hp.out.2)
      have Hpl := Lib.hid (show xs = (pre ++ [p]) ++ plc stR l f' (p + stR (decide (blkE (pgP l p) = 0))) by rw [Hp.out.1, hpl]; simp)
      have Hpre := Lib.hid (show pre ++ [p] <+: xs from ⟨_, Hpl.out.symm⟩)
      have Hf := Lib.hid (show n < f' + 1 + p by rw [← hf]; exact Hp.out.2)
      have hat := at_any A n c B p l wr h3 h4 hlt (by omega)
      have Hat := Lib.hid hat
      have hlt' : ((p : Int) + 256) ≤ (n : Int) := by omega
      have hw1 : IntKind.i64.wrap ((p : Int) + 256) = (p : Int) + 256 := IntWalk.i64_in _ (by omega)
      have Hu1 := Lib.hid (fun w => stepR_any (decide (blkE (pgP l p) = 0)) w)
      have hst : 1 ≤ stR (decide (blkE (pgP l p) = 0)) ∧ stR (decide (blkE (pgP l p) = 0)) ≤ 256 := by unfold stR; omega
      clear hat hpl hf
      gi_wp2_with fail
      clear c1
      refine ⟨trivial, fun hd => by simp [Fence.wide] at hd, (callsIn_wide.2 Hat.out).mono ?_⟩
      unfold RetAt
      rintro e w2 ⟨A2, n2, c2, rfl, hr2, hb2⟩
      have hpp : ((l.drop p).take 256) = pgP l p := rfl
      rw [hpp] at hr2 ⊢
      clear hpp
      have hbn : Below w2.heap.size w2 (w2.alloc (.cells #[.int .u32 (blkNo (pgP l p) : Int), .slice A2 n2 c2] 41)) := (Below.refl _ _).alloc (Nat.le_refl _) _
      have hx3 := heap_alloc_new w2 (.cells #[.int .u32 (blkNo (pgP l p) : Int), .slice A2 n2 c2] 41)
      have hb3 := bnx hb2 hbn
      have k0 := blk_cell (i := 0) (v := .int .u32 (blkNo (pgP l p) : Int)) hx3 rfl
      have k1 := blk_cell (i := 1) (v := .slice A2 n2 c2) hx3 rfl
      have hE : PF l p #[.agg #[.int .i64 (p : Int), .int .u32 (blkNo (pgP l p) : Int), .slice A2 n2 c2], .bool (decide (blkE (pgP l p) = 0))] (w2.alloc (.cells #[.int .u32 (blkNo (pgP l p) : Int), .slice A2 n2 c2] 41)) := ⟨A2, n2, c2, rfl, own_rdE hr2 hbn⟩
      have g1 := blk_old h1 hb3 (blk_lt h1)
      have g2 := blk_old h2 hb3 (blk_lt h2)
      have g3 := h3.up (hb3.mono h4)
      have g4 := Nat.le_trans h4 hb3.size
      have j3 := hJ _ _ _ hj (Aw.of_below' (U := fun _ => False) hb3)
      obtain ⟨fn, tmps, assign, body, hy, hR⟩ := hY _ _ _ _ j3 Hpre.out hE
      have HR := Lib.hid hR
      have HgB : Hid (∀ a, A = some a → 0 < n → a.block < w2.heap.size + 1) := Lib.hid (fun a e hn0 => by
        obtain ⟨ad, e', hb', _⟩ := g3.at_ hn0
        rw [e] at e'
        injection e' with e'
        rw [e', ← World.size_alloc w2 (.cells #[.int .u32 (blkNo (pgP l p) : Int), .slice A2 n2 c2] 41)]
        omega)
      clear hE hR hr2 hb2 hbn hx3 hb3 h1 h2 h3 h4 hj j3
      gi_wp2_with fail
      refine ⟨fun hd => by simp [Fence.wide] at hd, HR.out.mono ?_⟩
      rintro e W3 (⟨rfl, hJ3, hk3⟩ | ⟨rfl, hJx3⟩)
      · have q1 := hk3.2 _ _ (.inl rfl) g1
        have q2 := hk3.2 _ _ (.inr (.inl rfl)) g2
        have q3 : Rd W3 B 1 A n c (bv l) := Rd.keepBlk g3 (fun hn0 a e => by
          obtain ⟨o, ho⟩ : ∃ o, (w2.alloc (.cells #[.int .u32 (blkNo (pgP l p) : Int), .slice A2 n2 c2] 41)).heap[a.block]? = some o := ⟨_, Array.getElem?_eq_getElem (by rw [World.size_alloc]; exact HgB.out a e hn0)⟩
          rw [ho]
          exact hk3.2 _ _ (.inr (.inr ⟨hn0, a, e, rfl⟩)) ho)
        have q4 := Nat.le_trans g4 hk3.1
        have d2 := blk_cell (i := 0) (v := .func (.func 101) #[] #[]) q2 rfl
        have hw2 : IntKind.i64.wrap ((p : Int) + (stR (decide (blkE (pgP l p) = 0)) : Int)) = (p : Int) + (stR (decide (blkE (pgP l p) = 0)) : Int) := IntWalk.i64_in _ (by omega)
        clear g1 g2 g3 g4 k0 k1 hk3 hy HR
        generalize (decide (blkE (pgP l p) = 0)) = ok at *
        gi_wp2_with fail
        refine ⟨trivial, fun hd => by simp [Fence.wide] at hd, (callsIn_wide.2 (Hu1.out W3)).mono ?_⟩
        rintro e w5 ⟨rfl, rfl⟩
        clear d2
        gi_wp2
        go_roundw
        case rel => exact ⟨p + stR ok, f', pre ++ [p], by go_num, Lib.hid ⟨Hpl.out, by have := Hf.out; omega⟩, by omega, hJ3, q1, q2, q3, q4⟩
        case measure => simp [intOf]; omega
      · clear g1 g2 g3 g4 k0 k1 hy HR
        gi_wp2
        refine bodyPost_ret (results_none rfl _ _ _) rfl ?_
        exact ⟨⟨_, rfl⟩, .inr ⟨_, Hpre.out, hJx3⟩⟩
    · have hE0 := plc_end (st := stR) (l := l) (f := f) (p := p) (by rw [Hll.out]; exact hlt)
      have hlt' : ¬ ((p : Int) + 256) ≤ (n : Int) := by omega
      have hw1 : IntKind.i64.wrap ((p : Int) + 256) = (p : Int) + 256 := IntWalk.i64_in _ (by omega)
      have hxs : pre = xs := by rw [Hp.out.1, hE0, List.append_nil]
      rw [hxs] at hj
      clear hE0 hxs
      gi_wp2
      go_end0
      exact ⟨⟨_, rfl⟩, .inl hj⟩
set_option maxRecDepth 10000 in
set_option maxHeartbeats 8000000 in
theorem places_seqS (g1 g2 : Nat) (A : Option Addr) (n c B : Nat) (l : List UInt8) (m : Nat) (hn : n ≤ 100000) :
    SeqR Try.prog m 118 #[.pointer (some ⟨g1, 0, none⟩), .pointer (some ⟨g2, 0, none⟩)] (PFn l) (fun k => k = g1 ∨ k = g2 ∨ (0 < n ∧ ∃ a, A = some a ∧ a.block = k)) (fun _ => False) (plc stS l (n + 1) 0)
      (fun W => W.heap[g1]? = some (.cells #[.slice A n c] 26) ∧ W.heap[g2]? = some (.cells #[.func (.func 102) #[] #[]] 145) ∧ Rd W B 1 A n c (bv l) ∧ B ≤ W.heap.size) := by
  rintro l0 J Jx W ⟨h1, h2, h3, h4⟩ hJ hJx hY h0
  have hro : Fence.wide.round = none := rfl
  have hll : l.length = n := h3.blen
  have Hll := Lib.hid hll
  obtain ⟨xs, hxs⟩ : ∃ v, v = plc stS l (n + 1) 0 := ⟨_, rfl⟩
  have Hxs := Lib.hid hxs
  rw [← hxs] at hY ⊢
  clear hll hxs
  refine callsIn_of_wp Try.func118 rfl trivial ?_ hro
  simp only [Try.ntmps118, List.size_toArray, List.length_cons, List.length_nil, Nat.reduceAdd, Nat.reduceSub, Array.replicate_succ, Array.replicate_zero, List.push_toArray, List.append_toArray, List.nil_append, List.cons_append]
  gi_wp2_with fail
  gi_loopw [4] (fun i wr => ∃ (p f : Nat) (pre : List Nat), i = .int .i64 p ∧ Hid (xs = pre ++ plc stS l f p ∧ n < f + p) ∧ p ≤ n ∧ J pre wr ∧ wr.heap[g1]? = some (.cells #[.slice A n c] 26) ∧ wr.heap[g2]? = some (.cells #[.func (.func 102) #[] #[]] 145) ∧ Rd wr B 1 A n c (bv l) ∧ B ≤ wr.heap.size) (fun i wr => n - (intOf i).toNat)
  case atStart => exact ⟨0, n + 1, [], rfl, Lib.hid ⟨by rw [Hxs.out]; rfl, by omega⟩, by omega, h0, h1, h2, h3, h4⟩
  case round =>
    clear h0 h1 h2 h3 h4 W
    obtain ⟨p, f, pre, rfl, Hp, hpn, hj, h1, h2, h3, h4⟩ := hrel
    have c1 : wr.cell? ⟨g1, 0, none⟩ = some (.slice A n c) := blk_cell h1 rfl
    by_cases hlt : p + 256 ≤ n
    · obtain ⟨f', hf, hpl⟩ := plc_step (st := stS) (l := l) (f := f) (p := p) (by rw [Hll.out]; exact hlt) (by rw [Hll.out]; exact Hp.out.2)
      have Hpl := Lib.hid (show xs = (pre ++ [p]) ++ plc stS l f' (p + stS (decide (blkE (pgP l p) = 0))) by rw [Hp.out.1, hpl]; simp)
      have Hpre := Lib.hid (show pre ++ [p] <+: xs from ⟨_, Hpl.out.symm⟩)
      have Hf := Lib.hid (show n < f' + 1 + p by rw [← hf]; exact Hp.out.2)
      have hat := at_new A n c B p l wr h3 h4 hlt (by omega)
      have Hat := Lib.hid hat
      have hlt' : ((p : Int) + 256) ≤ (n : Int) := by omega
      have hw1 : IntKind.i64.wrap ((p : Int) + 256) = (p : Int) + 256 := IntWalk.i64_in _ (by omega)
      have Hu1 := Lib.hid (fun w => stepS_any (decide (blkE (pgP l p) = 0)) w)
      have hst : 1 ≤ stS (decide (blkE (pgP l p) = 0)) ∧ stS (decide (blkE (pgP l p) = 0)) ≤ 256 := by unfold stS; split <;> omega
      clear hat hpl hf
      gi_wp2_with fail
      clear c1
      refine ⟨trivial, fun hd => by simp [Fence.wide] at hd, (callsIn_wide.2 Hat.out).mono ?_⟩
      unfold RetAn
      rintro e w2 ⟨A2, n2, c2, rfl, hr2, hb2, ho2⟩
      have hpp : ((l.drop p).take 256) = pgP l p := rfl
      rw [hpp] at hr2 ⊢
      clear hpp
      have hbn : Below w2.heap.size w2 (w2.alloc (.cells #[.int .u32 (blkNo (pgP l p) : Int), .slice A2 n2 c2] 41)) := (Below.refl _ _).alloc (Nat.le_refl _) _
      have hx3 := heap_alloc_new w2 (.cells #[.int .u32 (blkNo (pgP l p) : Int), .slice A2 n2 c2] 41)
      have hb3 := bnx hb2 hbn
      have k0 := blk_cell (i := 0) (v := .int .u32 (blkNo (pgP l p) : Int)) hx3 rfl
      have k1 := blk_cell (i := 1) (v := .slice A2 n2 c2) hx3 rfl
      have hE : PFn l p #[.agg #[.int .i64 (p : Int), .int .u32 (blkNo (pgP l p) : Int), .slice A2 n2 c2], .bool (decide (blkE (pgP l p) = 0))] (w2.alloc (.cells #[.int .u32 (blkNo (pgP l p) : Int), .slice A2 n2 c2] 41)) := ⟨A2, n2, c2, rfl, own_rdE hr2 hbn, ofT_below ho2 hbn⟩
      have g1 := blk_old h1 hb3 (blk_lt h1)
      have g2 := blk_old h2 hb3 (blk_lt h2)
      have g3 := h3.up (hb3.mono h4)
      have g4 := Nat.le_trans h4 hb3.size
      have j3 := hJ _ _ _ hj (Aw.of_below' (U := fun _ => False) hb3)
      obtain ⟨fn, tmps, assign, body, hy, hR⟩ := hY _ _ _ _ j3 Hpre.out hE
      have HR := Lib.hid hR
      have HgB : Hid (∀ a, A = some a → 0 < n → a.block < w2.heap.size + 1) := Lib.hid (fun a e hn0 => by
        obtain ⟨ad, e', hb', _⟩ := g3.at_ hn0
        rw [e] at e'
        injection e' with e'
        rw [e', ← World.size_alloc w2 (.cells #[.int .u32 (blkNo (pgP l p) : Int), .slice A2 n2 c2] 41)]
        omega)
      clear hE hR hr2 ho2 hb2 hbn hx3 hb3 h1 h2 h3 h4 hj j3
      gi_wp2_with fail
      refine ⟨fun hd => by simp [Fence.wide] at hd, HR.out.mono ?_⟩
      rintro e W3 (⟨rfl, hJ3, hk3⟩ | ⟨rfl, hJx3⟩)
      · have q1 := hk3.2 _ _ (.inl rfl) g1
        have q2 := hk3.2 _ _ (.inr (.inl rfl)) g2
        have q3 : Rd W3 B 1 A n c (bv l) := Rd.keepBlk g3 (fun hn0 a e => by
          obtain ⟨o, ho⟩ : ∃ o, (w2.alloc (.cells #[.int .u32 (blkNo (pgP l p) : Int), .slice A2 n2 c2] 41)).heap[a.block]? = some o := ⟨_, Array.getElem?_eq_getElem (by rw [World.size_alloc]; exact HgB.out a e hn0)⟩
          rw [ho]
          exact hk3.2 _ _ (.inr (.inr ⟨hn0, a, e, rfl⟩)) ho)
        have q4 := Nat.le_trans g4 hk3.1
        have d2 := blk_cell (i := 0) (v := .func (.func 102) #[] #[]) q2 rfl
        have hw2 : IntKind.i64.wrap ((p : Int) + (stS (decide (blkE (pgP l p) = 0)) : Int)) = (p : Int) + (stS (decide (blkE (pgP l p) = 0)) : Int) := IntWalk.i64_in _ (by omega)
        clear g1 g2 g3 g4 k0 k1 hk3 hy HR
        generalize (decide (blkE (pgP l p) = 0)) = ok at *
        gi_wp2_with fail
        refine ⟨trivial, fun hd => by simp [Fence.wide] at hd, (callsIn_wide.2 (Hu1.out W3)).mono ?_⟩
        rintro e w5 ⟨rfl, rfl⟩
        clear d2
        gi_wp2
        go_roundw
        case rel => exact ⟨p + stS ok, f', pre ++ [p], by go_num, Lib.hid ⟨Hpl.out, by have := Hf.out; omega⟩, by omega, hJ3, q1, q2, q3, q4⟩
        case measure => simp [intOf]; omega
      · clear g1 g2 g3 g4 k0 k1 hy HR
        gi_wp2
        refine bodyPost_ret (results_none rfl _ _ _) rfl ?_
        exact ⟨⟨_, rfl⟩, .inr ⟨_, Hpre.out, hJx3⟩⟩
    · have hE0 := plc_end (st := stS) (l := l) (f := f) (p := p) (by rw [Hll.out]; exact hlt)
      have hlt' : ¬ ((p : Int) + 256) ≤ (n : Int) := by omega
      have hw1 : IntKind.i64.wrap ((p : Int) + 256) = (p : Int) + 256 := IntWalk.i64_in _ (by omega)
      have hxs : pre = xs := by rw [Hp.out.1, hE0, List.append_nil]
      rw [hxs] at hj
      clear hE0 hxs
      gi_wp2
      go_end0
      exact ⟨⟨_, rfl⟩, .inl hj⟩

end Go.Proofs.Ytplgcfjcdjlnbaa

/-
  rescue.Read walked (printed by gen_resc5.py).
-/
set_option linter.unusedSimpArgs false
set_option linter.unusedVariables false
namespace Go.Proofs.Ytplgcfjcdjlnbaa
open Go.RowKit Go.Shelf NumLaw CrcLaw
attribute [local go_sem] Oper.semAt_some Addr.add_mid

set_option maxRecDepth 20000 in
theorem plcR_get {l : List UInt8} : ∀ (k f p : Nat), l.length < f + p → (plc stR l f p)[k]? = if p + 256 * (k + 1) ≤ l.length then some (p + 256 * k) else none
  | k, 0, p, h => by rw [if_neg (by omega)]; rfl
  | 0, f + 1, p, h => by
    unfold plc
    by_cases h1 : p + 256 ≤ l.length
    · rw [if_pos h1, if_pos (by omega)]; rfl
    · rw [if_neg h1, if_neg (by omega)]; rfl
  | k + 1, f + 1, p, h => by
    unfold plc
    by_cases h1 : p + 256 ≤ l.length
    · have ih := plcR_get (l := l) k f (p + 256) (by omega)
      rw [if_pos h1, List.getElem?_cons_succ, show stR (decide (blkE (pgP l p) = 0)) = 256 from rfl, ih]
      by_cases h2 : p + 256 * (k + 1 + 1) ≤ l.length
      · rw [if_pos (show p + 256 + 256 * (k + 1) ≤ l.length by omega), if_pos h2, show p + 256 + 256 * k = p + 256 * (k + 1) by omega]
      · rw [if_neg (show ¬ p + 256 + 256 * (k + 1) ≤ l.length by omega), if_neg h2]
    · rw [if_neg h1, if_neg (show ¬ p + 256 * (k + 1 + 1) ≤ l.length by omega)]; exact List.getElem?_nil
theorem plcR_pre {l : List UInt8} {pre : List Nat} {x : Nat} (h : pre ++ [x] <+: plc stR l (l.length + 1) 0) : x = 256 * pre.length ∧ pre.length < l.length / 256 := by
  obtain ⟨t, ht⟩ := h
  have h2 : (plc stR l (l.length + 1) 0)[pre.length]? = some x := by rw [← ht, List.append_assoc]; simp
  rw [plcR_get _ _ _ (by omega)] at h2
  by_cases h3 : 0 + 256 * (pre.length + 1) ≤ l.length
  · rw [if_pos h3] at h2
    injection h2 with h2
    omega
  · rw [if_neg h3] at h2; cases h2
theorem plcR_len {l : List UInt8} : (plc stR l (l.length + 1) 0).length = l.length / 256 := by
  have h1 := plcR_get (l := l) (l.length / 256) (l.length + 1) 0 (by omega)
  rw [if_neg (by omega)] at h1
  have h1 := List.getElem?_eq_none_iff.1 h1
  by_cases h0 : l.length / 256 = 0
  · omega
  · have h2 := plcR_get (l := l) (l.length / 256 - 1) (l.length + 1) 0 (by omega)
    rw [if_pos (by omega)] at h2
    have := (List.getElem?_eq_some_iff.1 h2).1
    omega
/-- What holds ahead of a round: what has been gathered. -/
theorem u32_small {k : Nat} (h : k < 100000) : IntKind.u32.wrap (k : Int) = (k : Int) := by rw [IntKind.wrap_u32]; omega
theorem u32_mod {k : Nat} (h : k < 100000) : (k : Int) % 4294967296 = (k : Int) := by omega
theorem quo_small {x k : Nat} (hx : x = 256 * k) (h : k < 100000) : wrap64 ((x : Int) / 256) = (k : Int) := by
  rw [← IntWalk.i64_left, IntWalk.i64_in _ (by omega)]
  omega
def RIk (g : Nat) (l : List UInt8) (w : World) (k : Nat) (W : World) : Prop :=
  Below g w W ∧ ∃ (A3 : Option Addr) (n3 c3 : Nat) (A4 : Option Addr) (n4 c4 : Nat), W.heap[g]? = some (.cells #[.slice A3 n3 c3] 58) ∧ W.heap[g + 1]? = some (.cells #[.slice A4 n4 c4] 80) ∧ n3 ≤ 255 * k ∧ n4 ≤ k ∧
    W.ownsRow (g + 6) 25 13 (.slice A3 n3 c3) n3 ((readS l k).1.map rcR).flatten ∧ W.ownsRow (g + 6) 3 1 (.slice A4 n4 c4) n4 (intR (readS l k).2).flatten ∧
    Hid (Dis (.slice A3 n3 c3) (.slice A4 n4 c4)) ∧ Hid ((readS l k).1.length = n3 ∧ (readS l k).2.length = n4)
def RI (g : Nat) (l : List UInt8) (w : World) (pre : List Nat) (W : World) : Prop := RIk g l w pre.length W
def RF (A : Option Addr) (n c : Nat) (l : List UInt8) (w : World) (x : Nat) (a : Act) (W : World) : Prop :=
  ∃ (gF : Nat) (A' : Option Addr) (n' c' : Nat), a = { tmps := #[.slice A n c, undef, .slice none 0 0, .slice none 0 0, .pointer (some ⟨w.heap.size, 0, none⟩), .pointer (some ⟨w.heap.size + 1, 0, none⟩), .pointer (some ⟨gF, 0, none⟩), .bool (decide (blkE (pgP l x) = 0)), undef, .slice A n c, .func (.func 118) #[] #[.pointer (some ⟨w.heap.size + 2, 0, none⟩), .pointer (some ⟨w.heap.size + 3, 0, none⟩)], .agg #[.int .i64 (x : Int), .int .u32 (blkNo (pgP l x) : Int), .slice A' n' c'], .bool (decide (blkE (pgP l x) = 0)), undef, undef, undef, undef, undef, undef, undef, undef, undef, undef, undef, undef, undef, undef, undef, undef, undef, undef, undef, undef, undef, undef, undef, undef], defers := [] } ∧ W.heap[gF]? = some (.cells #[.int .i64 (x : Int), .int .u32 (blkNo (pgP l x) : Int), .slice A' n' c'] 102) ∧ RdE W W.heap.size A' n' c' (blkL (pgP l x))
theorem loop_cells {w : World} {D k j : Nat} (h1 : ∃ o, w.heap[D]? = some (.deferred o)) (h2 : ∃ o, w.heap[D + 1]? = some (.loop o)) (hk : k = D ∨ k = D + 1) : w.cell? ⟨k, j, none⟩ = none := by
  obtain ⟨o, h1⟩ := h1
  obtain ⟨o2, h2⟩ := h2
  rcases hk with rfl | rfl
  · simp [World.cell?, h1]
  · simp [World.cell?, h2]
set_option maxRecDepth 10000 in
set_option maxHeartbeats 8000000 in
theorem read37_any (A : Option Addr) (n c B : Nat) (l : List UInt8) (w : World) (h : Rd w B 1 A n c (bv l)) (hB : B ≤ w.heap.size) (hn : n ≤ 100000) :
    Calls Try.prog 55 #[.slice A n c] w (RetRd (readS l (n / 256)) w) := by
  have hll := h.blen
  obtain ⟨i1, hi1⟩ := info_parts rec_info37
  obtain ⟨i2, hi2⟩ := info_parts int_info37
  have Hi1 := Lib.hid hi1
  have Hi2 := Lib.hid hi2
  have Hll := Lib.hid hll
  clear hll hi1 hi2
  obtain ⟨a0, a1, hs, hb⟩ := al2 w (.cells #[.slice none 0 0] 58) (.cells #[.slice none 0 0] 80)
  refine (callsIn_wide (n := 9)).1 ?_
  have hro : Fence.wide.round = none := rfl
  refine callsIn_of_wp_marks Try.func55 rfl trivial ?_ hro
  simp only [Try.ntmps55, List.size_toArray, List.length_cons, List.length_nil, Nat.reduceAdd, Nat.reduceSub, Array.replicate_succ, Array.replicate_zero, List.push_toArray, List.append_toArray, List.nil_append, List.cons_append]
  gi_wp2_with fail
  generalize ((w.alloc (.cells #[.slice none 0 0] 58)).alloc (.cells #[.slice none 0 0] 80)) = w1 at *
  refine ⟨trivial, (callsIn_wide.2 (places_any A n c 101 w1)).mono ?_⟩
  rintro x w2 ⟨rfl, rfl⟩
  obtain ⟨b0, b1, hsb, hbb⟩ := al2 w1 (.cells #[.slice A n c] 26) (.cells #[.func (.func 101) #[] #[]] 145)
  have p0 := blk_old a0 hbb (blk_lt a0)
  have p1 := blk_old a1 hbb (blk_lt a1)
  have hb2 := bnx hb hbb
  have hs2 : ((w1.alloc (.cells #[.slice A n c] 26)).alloc (.cells #[.func (.func 101) #[] #[]] 145)).heap.size = w.heap.size + 4 := by rw [hsb, hs]
  rw [hs] at b0 b1
  rw [hs]
  generalize ((w1.alloc (.cells #[.slice A n c] 26)).alloc (.cells #[.func (.func 101) #[] #[]] 145)) = w2 at *
  have hr2 := h.up (hb2.mono hB)
  have Hs2 := Lib.hid hs2
  clear a0 a1 hbb hb hs hs2 hsb w1
  gi_wp2_with fail
  have hs2 := Hs2.out
  have HK := Lib.hid (show ∀ k, (k = w.heap.size + 2 ∨ k = w.heap.size + 3 ∨ (0 < n ∧ ∃ a, A = some a ∧ a.block = k)) ∨ k = w2.heap.size ∨ k = w2.heap.size + 1 → k < w.heap.size + 6 ∧ k ≠ w.heap.size ∧ k ≠ w.heap.size + 1 from fun k hk => by
    rcases hk with (rfl | rfl | ⟨hn0, a, e, rfl⟩) | rfl | rfl
    · omega
    · omega
    · obtain ⟨ad, e', hb', _⟩ := h.at_ hn0
      rw [e] at e'
      injection e' with e'
      rw [e']
      omega
    · omega
    · omega)
  refine rangeFunc_R2 rfl (enters_of Try.func118 (by kernel_rfl) rfl) (places_seqR (w.heap.size + 2) (w.heap.size + 3) A n c B l _ hn)
    (fun W hW hsz => ⟨hW.keep b0 (fun hk => hk), hW.keep b1 (fun hk => hk), hr2.keepBlk (fun hn0 a e => by
        obtain ⟨ad, e', hb', _⟩ := hr2.at_ hn0
        rw [e] at e'
        injection e' with e'
        rw [e']
        exact hW.block _ (by rw [hs2]; omega) (fun hk => hk)), by have := hW.size; omega⟩)
    (fun x vs W hE => by obtain ⟨A', n', c', e, _⟩ := hE; rw [e]; rfl) (F := RF A n c l w) ?hF (fun k hk => hk.elim)
    (fun k hk => by
      rcases hk with rfl | rfl | ⟨hn0, a, e, rfl⟩
      · rw [hs2]; omega
      · rw [hs2]; omega
      · obtain ⟨ad, e', hb', _⟩ := hr2.at_ hn0
        rw [e] at e'
        injection e' with e'
        rw [e', hs2]
        omega)
    (RI w.heap.size l w) (fun _ _ _ => False) ?hI ?hIx ?h0 ?assign ?body ?done ?stop
  case hF =>
    rintro x a A1 B1 ⟨gF, A', n', c', e, hg, hr⟩ hd hl hab
    refine ⟨gF, A', n', c', e, hab.keep hg (fun hk => ?_), RdR.more (rdE_aw hr hab (Nat.le_refl _) (fun k hk j _ => loop_cells hd hl hk)) hab.size⟩
    have h1 := loop_cells (j := 0) hd hl hk
    rw [blk_cell (i := 0) hg rfl] at h1
    cases h1
  case hI =>
    rintro pre A1 B1 ⟨i0, A3, n3, c3, A4, n4, c4, i1, i2, i3, i4, i5, i6, i7, i8⟩ hab
    have hnk : ∀ k, (False ∨ k = w2.heap.size ∨ k = w2.heap.size + 1) → w.heap.size + 4 ≤ k ∧ k ≤ w.heap.size + 5 := fun k hk => hk.elim (fun h => h.elim) (fun hk => by rw [hs2] at hk; omega)
    have hA := blk_lt i2
    exact ⟨below_awG i0 hab (fun k hk => by have := hnk k hk; omega) (by omega), A3, n3, c3, A4, n4, c4, hab.keep i1 (fun hk => by have := hnk _ hk; omega), hab.keep i2 (fun hk => by have := hnk _ hk; omega), i3, i4, own_aw i5 hab (fun k hk hu => by have := hnk _ hu; have := (own_blk i5 hk).1; omega), own_aw i6 hab (fun k hk hu => by have := hnk _ hu; have := (own_blk i6 hk).1; omega), i7, i8⟩
  case hIx => rintro cc pre A1 B1 hf; exact hf.elim
  case stop => rintro cc pre W hpre hf; exact hf.elim
  case h0 => exact ⟨hb2, none, 0, 0, none, 0, 0, p0, p1, by simp, by simp, World.ownsRow_nil _ _ _ _, World.ownsRow_nil _ _ _ _, Lib.hid (fun j hj => by cases hj), Lib.hid ⟨rfl, rfl⟩⟩
  case assign =>
    rintro ll x vs W K ⟨A', n', c', rfl, hr⟩ hK
    have hbn : Below W.heap.size W (W.alloc (.cells #[.int .i64 (x : Int), .int .u32 (blkNo (pgP l x) : Int), .slice A' n' c'] 102)) := (Below.refl _ _).alloc (Nat.le_refl _) _
    have HK := Lib.hid (hK _ _ ((Aw.refl (fun _ => False) W).alloc _) ⟨W.heap.size, A', n', c', rfl, heap_alloc_new W _, own_rdE hr hbn⟩)
    clear hK hbn hr
    gi_wp2
    exact HK.out
  case body =>
    rintro pre x a W ⟨i0, A3, n3, c3, A4, n4, c4, i1, i2, i3, i4, i5, i6, i7, i8⟩ ⟨gF, A', n', c', rfl, hgF, hr⟩ hpre hge
    rw [hs2] at hge
    have hln : pre.length + 1 = (pre ++ [x]).length := by simp
    obtain ⟨hx, hk⟩ := plcR_pre (by rw [Hll.out]; exact hpre)
    rw [Hll.out] at hk
    have Hx := Lib.hid hx
    have Hwq := Lib.hid (show wrap64 ((x : Int) / 256) = (pre.length : Int) from quo_small hx (by omega))
    have Hwu := Lib.hid (show IntKind.u32.wrap (pre.length : Int) = (pre.length : Int) from u32_small (by omega))
    have Hwu2 := Lib.hid (show (pre.length : Int) % 4294967296 = (pre.length : Int) from u32_mod (by omega))
    have hno32 : blkNo (pgP l x) < 4294967296 := by
      by_cases he : blkE (pgP l x) = 0
      · exact (blk_back he).2.2.1
      · rw [(blk_bad he).1]; omega
    have hpgx : pgP l x = pgR l pre.length := by rw [hx]; rfl
    have Hg := Lib.hid (@readS_good l pre.length)
    have Hbd := Lib.hid (@readS_bad l pre.length)
    rw [← hpgx] at Hg Hbd
    have Hq := Lib.hid (blk_q (s := pgP l x))
    clear hx hpgx hpre
    have HRI := Lib.hid (show ∀ W', RIk w.heap.size l w (pre.length + 1) W' → RI w.heap.size l w (pre ++ [x]) W' from fun W' h => by unfold RI; rw [← hln]; exact h)
    generalize RI w.heap.size l w = II at *
    generalize pre ++ [x] = px at *
    generalize pgP l x = s at *
    generalize pre.length = k at *
    clear hln
    obtain ⟨no, hno⟩ : ∃ v, v = blkNo s := ⟨_, rfl⟩
    obtain ⟨ok, hok⟩ : ∃ v, v = decide (blkE s = 0) := ⟨_, rfl⟩
    rw [← hno] at hno32 hgF ⊢
    rw [← hok]
    have Hno := Lib.hid hno
    have Hok := Lib.hid hok
    clear hno hok
    have d0 := blk_cell (i := 0) (v := .int .i64 (x : Int)) hgF rfl
    have d1 := blk_cell (i := 1) (v := .int .u32 (no : Int)) hgF rfl
    have e3 : W.cell? ⟨w.heap.size, 0, none⟩ = some (.slice A3 n3 c3) := blk_cell i1 rfl
    have e4 : W.cell? ⟨w.heap.size + 1, 0, none⟩ = some (.slice A4 n4 c4) := blk_cell i2 rfl
    have hgl := blk_lt i2
    have hgFl := blk_lt hgF
    have hbn := (Below.refl W.heap.size W).alloc (Nat.le_refl _) (.cells #[.int .i64 (k : Int)] 3)
    by_cases hg : ok = true ∧ no = k
    · obtain ⟨rfl, rfl⟩ := hg
      have hnn : ((no : Int) != (no : Int)) = false := by simp
      have hwq := Hwq.out
      have hwu := Hwu.out
      have hwu2 := Hwu2.out
      gi_wp2_with fail
      clear hwq hwu hwu2 Hwq Hwu Hwu2 d0 d1 e4 hnn hbn
      refine Ord.regionIn_ (fun _ => True) true [30, 32] (by kernel_rfl) (by kernel_rfl) (by kernel_rfl) (fun ⟨_, _, h⟩ => h) trivial ?_
      have hKW : Aw (fun _ => False) W W.drew := (Aw.refl _ W).drew
      have hD : Below W.heap.size W W.drew := (Below.refl _ _).drew
      replace i0 := i0.drew
      replace i1 : W.drew.heap[w.heap.size]? = _ := i1
      replace i2 : W.drew.heap[w.heap.size + 1]? = _ := i2
      replace hgF : W.drew.heap[gF]? = _ := hgF
      replace e3 : W.drew.cell? ⟨w.heap.size, 0, none⟩ = some (.slice A3 n3 c3) := e3
      replace i5 := own_up i5 hD (Nat.le_refl _)
      replace i6 := own_up i6 hD (Nat.le_refl _)
      replace hr := own_rdE hr hD
      replace hge : w.heap.size + 4 + 2 ≤ W.drew.heap.size := hge
      generalize W.drew = w5 at *
      clear hD hgl hgFl
      have hrow : w5.rangeAt gF 1 [.int .u32 (no : Int), .slice A' n' c'] := own_range hgF 1 (fun j v hv => by
        rw [Nat.add_comm, List.getElem?_toArray, List.getElem?_cons_succ]
        exact hv)
      refine Ord.e_load Try.underlying58 rfl e3 rfl (by kernel_rfl) (by kernel_rfl) ?_
      (try simp only [Act.put, List.setIfInBounds_toArray, List.set_cons_zero, List.set_cons_succ])
      ((with_reducible refine Ord.e_p (v := ?_) ?_ ?_ ?_ ?_); rotate_left; (· exact rfl); (· kernel_rfl); (· intro w2; go_simp; try with_reducible rfl))
      (try simp only [Act.put, List.setIfInBounds_toArray, List.set_cons_zero, List.set_cons_succ])
      refine Ord.e_row (b := gF) (o := 1) (cs := [.int .u32 (no : Int), .slice A' n' c']) Try.underlying41 rfl (by kernel_rfl) rfl hrow (by kernel_rfl) (by kernel_rfl) ?_
      (try simp only [Act.put, List.setIfInBounds_toArray, List.set_cons_zero, List.set_cons_succ])
      have hnE := RdE.len hr
      have hn255 : n' ≤ 255 := by rw [← hnE]; exact Hq.out.2
      have HG := Lib.hid (Hg.out ⟨of_decide_eq_true Hok.out.symm, Hno.out.symm⟩)
      clear hrow hgF e3
      refine Ord.e_x rfl (by kernel_rfl) ?_
      go_wp2_with fail
      go_fit (records_any no A' n' c' w5.heap.size (blkL s) w5 hr (Nat.le_refl _) (by omega))
      unfold RetRs
      rintro e w6 ⟨A5, n5, c5, rfl, hn5, own5, hb5⟩
      rw [List.length_map, hnE] at hn5
      subst hn5
      have own35 := own_up i5 hb5 (Nat.le_refl _)
      have own45 := own_up i6 hb5 (Nat.le_refl _)
      have hrc5 := RdC.own own5 (by rw [List.length_map, hnE]) Hq.out.1
      have hbb := bnx i0 hb5
      have j1 := blk_old i1 hb5 (blk_lt i1)
      have j2 := blk_old i2 hb5 (blk_lt i2)
      have hlt3 : ∀ j, (Value.slice A3 n3 c3).ownBlock = some j → w.heap.size + 6 ≤ j ∧ j < w5.heap.size := fun j hj => own_blk i5 hj
      have hlt4 : ∀ j, (Value.slice A4 n4 c4).ownBlock = some j → w.heap.size + 6 ≤ j ∧ j < w5.heap.size := fun j hj => own_blk i6 hj
      have hK5 : Aw (fun _ => False) W w6 := hKW.trans (Aw.of_below' hb5)
      have hsz := hb5.size
      have Hflat := Lib.hid (show ((readS l no).1.map rcR).flatten ++ (((blkL s).map recE).map rcR).flatten = ((readS l (no + 1)).1.map rcR).flatten by rw [HG.out, List.map_append, List.flatten_append])
      have Hl5 := Lib.hid (show (readS l (no + 1)).1.length = n3 + n5 ∧ (readS l (no + 1)).2.length = n4 by rw [HG.out]; exact ⟨by rw [List.length_append, i8.out.1, List.length_map, hnE], i8.out.2⟩)
      have H2 := Lib.hid (show (readS l (no + 1)).2 = (readS l no).2 by rw [HG.out])
      go_wp2_with fail
      refine Ord.Seg.go trivial (fun _ => hb5) ?_
      (try simp only [Act.put, List.setIfInBounds_toArray, List.set_cons_zero, List.set_cons_succ])
      clear hb5 hnE hr i0 i1 i2 i5 i6 hKW own5
      refine Ord.e_x rfl (by kernel_rfl) ?_
      refine wpList_appG (base := w.heap.size + 6) (n := n3) Try.underlying58 Hi1.out (by kernel_rfl) (by omega) own35 rfl (RdR.rd hrc5 (by omega)) rfl (rcR_one _) (k := n3 + n5) rfl Hflat.out (by unfold maxLen; omega) (by omega) (by omega) ?_
      intro A7 c7 w7 own7 hgr hob
      have haw7 := Aw.of_grown hgr
      have own47 := own_aw own45 haw7 (fun j hj hu => i7.out j hu hj)
      have hb7 := below_awG hbb haw7 (fun j hj => by have := hlt3 j hj; omega) (by omega)
      have k1 := haw7.keep j1 (fun hu => by have := hlt3 _ hu; omega)
      have k2 := haw7.keep j2 (fun hu => by have := hlt3 _ hu; omega)
      have Hd7 := Lib.hid (show Dis (.slice A7 (n3 + n5) c7) (.slice A4 n4 c4) from fun j h1 h2 => by
        rcases hob with h3 | h3
        · exact i7.out j (h3.symm.trans h1) h2
        · have h4 := h3.symm.trans h1
          injection h4 with h4
          have := hlt4 j h2
          omega)
      rw [← H2.out] at own47
      clear hob own35 own45 hrc5 hbb j1 j2
      go_wp2_with fail
      refine Ord.Seg.go trivial (fun h => by cases h) ?_
      (try simp only [Act.put, List.setIfInBounds_toArray, List.set_cons_zero, List.set_cons_succ])
      have s1 : w7.cell? ⟨w.heap.size, 0, none⟩ = some (.slice A3 n3 c3) := blk_cell k1 rfl
      have s2 := blk_free (i := 0) k1
      refine Ord.e_x rfl (by kernel_rfl) ?_
      go_wp2
      refine Ord.Seg.go trivial (fun h => by cases h) ?_
      (try simp only [Act.put, List.setIfInBounds_toArray, List.set_cons_zero, List.set_cons_succ])
      refine Ord.e_nil ?_
      have hA8 : Aw (fun k => k = w.heap.size) w7 (w7.setCell ⟨w.heap.size, 0, none⟩ (.slice A7 (n3 + n5) c7)) := (Aw.refl _ _).set _ rfl
      have m1 := blk_set (i := 0) k1 (.slice A7 (n3 + n5) c7)
      have m2 := hA8.keep k2 (by omega)
      have m3 := own_aw own7 hA8 (fun j hj hu => by have := (own_blk own7 hj).1; omega)
      have m4 := own_aw own47 hA8 (fun j hj hu => by have := hlt4 j hj; omega)
      have m5 := below_awG hb7 hA8 (fun k hk => by omega) (by have := blk_lt k2; omega)
      have hAA : Aw (fun k => (Value.slice A3 n3 c3).ownBlock = some k ∨ k = w.heap.size) W _ := ((hK5.mono (fun _ h => h.elim)).trans (haw7.mono fun k hk => .inl hk)).trans (hA8.mono fun k hk => .inr hk)
      refine ⟨hAA.keeps fun k hk hu => ?_, HRI.out _ ⟨m5, A7, n3 + n5, c7, A4, n4, c4, m1, m2, by omega, by omega, m3, m4, Hd7, Hl5⟩⟩
      have h9 := HK.out k hk
      rcases hu with hu | hu
      · have := hlt3 k hu; omega
      · omega
    · have HB0 := Lib.hid (Hbd.out (fun hgg => hg ⟨Hok.out.trans (decide_eq_true hgg.1), Hno.out.trans hgg.2⟩))
      have Hflat := Lib.hid (show (intR (readS l k).2).flatten ++ [Value.int .i64 (k : Int)] = (intR (readS l (k + 1)).2).flatten by rw [HB0.out]; unfold intR; rw [List.map_append, List.flatten_append]; rfl)
      have Hl5 := Lib.hid (show (readS l (k + 1)).1.length = n3 ∧ (readS l (k + 1)).2.length = n4 + 1 by rw [HB0.out]; exact ⟨i8.out.1, by rw [List.length_append, i8.out.2]; rfl⟩)
      have H2 := Lib.hid (show (readS l (k + 1)).1 = (readS l k).1 by rw [HB0.out])
      have hrd := rd_litG W 3 [.int .i64 (k : Int)] (by simp [maxLen])
      have own35 := own_up i5 hbn (Nat.le_refl _)
      have own45 := own_up i6 hbn (Nat.le_refl _)
      have hbb := bnx i0 hbn
      have j1 := blk_old i1 hbn (blk_lt i1)
      have j2 := blk_old i2 hbn (blk_lt i2)
      have hlt3 : ∀ j, (Value.slice A3 n3 c3).ownBlock = some j → w.heap.size + 6 ≤ j ∧ j < W.heap.size := fun j hj => own_blk i5 hj
      have hlt4 : ∀ j, (Value.slice A4 n4 c4).ownBlock = some j → w.heap.size + 6 ≤ j ∧ j < W.heap.size := fun j hj => own_blk i6 hj
      have hK5 : Aw (fun _ => False) W (W.alloc (.cells #[.int .i64 (k : Int)] 3)) := Aw.of_below' hbn
      have hsz := hbn.size
      have hwq := Hwq.out
      have hwu := Hwu.out
      have hwu2 := Hwu2.out
      clear hbn Hg Hbd HB0 i0 i1 i2 i5 i6 e3
      by_cases ho : ok = true
      · subst ho
        have hnn : ((no : Int) != (k : Int)) = true := by
          have hne : ¬ no = k := fun h => hg ⟨rfl, h⟩
          simp; exact fun h => hne (Int.ofNat_inj.1 h)
        gi_wp2_with (with_reducible refine stop_loadI 80 ?_)
        (try simp only [hwq])
        clear hwq hwu hwu2 Hwq Hwu Hwu2 d0 d1 hr hgF
        refine go_ (listIn_ (fun ⟨_, _, h⟩ => h) _ (by simp) _ _ ?_)
        go_wp2_with (at_builtin; refine stop_ ?_)
        generalize (W.alloc (.cells #[.int .i64 (k : Int)] 3)) = w6 at *
        refine go_ (wpList_appG (base := w.heap.size + 6) (n := n4) Try.underlying80 Hi2.out (by kernel_rfl) (by omega) own45 rfl hrd rfl (by intro u hu; rw [List.mem_singleton.1 hu]; rfl) (k := n4 + 1) rfl Hflat.out (by unfold maxLen; omega) (by omega) (by omega) ?_)
        intro A7 c7 w7 own7 hgr hob
        have haw7 := Aw.of_grown hgr
        have own37 := own_aw own35 haw7 (fun j hj hu => i7.out j hj hu)
        have hb7 := below_awG hbb haw7 (fun j hj => by have := hlt4 j hj; omega) (by omega)
        have k1 := haw7.keep j1 (fun hu => by have := hlt4 _ hu; omega)
        have k2 := haw7.keep j2 (fun hu => by have := hlt4 _ hu; omega)
        have Hd7 := Lib.hid (show Dis (.slice A3 n3 c3) (.slice A7 (n4 + 1) c7) from fun j h1 h2 => by
          rcases hob with h3 | h3
          · exact i7.out j h1 (h3.symm.trans h2)
          · have h4 := h3.symm.trans h2
            injection h4 with h4
            have := hlt3 j h1
            omega)
        rw [← H2.out] at own37
        clear hob own35 own45 hbb j1 j2 hrd e4
        have s1 : w7.cell? ⟨w.heap.size + 1, 0, none⟩ = some (.slice A4 n4 c4) := blk_cell k2 rfl
        have s2 := blk_free (i := 0) k2
        have hA8 : Aw (fun k => k = w.heap.size + 1) w7 (w7.setCell ⟨w.heap.size + 1, 0, none⟩ (.slice A7 (n4 + 1) c7)) := (Aw.refl _ _).set _ rfl
        have m1 := hA8.keep k1 (by omega)
        have m2 := blk_set (i := 0) k2 (.slice A7 (n4 + 1) c7)
        have m3 := own_aw own37 hA8 (fun j hj hu => by have := hlt3 j hj; omega)
        have m4 := own_aw own7 hA8 (fun j hj hu => by have := (own_blk own7 hj).1; omega)
        have m5 := below_awG hb7 hA8 (fun k hk => by omega) (by have := blk_lt k2; omega)
        have hAA : Aw (fun k => (Value.slice A4 n4 c4).ownBlock = some k ∨ k = w.heap.size + 1) W _ := ((hK5.mono (fun _ h => h.elim)).trans (haw7.mono fun k hk => .inl hk)).trans (hA8.mono fun k hk => .inr hk)
        have HAA := Lib.hid hAA
        clear hAA hA8 haw7 hK5 hgr
        go_wp2
        gi_wp2
        refine ⟨HAA.out.keeps fun k hk hu => ?_, HRI.out _ ⟨m5, A3, n3, c3, A7, n4 + 1, c7, m1, m2, by omega, by omega, m3, m4, Hd7, Hl5⟩⟩
        have h9 := HK.out k hk
        rcases hu with hu | hu
        · have := hlt4 k hu; omega
        · omega
      · replace ho : ok = false := by simpa using ho
        subst ho
        gi_wp2_with (with_reducible refine stop_loadI 80 ?_)
        (try simp only [hwq])
        clear hwq hwu hwu2 Hwq Hwu Hwu2 d0 d1 hr hgF
        refine go_ (listIn_ (fun ⟨_, _, h⟩ => h) _ (by simp) _ _ ?_)
        go_wp2_with (at_builtin; refine stop_ ?_)
        generalize (W.alloc (.cells #[.int .i64 (k : Int)] 3)) = w6 at *
        refine go_ (wpList_appG (base := w.heap.size + 6) (n := n4) Try.underlying80 Hi2.out (by kernel_rfl) (by omega) own45 rfl hrd rfl (by intro u hu; rw [List.mem_singleton.1 hu]; rfl) (k := n4 + 1) rfl Hflat.out (by unfold maxLen; omega) (by omega) (by omega) ?_)
        intro A7 c7 w7 own7 hgr hob
        have haw7 := Aw.of_grown hgr
        have own37 := own_aw own35 haw7 (fun j hj hu => i7.out j hj hu)
        have hb7 := below_awG hbb haw7 (fun j hj => by have := hlt4 j hj; omega) (by omega)
        have k1 := haw7.keep j1 (fun hu => by have := hlt4 _ hu; omega)
        have k2 := haw7.keep j2 (fun hu => by have := hlt4 _ hu; omega)
        have Hd7 := Lib.hid (show Dis (.slice A3 n3 c3) (.slice A7 (n4 + 1) c7) from fun j h1 h2 => by
          rcases hob with h3 | h3
          · exact i7.out j h1 (h3.symm.trans h2)
          · have h4 := h3.symm.trans h2
            injection h4 with h4
            have := hlt3 j h1
            omega)
        rw [← H2.out] at own37
        clear hob own35 own45 hbb j1 j2 hrd e4
        have s1 : w7.cell? ⟨w.heap.size + 1, 0, none⟩ = some (.slice A4 n4 c4) := blk_cell k2 rfl
        have s2 := blk_free (i := 0) k2
        have hA8 : Aw (fun k => k = w.heap.size + 1) w7 (w7.setCell ⟨w.heap.size + 1, 0, none⟩ (.slice A7 (n4 + 1) c7)) := (Aw.refl _ _).set _ rfl
        have m1 := hA8.keep k1 (by omega)
        have m2 := blk_set (i := 0) k2 (.slice A7 (n4 + 1) c7)
        have m3 := own_aw own37 hA8 (fun j hj hu => by have := hlt3 j hj; omega)
        have m4 := own_aw own7 hA8 (fun j hj hu => by have := (own_blk own7 hj).1; omega)
        have m5 := below_awG hb7 hA8 (fun k hk => by omega) (by have := blk_lt k2; omega)
        have hAA : Aw (fun k => (Value.slice A4 n4 c4).ownBlock = some k ∨ k = w.heap.size + 1) W _ := ((hK5.mono (fun _ h => h.elim)).trans (haw7.mono fun k hk => .inl hk)).trans (hA8.mono fun k hk => .inr hk)
        have HAA := Lib.hid hAA
        clear hAA hA8 haw7 hK5 hgr
        go_wp2
        gi_wp2
        refine ⟨HAA.out.keeps fun k hk hu => ?_, HRI.out _ ⟨m5, A3, n3, c3, A7, n4 + 1, c7, m1, m2, by omega, by omega, m3, m4, Hd7, Hl5⟩⟩
        have h9 := HK.out k hk
        rcases hu with hu | hu
        · have := hlt4 k hu; omega
        · omega
  case done =>
    rintro W ⟨i0, A3, n3, c3, A4, n4, c4, i1, i2, i3, i4, i5, i6, i7, i8⟩ hd
    have hpl : (plc stR l (n + 1) 0).length = n / 256 := by rw [← Hll.out]; exact plcR_len
    rw [hpl] at i3 i4 i5 i6 i8
    have hrc := RdC.own i5 i8.out.1 (readS_12 l _)
    have hri : RdI W W.heap.size A4 n4 c4 (readS l (n / 256)).2 := RdR.own (ls := intR (readS l (n / 256)).2) i6 (by unfold intR; rw [List.length_map]; exact i8.out.2) (intR_one _)
    have hwl := blk_lt hd
    have Hn12 := Lib.hid (readS_12 l (n / 256))
    generalize readS l (n / 256) = RS at *
    generalize n / 256 = N at *
    gi_wp2_with fail
    refine OrdY.region_at [0, 1, 2, 3] (fun _ => True) true [35, 36] (by kernel_rfl) (by kernel_rfl) rfl trivial ?_
    simp only [Ord.lst, List.filterMap_cons, List.filterMap_nil, List.getElem?_toArray, List.getElem?_cons_succ, List.getElem?_cons_zero]
    have hD : Below W.heap.size W W.drew := (Below.refl _ _).drew
    replace i0 := i0.drew
    replace i1 : W.drew.heap[w.heap.size]? = _ := i1
    replace i2 : W.drew.heap[w.heap.size + 1]? = _ := i2
    replace hd : W.drew.heap[w2.heap.size]? = _ := hd
    replace hrc := RdR.nx hrc hD
    replace hri := RdR.nx hri hD
    replace i5 := own_up i5 hD (Nat.le_refl _)
    replace i6 := own_up i6 hD (Nat.le_refl _)
    replace hwl : w2.heap.size < W.drew.heap.size := hwl
    generalize W.drew = W1 at *
    clear hD
    have q4 : W1.cell? ⟨w.heap.size, 0, none⟩ = some (.slice A3 n3 c3) := blk_cell i1 rfl
    have q5 : W1.cell? ⟨w.heap.size + 1, 0, none⟩ = some (.slice A4 n4 c4) := blk_cell i2 rfl
    refine OrdY.e_load Try.underlying58 rfl q4 rfl (by kernel_rfl) (by kernel_rfl) ?_
    (try simp only [Act.put, List.setIfInBounds_toArray, List.set_cons_zero, List.set_cons_succ])
    refine OrdY.e_load Try.underlying80 rfl q5 rfl (by kernel_rfl) (by kernel_rfl) ?_
    (try simp only [Act.put, List.setIfInBounds_toArray, List.set_cons_zero, List.set_cons_succ])
    ((with_reducible refine OrdY.e_p (v := ?_) ?_ ?_ ?_ ?_); rotate_left; (· exact rfl); (· kernel_rfl); (· intro w2; go_simp; try with_reducible rfl))
    (try simp only [Act.put, List.setIfInBounds_toArray, List.set_cons_zero, List.set_cons_succ])
    ((with_reducible refine OrdY.e_p (v := ?_) ?_ ?_ ?_ ?_); rotate_left; (· exact rfl); (· kernel_rfl); (· intro w2; go_simp; try with_reducible rfl))
    (try simp only [Act.put, List.setIfInBounds_toArray, List.set_cons_zero, List.set_cons_succ])
    refine OrdY.e_nil ?_
    have hA7 : Aw (fun k => k = w2.heap.size) W1 (W1.putObj w2.heap.size (.deferred none)) := (Aw.refl _ _).put _ rfl
    have m3 := own_aw i5 hA7 (fun k hk hu => by have := (own_blk i5 hk).1; omega)
    have m4 := own_aw i6 hA7 (fun k hk hu => by have := (own_blk i6 hk).1; omega)
    have m5 := below_awG i0 hA7 (fun k hk => by omega) (by omega)
    have hrc7 := RdC.own m3 i8.out.1 Hn12.out
    have hri7 : RdI _ _ A4 n4 c4 RS.2 := RdR.own (ls := intR RS.2) m4 (by unfold intR; rw [List.length_map]; exact i8.out.2) (intR_one _)
    clear q4 q5 hA7 m3 m4 hrc hri i0 i1 i2 i5 i6
    gi_wp2
    refine ⟨by simp, .inl ⟨_, _, rfl, run_takeDeferred hd, ?_⟩⟩
    refine ⟨.tuple #[.slice A3 n3 c3, .slice A4 n4 c4], by simp [results, go_sem], A3, n3, c3, A4, n4, c4, rfl, hrc7, hri7, m5⟩

end Go.Proofs.Ytplgcfjcdjlnbaa

/-
  What Read finds in a log (plain); knows of law 37 walked (printed by gen_resc6.py).
-/
set_option linter.unusedSimpArgs false
set_option linter.unusedVariables false
namespace Go.Proofs.Ytplgcfjcdjlnbaa
open Go.RowKit NumLaw CrcLaw
attribute [local go_sem] Addr.add_mid

/-- Of a log's blocks: all records, none bad. -/
theorem readS_cat {ev : Nat} {Bs : List (List En)} (h : BsOK ev 0 Bs) (hn : Bs.length < 4294967296) : ∀ k, k ≤ Bs.length → readS (catB 0 Bs) k = (((Bs.take k).flatten).map recE, [])
  | 0, _ => by simp [readS]
  | k + 1, hk => by
    obtain ⟨L, hL⟩ : ∃ L, Bs[k]? = some L := ⟨_, List.getElem?_eq_getElem (by omega)⟩
    have hat := catB_at Bs 0 k 0 L h (by omega) hL
    rw [Nat.zero_add] at hat
    obtain ⟨q1, q2, _⟩ := BsOK_at Bs 0 k L h hL
    obtain ⟨t1, t2, t3, _⟩ := blk_there (no := k) (show k < 4294967296 by omega) q1.1 (logQ_put q1 q2)
    have hpg : pgR (catB 0 Bs) k = putB k L := hat
    rw [readS_good (by rw [hpg]; exact ⟨t1, t2⟩), hpg, t3, readS_cat h hn k (by omega), take_succ hL]
    simp
theorem readS_wr {ev : Nat} {R : List (Nat × List Int)} (hq : ∀ p ∈ R, RcQ p) (hn : R.length ≤ 1000000) : readS (wrO ev R) ((wrO ev R).length / 256) = (R, []) ∧ (wrO ev R).length ≤ 256 * (R.length + 1) := by
  obtain ⟨Bs, e1, e2, e3, e4⟩ := wr_blocks (ev := ev) hq hn
  have hl := catB_len Bs 0 0 e2 (by omega)
  rw [e1, hl, show 256 * Bs.length / 256 = Bs.length by omega, readS_cat e2 (by omega) _ (Nat.le_refl _), List.take_length, e3]
  exact ⟨rfl, by omega⟩
theorem readS_zero : readS (List.replicate 300 0) 1 = ([], [0]) := by
  have hb : ¬ goodR (pgR (List.replicate 300 0) 0) 0 := fun h => blk_mark (s := pgR (List.replicate 300 0) 0) (by decide) h.1
  rw [readS_bad hb]
  rfl
theorem made_zero : (madeCells (Value.int .u8 0).cells (300 * 1)).toList = bv (List.replicate 300 0) := by kernel_rfl
theorem stop_make {P : Program} {w : World} {ops : Array Oper} {rest : List Oper} {a : Act} {Q : Exit → Act → World → Prop} {d : Option Tmp} {t ty : TypeId} {x y : Operand} {pos : String} {af : Array Edge}
    (h : Stop (wpList P ops Q (⟨d, .makeSlice t x y, ty, pos, af, none⟩ :: rest) a w)) : wpList P ops Q (⟨d, .makeSlice t x y, ty, pos, af, none⟩ :: rest) a w := h
set_option maxRecDepth 10000 in
set_option maxHeartbeats 4000000 in
theorem knows37 (w : World) : Calls Try.prog 54 #[] w fun e w' => e = .returned (.bool true) ∧ Below w.heap.size w w' := by
  obtain ⟨i0, hi⟩ := info_parts u8_info
  have Hi := Lib.hid hi
  have hq7 : ∀ p ∈ [((7 : Nat), z12)], RcQ p := by
    intro p hp
    rw [List.mem_singleton.1 hp]
    exact ⟨by show (7 : Nat) < 4294967296; omega, rfl, z12_32⟩
  obtain ⟨h7, h7l⟩ := readS_wr (ev := 1) hq7 (by simp)
  have H7 := Lib.hid h7
  have H7l : Hid ((wrO 1 [((7 : Nat), z12)]).length ≤ 512) := Lib.hid h7l
  have Hq7 := Lib.hid hq7
  clear hi h7 h7l hq7
  go_enter Try.func54, Try.ntmps54
  go_wp2_with (with_reducible refine stop_make ?_)
  refine go_ (wpList_make_full w rfl _ _ _ rfl w.heap.size 5 i0 (.int .u8 0) 1 Try.underlying26 Hi.out.1 Hi.out.2.1 Hi.out.2.2.1 .i64 .i64 _ _ 300 rfl rfl rfl rfl (by rw [Hi.out.2.2.2]; decide) (by decide) (Nat.le_refl _) ?_)
  intro w1 own1 hgr
  have hb1 : Below w.heap.size w w1 := Below.grown (Below.refl _ _) hgr (Nat.le_refl _) (fun j hj => by cases hj)
  rw [made_zero] at own1
  have hr1 := Rd.own own1
  clear hgr own1
  go_wp2_with fail
  go_fit (read37_any (some ⟨w.heap.size, 0, none⟩) 300 300 w1.heap.size (List.replicate 300 0) w1 hr1 (Nat.le_refl _) (by omega))
  rw [show 300 / 256 = 1 from rfl, readS_zero]
  unfold RetRd
  rintro e w2 ⟨A2, n2, c2, A3, n3, c3, rfl, hrc2, hri2, hbx⟩
  obtain rfl : n2 = 0 := (RdC.len hrc2).symm
  obtain rfl : n3 = 1 := (RdI.len hri2).symm
  have hb2 := bnx hb1 hbx
  clear hr1 hb1 hbx hrc2 w1
  have hrl : RdC (w2.alloc (.cells #[.int .u32 7, .int .i32 0, .int .i32 0, .int .i32 0, .int .i32 0, .int .i32 0, .int .i32 0, .int .i32 0, .int .i32 0, .int .i32 0, .int .i32 0, .int .i32 0, .int .i32 0] 25)) (w2.heap.size + 1) (some ⟨w2.heap.size, 0, none⟩) 1 1 [((7 : Nat), z12)] :=
    RdR.lit (size := 13) (e := 25) w2 [rcC 7 z12] _ rfl (by intro r hr; rw [List.mem_singleton.1 hr]; exact rcC_size _ _ rfl) (by simp [maxLen]) 1 rfl
  have hbn : Below w2.heap.size w2 (w2.alloc (.cells #[.int .u32 7, .int .i32 0, .int .i32 0, .int .i32 0, .int .i32 0, .int .i32 0, .int .i32 0, .int .i32 0, .int .i32 0, .int .i32 0, .int .i32 0, .int .i32 0, .int .i32 0] 25)) := (Below.refl _ _).alloc (Nat.le_refl _) _
  have hb3 := bnx hb2 hbn
  have hri3 : RdI _ _ A3 1 c3 [0] := RdR.nx hri2 hbn
  have hsz : w2.heap.size + 1 ≤ (w2.alloc (.cells #[.int .u32 7, .int .i32 0, .int .i32 0, .int .i32 0, .int .i32 0, .int .i32 0, .int .i32 0, .int .i32 0, .int .i32 0, .int .i32 0, .int .i32 0, .int .i32 0, .int .i32 0] 25)).heap.size := by rw [World.size_alloc]; exact Nat.le_refl _
  clear hbn hb2 hri2
  go_wp2_with fail
  generalize (w2.alloc (.cells #[.int .u32 7, .int .i32 0, .int .i32 0, .int .i32 0, .int .i32 0, .int .i32 0, .int .i32 0, .int .i32 0, .int .i32 0, .int .i32 0, .int .i32 0, .int .i32 0, .int .i32 0] 25)) = w4 at *
  generalize w2.heap.size = gr at *
  go_fit (qwrite_any 1 (some ⟨gr, 0, none⟩) 1 1 (gr + 1) [((7 : Nat), z12)] w4 (by omega) (by omega) hrl hsz Hq7.out (by omega))
  rintro e w5 ⟨A5, c5, n5, rfl, own5, hbx⟩
  have hl5 := own_len own5
  have hr5 := Rd.own own5
  have hb5 := bnx hb3 hbx
  have hri5 : RdI _ _ A3 1 c3 [0] := RdR.nx hri3 hbx
  have H77 := H7.out
  have h7l := H7l.out
  rw [hl5] at H77 h7l
  clear hbx hb3 hri3 own5 hrl hsz
  go_wp2_with fail
  go_fit (read37_any A5 n5 c5 w5.heap.size (wrO 1 [((7 : Nat), z12)]) w5 hr5 (Nat.le_refl _) (by omega))
  rw [H77]
  unfold RetRd
  rintro e w6 ⟨A6, n6, c6, A7, n7, c7, rfl, hrc6, hri6, hbx⟩
  obtain rfl : n6 = 1 := (RdC.len hrc6).symm
  obtain rfl : n7 = 0 := (RdI.len hri6).symm
  have hb6 := bnx hb5 hbx
  have hri7 : RdI _ _ A3 1 c3 [0] := RdR.nx hri5 hbx
  clear hbx hb5 hri5 H77 h7l hr5 hl5 hri6 w5 w4 w2
  obtain ⟨gS, oS, p, hA6, hgS, hp, hrp⟩ := RdC.at_ hrc6 (k := 0) (by omega)
  injection hp with hp
  subst hp
  subst hA6
  have hrt : w6.cell? ⟨gS, oS + 0 * 13, none⟩ = some (.int .u32 7) := hrp 0 _ rfl
  rw [Nat.zero_mul, Nat.add_zero] at hrt
  have hrd := (RdR.lit (size := 1) (e := 3) w6 [[.int .i64 0]] #[.int .i64 0] rfl (by intro r hr; rw [List.mem_singleton.1 hr]; rfl) (by simp [maxLen]) 1 rfl)
  have hbn : Below w6.heap.size w6 (w6.alloc (.cells #[.int .i64 0] 3)) := (Below.refl _ _).alloc (Nat.le_refl _) _
  have hb7 := bnx hb6 hbn
  have hri8 : RdI _ _ A3 1 c3 [0] := RdR.nx hri7 hbn
  have hrt8 := (hbn.cell (p := ⟨gS, oS, none⟩) hgS).trans hrt
  have hsz : w6.heap.size + 1 ≤ (w6.alloc (.cells #[.int .i64 0] 3)).heap.size := by rw [World.size_alloc]; exact Nat.le_refl _
  go_wp2_with fail
  generalize (w6.alloc (.cells #[.int .i64 0] 3)) = w7 at *
  have hgl : gS < w7.heap.size := by omega
  go_fit (ints37_any A3 1 c3 (some ⟨w6.heap.size, 0, none⟩) 1 1 [0] [0] w7.heap.size w7 hri8 (RdR.more (show RdI w7 (w6.heap.size + 1) _ 1 1 [0] from hrd) hsz) (Nat.le_refl _))
  rintro e w8 ⟨rfl, hbx⟩
  have hb8 := bnx hb7 hbx
  have hrt9 := (hbx.cell (p := ⟨gS, oS, none⟩) hgl).trans hrt8
  rw [show decide (([0] : List Nat) = [0]) = true from rfl]
  clear hbx hb7 hrt8 hrt hrp hrd hri8 hri7 hb6
  go_wp2
  go_ret
  exact ⟨rfl, hb8⟩

end Go.Proofs.Ytplgcfjcdjlnbaa
