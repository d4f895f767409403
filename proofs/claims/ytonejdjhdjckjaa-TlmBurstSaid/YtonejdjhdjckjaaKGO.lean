/-
  Several texts in one: Sch19 Sch20 Sch21.
-/
import Derived.Test.YtonejdjhdjckjaaKGN
import Derived.Test.YtonejdjhdjckjaaKGJ
import Derived.Test.YtonejdjhdjckjaaKGM
import Derived.Test.YtonejdjhdjckjaaKGL
import Derived.Lib.BufferOwn
/-
  the document's fields and from walked (printed by gen_sch6.py).
-/
set_option linter.unusedSimpArgs false
set_option linter.unusedVariables false
namespace Go.Proofs.Ytonejdjhdjckjaa
open Go.RowKit NumLaw
attribute [local go_sem] Addr.add_mid
attribute [-go_sem] run_eql_struct run_neq_struct

theorem fld_rep (p : PtT) (h : szQ p.sz) : FB (fldsP p) := fun f hf => by
  unfold fldsP at hf
  rw [List.mem_replicate] at hf
  rw [hf.2]
  exact any_fb h _
theorem rep_snoc (f : FieldV) (k : Nat) : fcs (List.replicate k f) ++ fcs [f] = fcs (List.replicate (k + 1) f) := by rw [List.replicate_succ', fcs_app]
set_option maxRecDepth 20000 in
set_option maxHeartbeats 8000000 in
theorem qfields_any (p : PtT) (w : World) (hq : szQ p.sz) (hm : mx1 p.mn ≤ 100) :
    Calls Try.prog 62 #[.agg (ptC p).toArray] w fun e w' => ∃ (A : Option Addr) (c : Nat), e = .returned (.slice A (mx1 p.mn) c) ∧ RdF w' w'.heap.size A (mx1 p.mn) c (fldsP p) ∧ Below w.heap.size w w' := by
  obtain ⟨i2, hi2⟩ := info_parts field_info
  have Hi2 := Lib.hid hi2
  have Hfb := Lib.hid (fld_rep p hq)
  have hfx := fun w => qnumbers_any p w
  have hany := fun w => qAny14_any p.sz p.sg w
  have hfp : fldsP p = List.replicate (mx1 p.mn) (anyF p.sz p.sg) := rfl
  generalize fldsP p = FL at *
  obtain ⟨s, z, g, m⟩ := p
  dsimp only at hq hm hany hfp
  generalize anyF z g = f at *
  obtain ⟨d, hd⟩ : ∃ d, d = mx1 m := ⟨_, rfl⟩
  have hfx2 : ∀ w, Calls Try.prog 51 #[.agg #[.string s, .int .i64 z, .bool g, .int .i64 m]] w fun e w' => e = .returned (.int .i64 (d : Int)) ∧ Below w.heap.size w w' := by rw [hd]; exact hfx
  obtain ⟨fs, fg, flo, fhi⟩ := f
  have hany2 : ∀ w, Calls Try.prog 92 #[.int .i64 z, .bool g] w fun e w' => e = .returned (.agg #[.int .i64 fs, .bool fg, .int .i64 flo, .int .i64 fhi]) ∧ Below w.heap.size w w' := hany
  show Calls _ _ #[.agg #[.string s, .int .i64 z, .bool g, .int .i64 m]] _ _
  dsimp only
  rw [← hd] at hm hfp ⊢
  have Hfp := Lib.hid hfp
  have Hfx := Lib.hid hfx2
  have Hany := Lib.hid hany2
  have a0 := heap_alloc_new w (.cells #[.string s, .int .i64 z, .bool g, .int .i64 m] 28)
  have hba : Below w.heap.size w (w.alloc (.cells #[.string s, .int .i64 z, .bool g, .int .i64 m] 28)) := (Below.refl _ _).alloc (Nat.le_refl _) _
  have hlt0 := blk_lt a0
  clear hfx hfx2 hany hany2 hi2 hd hq hfp
  go_enter Try.func62, Try.ntmps62
  go_wp2_with fail
  obtain ⟨b0, hb0⟩ : ∃ b0, b0 = w.heap.size := ⟨_, rfl⟩
  rw [← hb0] at a0 hlt0 ⊢
  generalize (w.alloc (.cells #[.string s, .int .i64 z, .bool g, .int .i64 m] 28)) = w1 at *
  clear hb0
  go_loopw [3, 4] (fun o i wr => ∃ (k c3 : Nat) (A3 : Option Addr), k ≤ d ∧ i = .int .i64 k ∧ o = .slice A3 k c3 ∧ Below w1.heap.size w1 wr ∧ wr.ownsRow w1.heap.size 99 4 (.slice A3 k c3) k (fcs (List.replicate k ⟨fs, fg, flo, fhi⟩))) (fun _ i _ => d - (intOf i).toNat)
  case atStart => exact ⟨0, 0, none, by omega, rfl, rfl, Below.refl _ _, World.ownsRow_nil _ _ _ _⟩
  case round =>
    obtain ⟨k, c3, A3, hk, rfl, rfl, hb, own3⟩ := hrel
    have d0 := blk_cell (i := 0) (v := .string s) (blk_old a0 hb hlt0) rfl
    have d1 := blk_cell (i := 1) (v := .int .i64 z) (blk_old a0 hb hlt0) rfl
    have d2 := blk_cell (i := 2) (v := .bool g) (blk_old a0 hb hlt0) rfl
    have d3 := blk_cell (i := 3) (v := .int .i64 m) (blk_old a0 hb hlt0) rfl
    go_wp2_with fail
    go_fit (Hfx.out _)
    rintro e w2 ⟨rfl, hbx⟩
    have hb2 := bnx hb hbx
    have own4 := own_up own3 hbx (Nat.le_refl _)
    clear d0 d1 d2 d3 hb hbx own3
    by_cases hlt : k < d
    · have hlt' : (k : Int) < (d : Int) := by omega
      have d1 := blk_cell (i := 1) (v := .int .i64 z) (blk_old a0 hb2 hlt0) rfl
      have d2 := blk_cell (i := 2) (v := .bool g) (blk_old a0 hb2 hlt0) rfl
      go_wp2_with fail
      go_fit (Hany.out _)
      rintro e w5 ⟨rfl, hbx⟩
      have hb5 := bnx hb2 hbx
      have own5 := own_up own4 hbx (Nat.le_refl _)
      have hbn : Below w5.heap.size w5 (w5.alloc (.cells #[.int .i64 fs, .bool fg, .int .i64 flo, .int .i64 fhi] 99)) := (Below.refl _ _).alloc (Nat.le_refl _) _
      have hrd : Rd (w5.alloc (.cells #[.int .i64 fs, .bool fg, .int .i64 flo, .int .i64 fhi] 99)) (w5.heap.size + 1) 4 (some ⟨w5.heap.size, 0, none⟩) 1 1 (fcs [⟨fs, fg, flo, fhi⟩]) := rd_litF w5 99 [⟨fs, fg, flo, fhi⟩] _ rfl (by simp [maxLen])
      have hb6 := bnx hb5 hbn
      have own6 := own_up own5 hbn (Nat.le_refl _)
      clear d1 d2 hbx hb2 own4 hb5 own5 hbn
      go_wp2_with (at_builtin; refine stop_ ?_)
      generalize (w5.alloc (.cells #[.int .i64 fs, .bool fg, .int .i64 flo, .int .i64 fhi] 99)) = w6 at *
      refine go_ (wpList_appG (base := w1.heap.size) (n := k) Try.underlying76 Hi2.out rfl (by omega) own6 rfl hrd rfl (fcs_one _) (k := k + 1) rfl (rep_snoc _ _) (by unfold maxLen; omega) (by omega) hb6.size ?_)
      intro A8 c8 w8 own8 hgr hob
      have hb8 := Below.grown hb6 hgr hb6.size (fun j hj => (own_blk own6 hj).1)
      clear hgr hob own6 hrd hb6
      go_wp2
      go_roundw
      case rel => exact ⟨k + 1, c8, A8, by omega, by go_num, rfl, hb8, own8⟩
      case measure => simp [intOf]; omega
    · obtain rfl : k = d := by omega
      have hbf := bnx hba hb2
      rw [← Hfp.out] at own4
      have hrf := rdF_own own4 Hfb.out
      clear own4 hb2 hlt
      go_wp2
      go_ret
      exact ⟨A3, c3, rfl, hrf, hbf⟩
def fromL (L : List PtT) : List Nat := (List.range L.length).map fun k => cntS (L.take k)
theorem fromL_len (L : List PtT) : (fromL L).length = L.length := by unfold fromL; rw [List.length_map, List.length_range]
theorem fromL_at {L : List PtT} {n : Nat} (h : n < L.length) : (fromL L)[n]? = some (cntS (L.take n)) := by unfold fromL; rw [List.getElem?_map, List.getElem?_range h]; rfl
theorem from_snoc {L : List PtT} {k : Nat} {x : PtT} (h : L[k]? = some x) : fromL (L.take (k + 1)) = fromL (L.take k) ++ [cntS (L.take k)] := by
  have hk : k < L.length := (List.getElem?_eq_some_iff.1 h).1
  unfold fromL
  rw [List.length_take, List.length_take, Nat.min_eq_left (by omega), Nat.min_eq_left (by omega), List.range_succ, List.map_append]
  congr 1
  · refine List.map_congr_left fun j hj => ?_
    have := List.mem_range.1 hj
    rw [List.take_take, List.take_take, Nat.min_eq_left (by omega), Nat.min_eq_left (by omega)]
  · simp [List.take_take]
theorem iv_snoc (L : List Nat) (k : Nat) : (ivR L).flatten ++ [Value.int .i64 (k : Int)] = (ivR (L ++ [k])).flatten := by rw [iv_flat, iv_flat, List.map_append]; rfl
set_option maxRecDepth 20000 in
set_option maxHeartbeats 8000000 in
theorem from31_own (A : Option Addr) (n c : Nat) (L : List PtT) (w : World) (h : RdP w w.heap.size A n c L) (hq : PtN L) :
    Calls Try.prog 60 #[.slice A n c] w fun e w' => ∃ (A' : Option Addr) (c' : Nat), e = .returned (.slice A' n c') ∧ RdN w' w'.heap.size A' n c' (fromL L) ∧ w'.ownsRow w.heap.size 3 1 (.slice A' n c') n (ivR (fromL L)).flatten ∧ Below w.heap.size w w' := by
  have hll := h.len
  have hn : n ≤ 100 := by rw [← hll]; exact hq.2.1
  have hmx := h.2.2.2.1
  have hle := h.2.2.1
  unfold maxLen at hmx
  obtain ⟨i1, hi1⟩ := info_parts int_info31
  have Hi1 := Lib.hid hi1
  have Hll := Lib.hid hll
  have Hbd := Lib.hid (fun k => cnt_bd L hq k)
  have Hsn := Lib.hid (fun (l : List PtT) (p : PtT) => cntS_snoc p l)
  have Hq := Lib.hid hq
  clear hi1 hll hq
  go_enter Try.func60, Try.ntmps60
  go_wp2_with fail
  go_loopw [3, 4, 5] (fun o a i wr => ∃ (k s c3 : Nat) (A3 : Option Addr), k ≤ n ∧ i = .int .i64 k ∧ a = .int .i64 (s : Int) ∧ Hid (s = cntS (L.take k)) ∧ s ≤ 8000 * 100 ∧ o = .slice A3 k c3 ∧ Below w.heap.size w wr ∧ wr.ownsRow w.heap.size 3 1 (.slice A3 k c3) k (ivR (fromL (L.take k))).flatten) (fun _ _ i _ => n - (intOf i).toNat)
  case atStart => exact ⟨0, 0, 0, none, by omega, rfl, rfl, Lib.hid rfl, by omega, rfl, Below.refl _ _, World.ownsRow_nil _ _ _ _⟩
  case round =>
    obtain ⟨k, s, c3, A3, hk, rfl, rfl, Hs, hs, rfl, hb, own3⟩ := hrel
    by_cases hlt : k < n
    · have hlt' : (k : Int) < (n : Int) := by omega
      obtain ⟨g, off, x, rfl, hg, hx, hr⟩ := RdP.at_ h hlt
      have hbn : Below wr.heap.size wr (wr.alloc (.cells #[.int .i64 (s : Int)] 3)) := (Below.refl _ _).alloc (Nat.le_refl _) _
      have hrd : Rd _ _ 1 _ 1 1 [Value.int .i64 (s : Int)] := RdR.rd (RdR.lit (size := 1) (e := 3) wr [[Value.int .i64 (s : Int)]] #[.int .i64 (s : Int)] rfl (by intro r hr; rw [List.mem_singleton.1 hr]; rfl) (by simp [maxLen]) 1 rfl) (by omega)
      have hb4 := bnx hb hbn
      have own4 := own_up own3 hbn (Nat.le_refl _)
      have hfl := from_snoc hx
      rw [← Hs.out] at hfl
      have Hfl := Lib.hid (show (ivR (fromL (L.take k))).flatten ++ [Value.int .i64 (s : Int)] = (ivR (fromL (L.take (k + 1)))).flatten by rw [hfl, iv_snoc])
      have hd100 := Hq.out.2.2 x (List.mem_of_getElem? hx)
      have hfx := fun w => qnumbers_any x w
      have hsm := Hsn.out (L.take k) x
      rw [← take_succ hx, ← Hs.out] at hsm
      have hbd := Hbd.out (k + 1)
      rw [hsm] at hbd
      have Hsm := Lib.hid hsm.symm
      obtain ⟨s1, z1, g1, m1⟩ := x
      obtain ⟨d, hd⟩ : ∃ d : Nat, d = mx1 m1 := ⟨_, rfl⟩
      dsimp only at Hsm hbd hd100
      rw [← hd] at Hsm hbd hd100
      have hfx2 : ∀ w, Calls Try.prog 51 #[.agg #[.string s1, .int .i64 z1, .bool g1, .int .i64 m1]] w fun e w' => e = .returned (.int .i64 (d : Int)) ∧ Below w.heap.size w w' := by rw [hd]; exact hfx
      have Hfx := Lib.hid hfx2
      have Hr := Lib.hid (show ∀ wq, Below w.heap.size w wq → wq.rangeAt g (off + k * 4) (ptC ⟨s1, z1, g1, m1⟩) from fun wq hbq j v hv => (hbq.cell (p := ⟨g, off + k * 4 + j, none⟩) hg).trans (hr j v hv))
      clear hx hr hfx hfx2 hsm hd hb own3 hbn hfl
      go_wp2_with (at_builtin; refine stop_ ?_)
      generalize (wr.alloc (.cells #[.int .i64 (s : Int)] 3)) = w4 at *
      refine go_ (wpList_appG (base := w.heap.size) (n := k) Try.underlying60 Hi1.out rfl (by omega) own4 rfl hrd rfl (by simp [Value.oneCell']) (k := k + 1) rfl Hfl.out (by unfold maxLen; omega) (by omega) hb4.size ?_)
      intro A5 c5 w5 own5 hgr hob
      have hb5 := Below.grown hb4 hgr hb4.size (fun j hj => (own_blk own4 hj).1)
      clear hgr hob own4 hrd hb4
      have hrr := Hr.out _ hb5
      have k0 : w5.cell? ⟨g, off + k * 4 + 0, none⟩ = some (.string s1) := hrr 0 _ rfl
      have k1 : w5.cell? ⟨g, off + k * 4 + 1, none⟩ = some (.int .i64 z1) := hrr 1 _ rfl
      have k2 : w5.cell? ⟨g, off + k * 4 + 2, none⟩ = some (.bool g1) := hrr 2 _ rfl
      have k3 : w5.cell? ⟨g, off + k * 4 + 3, none⟩ = some (.int .i64 m1) := hrr 3 _ rfl
      rw [Nat.add_zero] at k0
      clear hrr
      go_wp2_with fail
      go_fit (Hfx.out _)
      rintro e w6 ⟨rfl, hbx⟩
      have hb6 := bnx hb5 hbx
      have own6 := own_up own5 hbx (Nat.le_refl _)
      clear k0 k1 k2 k3 hbx hb5 own5
      go_wp2
      go_roundw
      case rel => exact ⟨k + 1, s + d, c5, A5, by omega, by go_num, by go_num, Lib.hid Hsm.out, hbd, rfl, hb6, own6⟩
      case measure => simp [intOf]; omega
    · obtain rfl : k = n := by omega
      have htk : L.take k = L := List.take_of_length_le (by rw [Hll.out]; exact Nat.le_refl _)
      rw [htk] at own3
      have hrn : RdN wr wr.heap.size A3 k c3 (fromL L) := RdR.own (ls := ivR (fromL L)) own3 (by unfold ivR; rw [List.length_map, fromL_len]; exact Hll.out) (iv_row _)
      have hown := own3
      clear own3 htk
      go_wp2
      go_ret
      exact ⟨A3, c3, rfl, hrn, hown, hb⟩
theorem from31_any (A : Option Addr) (n c : Nat) (L : List PtT) (w : World) (h : RdP w w.heap.size A n c L) (hq : PtN L) :
    Calls Try.prog 60 #[.slice A n c] w fun e w' => ∃ (A' : Option Addr) (c' : Nat), e = .returned (.slice A' n c') ∧ RdN w' w'.heap.size A' n c' (fromL L) ∧ Below w.heap.size w w' :=
  (from31_own A n c L w h hq).mono fun e w' ⟨A', c', h1, h2, _, h4⟩ => ⟨A', c', h1, h2, h4⟩

end Go.Proofs.Ytonejdjhdjckjaa

/-
  the document's Put walked (printed by gen_sch6.py).
-/
set_option linter.unusedSimpArgs false
set_option linter.unusedVariables false
namespace Go.Proofs.Ytonejdjhdjckjaa
open Go.RowKit NumLaw
attribute [local go_sem] Addr.add_mid
attribute [-go_sem] run_eql_struct run_neq_struct

theorem part_bytes {v : List Int} {p : PtT} {a : Nat} (hq : szQ p.sz) (hm : mx1 p.mn ≤ 100) (h : a + mx1 p.mn ≤ v.length) (ho : okP v (p, a) = true) : (byP v (p, a)).length ≤ 800 := by
  obtain ⟨h1, h2⟩ := put_part hq h
  rw [if_pos ho] at h1
  have h3 := (shape_there h1).2.2
  rw [h2 ho] at h3
  rw [h3]
  unfold widthL
  rw [if_pos (fldsP_right hq), fldsP_sum hq]
  exact Nat.le_trans (Nat.mul_le_mul (szQ_le hq) hm) (by omega)
set_option maxRecDepth 20000 in
set_option maxHeartbeats 8000000 in
theorem qput31_any (id : Int) (A' : Option Addr) (n' c' : Nat) (v : List Int) (w : World) (h : Rd w w.heap.size 1 A' n' c' (v.map (Value.int .i64))) :
    Calls Try.prog 27 #[.int .i64 id, .slice A' n' c'] w (RetPS w (sPB (frm id) v) (sPE (frm id) v)) := by
  have hlv : v.length = n' := by have := h.len; simpa using this
  have hp := qparts_any id w
  have hcn := fun w => qcount_any id w
  have hN := frm_n id
  have hM := (frm_nm id).2.2
  have hC := frm_cnt id
  have hmx := h.max
  have hle := h.le
  unfold maxLen at hmx
  generalize frm id = p at *
  obtain ⟨nm, L⟩ := p
  obtain ⟨m, hm⟩ : ∃ m, m = cntS L := ⟨_, rfl⟩
  dsimp only at hp hcn hN hM hC
  rw [← hm] at hcn hC
  have Hp := Lib.hid hp
  have Hcn := Lib.hid hcn
  have HN := Lib.hid hN
  have Hm := Lib.hid hm
  have Hor := Lib.hid (fun A n c w => order31_any A n c L w)
  have Hfr := Lib.hid (fun A n c w h => from31_any A n c L w h hN)
  have Hwp := Lib.hid (wireP_len L)
  clear hp hcn hN hm
  cases hem : nm.toList.isEmpty with
  | true =>
    have hv : sPB (nm, L) v = [] ∧ sPE (nm, L) v = 6 := by unfold sPB sPE; rw [if_pos hem, if_pos hem]; exact ⟨rfl, rfl⟩
    have Hv := Lib.hid hv
    have hL0 : L.length = 0 := by rw [hem] at hM; cases L with
      | nil => rfl
      | cons x l => exact absurd hM.symm Bool.false_ne_true
    clear hv hM hlv
    go_enter Try.func27, Try.ntmps27
    go_wp2_with fail
    go_fit Hp.out
    unfold RetPt
    rintro e w1 ⟨A, n, c, rfl, hr, hb⟩
    have Hll := Lib.hid hr.len
    have hn : n ≤ 100 := by rw [← hr.len]; exact HN.out.2.1
    have hmxL := hr.2.2.2.1
    have hleL := hr.2.2.1
    unfold maxLen at hmxL
    obtain rfl : n = 0 := by have := Hll.out; omega
    clear hr
    go_wp2
    go_ret2
    rw [Hv.out.1, Hv.out.2]
    exact ⟨none, 0, 0, rfl, World.ownsRow_nil _ _ _ _, hb⟩
  | false =>
    have hv : sPB (nm, L) v = putSB L v ∧ sPE (nm, L) v = putSE L v := by unfold sPB sPE; rw [if_neg (by rw [hem]; exact Bool.false_ne_true), if_neg (by rw [hem]; exact Bool.false_ne_true)]; exact ⟨rfl, rfl⟩
    have Hv := Lib.hid hv
    have hL0 : ¬ L.length = 0 := by rw [hem] at hM; cases L with
      | nil => exact absurd hM.symm (fun e => by cases e)
      | cons x l => simp
    clear hv hM
    by_cases hnm : n' = m
    case neg =>
      have hv2 : putSB L v = [] ∧ putSE L v = 1 := by
        have : ¬ v.length = cntS L := by rw [hlv, ← Hm.out]; exact hnm
        unfold putSB putSE; rw [if_neg this, if_neg this]; exact ⟨rfl, rfl⟩
      have Hv2 := Lib.hid hv2
      have hnq : ((n' : Int) != (m : Int)) = true := by simp; omega
      clear hv2 hlv
      go_enter Try.func27, Try.ntmps27
      go_wp2_with fail
      go_fit Hp.out
      unfold RetPt
      rintro e w1 ⟨A, n, c, rfl, hr, hb⟩
      have Hll := Lib.hid hr.len
      have hn : n ≤ 100 := by rw [← hr.len]; exact HN.out.2.1
      have hmxL := hr.2.2.2.1
      have hleL := hr.2.2.1
      unfold maxLen at hmxL
      have hn0 : ¬ (n : Int) = 0 := by have := Hll.out; omega
      have hn00 : ¬ n = 0 := by omega
      clear hr
      go_wp2_with fail
      go_fit (Hcn.out w1)
      rintro e w2 ⟨rfl, hbx⟩
      have hb2 := bnx hb hbx
      clear hbx hb
      go_wp2
      go_ret2
      rw [Hv.out.1, Hv.out.2, Hv2.out.1, Hv2.out.2]
      exact ⟨none, 0, 0, rfl, World.ownsRow_nil _ _ _ _, hb2⟩
    subst hnm
    have hnq : ((n' : Int) != (n' : Int)) = false := by simp
    have hvl : v.length = cntS L := by rw [hlv, ← Hm.out]
    have Hvl := Lib.hid hvl
    have He := Lib.hid (putSE_flat HN.out.1 hvl)
    have Hb := Lib.hid (putSB_flat HN.out.1 hvl)
    obtain ⟨i1, hi1⟩ := info_parts i64_info
    have Hi1 := Lib.hid hi1
    obtain ⟨i2, hi2⟩ := info_parts u8_info
    have Hi2 := Lib.hid hi2
    clear hlv hvl hi1 hi2
    go_enter Try.func27, Try.ntmps27
    go_wp2_with fail
    go_fit Hp.out
    unfold RetPt
    rintro e w1 ⟨A, n, c, rfl, hr, hb⟩
    have Hll := Lib.hid hr.len
    have hn : n ≤ 100 := by rw [← hr.len]; exact HN.out.2.1
    have hmxL := hr.2.2.2.1
    have hleL := hr.2.2.1
    unfold maxLen at hmxL
    have hn0 : ¬ (n : Int) = 0 := by have := Hll.out; omega
    have hn00 : ¬ n = 0 := by omega
    go_wp2_with fail
    go_fit (Hcn.out w1)
    rintro e w2 ⟨rfl, hbx⟩
    have hb2 := bnx hb hbx
    have hr2 : RdP w2 w2.heap.size A n c L := RdR.more (RdR.up hr hbx) hbx.size
    clear hbx hb hr
    go_wp2_with fail
    go_fit (Hor.out A n c w2 hr2 (by omega))
    rintro e w3 ⟨A1, c1, rfl, hO, hbx⟩
    have hb3 := bnx hb2 hbx
    have hr3 : RdP w3 w3.heap.size A n c L := RdR.more (RdR.up hr2 hbx) hbx.size
    clear hbx hb2 hr2
    go_wp2_with fail
    go_fit (Hfr.out A n c w3 hr3)
    rintro e w4 ⟨A2, c2, rfl, hA, hbx⟩
    have hb4 := bnx hb3 hbx
    have hr4 : RdP w4 w4.heap.size A n c L := RdR.more (RdR.up hr3 hbx) hbx.size
    have hO4 : RdN w4 w4.heap.size A1 n c1 (ordS L) := RdR.more (RdR.up hO hbx) hbx.size
    have hmxO := hO4.2.2.2.1
    have hleO := hO4.2.2.1
    unfold maxLen at hmxO
    have hmxA := hA.2.2.2.1
    have hleA := hA.2.2.1
    unfold maxLen at hmxA
    clear hbx hb3 hr3 hO Hor Hfr Hcn Hp
    go_wp2_with fail
    go_loopw [7, 10] (fun o i wr => ∃ (k n3 c3 : Nat) (A3 : Option Addr), k ≤ n ∧ i = .int .i64 k ∧ o = .slice A3 n3 c3 ∧ n3 ≤ 800 * k ∧ Below w4.heap.size w4 wr ∧ wr.ownsRow w4.heap.size 5 1 (.slice A3 n3 c3) n3 (bv (((wireP L).take k).flatMap (byP v))) ∧ Hid (((wireP L).take k).all (okP v) = true)) (fun _ i _ => n - (intOf i).toNat)
    case atStart => exact ⟨0, 0, 0, none, by omega, rfl, rfl, by omega, Below.refl _ _, World.ownsRow_nil _ _ _ _, Lib.hid rfl⟩
    case round =>
      obtain ⟨k, n3, c3, A3, hk, rfl, rfl, hn3, hb, own3, Hok⟩ := hrel
      by_cases hlt : k < n
      · have hlt' : (k : Int) < (n : Int) := by omega
        obtain ⟨ga, oa, nn, rfl, hga, hy, hya⟩ := RdN.at_ hO4 hlt
        have hyn0 : nn < L.length := ord_mem L nn (List.mem_of_getElem? hy)
        have hyn : nn < n := by have := Hll.out; omega
        obtain ⟨g, off, x, rfl, hg, hx, hr⟩ := RdP.at_ hr4 hyn
        obtain ⟨gf, of, a, rfl, hgf, haa, hfa⟩ := RdN.at_ hA hyn
        have kO := (hb.cell (p := ⟨ga, oa + k, none⟩) hga).trans hya
        obtain rfl : a = cntS (L.take nn) := by rw [fromL_at hyn0] at haa; injection haa with haa; exact haa.symm
        have hwp := wireP_at hy hx
        have hxL := List.mem_of_getElem? hx
        have hz := HN.out.1 x hxL
        have hm100 := HN.out.2.2 x hxL
        have hcl := cnt_take_le hx
        rw [← Hm.out] at hcl
        have hpp := put_part (v := v) hz (a := cntS (L.take nn)) (by rw [Hvl.out, ← Hm.out]; exact hcl)
        have hpb := part_bytes (v := v) hz hm100 (a := cntS (L.take nn)) (by rw [Hvl.out, ← Hm.out]; exact hcl)
        have hfx := fun w => qnumbers_any x w
        have hff := fun w => qfields_any x w hz hm100
        have hpu := fun A c B A' n' c' B' vs w h hB h' hB' => qPut14_any A (mx1 x.mn) c B (fldsP x) A' n' c' B' vs w h hB h' hB' (by omega)
        have hts := take_succ hwp
        generalize cntS (L.take nn) = a at *
        have Hr := Lib.hid (show ∀ wq, Below w4.heap.size w4 wq → wq.rangeAt g (off + nn * 4) (ptC x) from fun wq hbq j v hv => (hbq.cell (p := ⟨g, off + nn * 4 + j, none⟩) hg).trans (hr j v hv))
        have Hf := Lib.hid (show ∀ wq, Below w4.heap.size w4 wq → wq.cell? ⟨gf, of + nn, none⟩ = some (.int .i64 (a : Int)) from fun wq hbq => (hbq.cell (p := ⟨gf, of + nn, none⟩) hgf).trans hfa)
        generalize fldsP x = FL at *
        obtain ⟨q, hq⟩ : ∃ q, q = (x, a) := ⟨_, rfl⟩
        rw [← hq] at hpp hpb hwp hts
        obtain ⟨s1, z1, g1, m1⟩ := x
        dsimp only at hz hm100 hcl hpp hpb hfx hff hpu
        obtain ⟨d, hd⟩ : ∃ d : Nat, d = mx1 m1 := ⟨_, rfl⟩
        rw [← hd] at hm100 hcl hpp hff hpu
        have hfx2 : ∀ w, Calls Try.prog 51 #[.agg (ptC ⟨s1, z1, g1, m1⟩).toArray] w fun e w' => e = .returned (.int .i64 (d : Int)) ∧ Below w.heap.size w w' := fun w => by rw [hd]; exact hfx w
        obtain ⟨sm, hsm⟩ : ∃ sm, sm = a + d := ⟨_, rfl⟩
        have hcut : ∀ w, (Instr.slice 35 (.slice A' n' c') (some (.int .i64 (a : Int))) (some (.int .i64 (sm : Int))) none).run Try.prog w = .ok (.slice (cutA A' c' a 1) d (c' - a)) w := fun w => by
          have := run_cut_lh (P := Try.prog) Try.underlying35 Hi1.out.1 Hi1.out.2.2.1 A' n' c' a sm (by omega) (by omega) w
          rwa [show sm - a = d by omega] at this
        have hrv : ∀ wq, Below w4.heap.size w4 wq → Rd wq w.heap.size 1 (cutA A' c' a 1) d (c' - a) (((v.drop a).take d).map (Value.int .i64)) := fun wq hbq => by
          have h1 := ((h.up (bnx hb4 hbq)).drop' (k := a) (by omega)).take (k := d) (by omega)
          rwa [Nat.mul_one, Nat.mul_one, ← List.map_drop, ← List.map_take] at h1
        have Hcut := Lib.hid hcut
        have Hrv := Lib.hid hrv
        have Hfx := Lib.hid hfx2
        have Hff := Lib.hid hff
        have Hpu := Lib.hid hpu
        have Hpp := Lib.hid hpp
        have Hpb := Lib.hid hpb
        have Hts := Lib.hid hts
        have Hwq := Lib.hid hwp
        have hyn' : (nn : Int) < (n : Int) := by omega
        have hw3 : IntKind.i64.wrap ((a : Int) + (d : Int)) = (sm : Int) := by rw [IntWalk.i64_in _ (by omega)]; omega
        have Hw3 := Lib.hid hw3
        clear hy hya hyn0 hx hr haa hfa hwp hxL hz hpp hpb hfx hfx2 hff hpu hts hd hcut hrv hq hw3 hsm
        go_wp2_with fail
        refine Ord.region_ (fun w' => Below w4.heap.size w4 w') false [] (by kernel_rfl) (by kernel_rfl) hb.drew ?_
        clear kO
        replace hb := hb.drew
        replace own3 : wr.drew.ownsRow w4.heap.size 5 1 (.slice A3 n3 c3) n3 _ := own3
        generalize wr.drew = wd at *
        ((with_reducible refine Ord.e_p (v := ?_) ?_ ?_ ?_ ?_); rotate_left; (· exact rfl); (· kernel_rfl); (· intro w2; go_simp; try with_reducible rfl))
        (try simp only [Act.put, List.setIfInBounds_toArray, List.set_cons_zero, List.set_cons_succ])
        ((with_reducible refine Ord.e_p (v := ?_) ?_ ?_ ?_ ?_); rotate_left; (· exact rfl); (· kernel_rfl); (· intro w2; go_simp; try with_reducible rfl))
        (try simp only [Act.put, List.setIfInBounds_toArray, List.set_cons_zero, List.set_cons_succ])
        ((with_reducible refine Ord.e_p (v := ?_) ?_ ?_ ?_ ?_); rotate_left; (· exact rfl); (· kernel_rfl); (· intro w2; go_simp; try with_reducible rfl))
        (try simp only [Act.put, List.setIfInBounds_toArray, List.set_cons_zero, List.set_cons_succ])
        refine Ord.e_rowS (cs := ptC ⟨s1, z1, g1, m1⟩) (b := g) (o := off + nn * 4) Try.underlying28 rfl (by kernel_rfl) rfl (by simp [ptC]) (fun w' hS => Hr.out w' hS) hb (by kernel_rfl) ?_
        (try simp only [Act.put, List.setIfInBounds_toArray, List.set_cons_zero, List.set_cons_succ])
        refine Ord.e_x rfl (by kernel_rfl) ?_
        go_wp2_with fail
        go_fit (Hff.out wd)
        rintro e w5 ⟨A5, c5, rfl, hf5, hbx⟩
        have hb5 := bnx hb hbx
        have own5 := own_up own3 hbx (by exact Nat.le_refl _)
        clear own3 hb hbx
        go_wp2_with fail
        refine Ord.Seg.go hb5 (fun h => by cases h) ?_
        (try simp only [Act.put, List.setIfInBounds_toArray, List.set_cons_zero, List.set_cons_succ])
        ((with_reducible refine Ord.e_p (v := ?_) ?_ ?_ ?_ ?_); rotate_left; (· exact rfl); (· kernel_rfl); (· intro w2; go_simp; try with_reducible rfl))
        (try simp only [Act.put, List.setIfInBounds_toArray, List.set_cons_zero, List.set_cons_succ])
        ((with_reducible refine Ord.e_p (v := ?_) ?_ ?_ ?_ ?_); rotate_left; (· exact rfl); (· kernel_rfl); (· intro w2; go_simp; try with_reducible rfl))
        (try simp only [Act.put, List.setIfInBounds_toArray, List.set_cons_zero, List.set_cons_succ])
        ((with_reducible refine Ord.e_p (v := ?_) ?_ ?_ ?_ ?_); rotate_left; (· exact rfl); (· kernel_rfl); (· intro w2; go_simp; try with_reducible rfl))
        (try simp only [Act.put, List.setIfInBounds_toArray, List.set_cons_zero, List.set_cons_succ])
        ((with_reducible refine Ord.e_p (v := ?_) ?_ ?_ ?_ ?_); rotate_left; (· exact rfl); (· kernel_rfl); (· intro w2; go_simp; try with_reducible rfl))
        (try simp only [Act.put, List.setIfInBounds_toArray, List.set_cons_zero, List.set_cons_succ])
        refine Ord.e_loadS (ad := ⟨gf, of + nn, none⟩) Try.underlying3 rfl (fun w' hS => Hf.out w' hS) hb5 rfl (by kernel_rfl) ?_
        (try simp only [Act.put, List.setIfInBounds_toArray, List.set_cons_zero, List.set_cons_succ])
        ((with_reducible refine Ord.e_p (v := ?_) ?_ ?_ ?_ ?_); rotate_left; (· exact rfl); (· kernel_rfl); (· intro w2; go_simp; try with_reducible rfl))
        (try simp only [Act.put, List.setIfInBounds_toArray, List.set_cons_zero, List.set_cons_succ])
        ((with_reducible refine Ord.e_p (v := ?_) ?_ ?_ ?_ ?_); rotate_left; (· exact rfl); (· kernel_rfl); (· intro w2; go_simp; try with_reducible rfl))
        (try simp only [Act.put, List.setIfInBounds_toArray, List.set_cons_zero, List.set_cons_succ])
        ((with_reducible refine Ord.e_p (v := ?_) ?_ ?_ ?_ ?_); rotate_left; (· exact rfl); (· kernel_rfl); (· intro w2; go_simp; try with_reducible rfl))
        (try simp only [Act.put, List.setIfInBounds_toArray, List.set_cons_zero, List.set_cons_succ])
        refine Ord.e_loadS (ad := ⟨gf, of + nn, none⟩) Try.underlying3 rfl (fun w' hS => Hf.out w' hS) hb5 rfl (by kernel_rfl) ?_
        (try simp only [Act.put, List.setIfInBounds_toArray, List.set_cons_zero, List.set_cons_succ])
        ((with_reducible refine Ord.e_p (v := ?_) ?_ ?_ ?_ ?_); rotate_left; (· exact rfl); (· kernel_rfl); (· intro w2; go_simp; try with_reducible rfl))
        (try simp only [Act.put, List.setIfInBounds_toArray, List.set_cons_zero, List.set_cons_succ])
        ((with_reducible refine Ord.e_p (v := ?_) ?_ ?_ ?_ ?_); rotate_left; (· exact rfl); (· kernel_rfl); (· intro w2; go_simp; try with_reducible rfl))
        (try simp only [Act.put, List.setIfInBounds_toArray, List.set_cons_zero, List.set_cons_succ])
        ((with_reducible refine Ord.e_p (v := ?_) ?_ ?_ ?_ ?_); rotate_left; (· exact rfl); (· kernel_rfl); (· intro w2; go_simp; try with_reducible rfl))
        (try simp only [Act.put, List.setIfInBounds_toArray, List.set_cons_zero, List.set_cons_succ])
        refine Ord.e_rowS (cs := ptC ⟨s1, z1, g1, m1⟩) (b := g) (o := off + nn * 4) Try.underlying28 rfl (by kernel_rfl) rfl (by simp [ptC]) (fun w' hS => Hr.out w' hS) hb5 (by kernel_rfl) ?_
        (try simp only [Act.put, List.setIfInBounds_toArray, List.set_cons_zero, List.set_cons_succ])
        refine Ord.e_x rfl (by kernel_rfl) ?_
        go_wp2_with fail
        go_fit (Hfx.out w5)
        rintro e w6 ⟨rfl, hbx⟩
        have hb6 := bnx hb5 hbx
        have own6 := own_up own5 hbx (Nat.le_refl _)
        have hf6 := RdF.up hf5 hbx
        have hs56 := hbx.size
        clear own5 hb5 hf5 hbx
        go_wp2_with fail
        refine Ord.Seg.go hb6 (fun h => by cases h) ?_
        (try simp only [Act.put, List.setIfInBounds_toArray, List.set_cons_zero, List.set_cons_succ])
        refine Ord.e_p (v := .int .i64 (sm : Int)) rfl (by kernel_rfl) (fun w2 => by have hw3 := Hw3.out; go_simp) ?_
        (try simp only [Act.put, List.setIfInBounds_toArray, List.set_cons_zero, List.set_cons_succ])
        refine Ord.e_p (v := .slice (cutA A' c' a 1) d (c' - a)) rfl (by kernel_rfl) (fun w2 => by have hcut := Hcut.out w2; go_simp) ?_
        (try simp only [Act.put, List.setIfInBounds_toArray, List.set_cons_zero, List.set_cons_succ])
        have hrv6 := Hrv.out w6 hb6
        refine Ord.e_x rfl (by kernel_rfl) ?_
        go_wp2_with fail
        go_fit (Hpu.out A5 c5 w5.heap.size _ _ _ w.heap.size _ w6 hf6 hs56 hrv6 (Nat.le_trans hb4.size hb6.size))
        rintro e w7 ⟨A7, n7, c7, rfl, own7, hbx⟩
        rw [Hpp.out.1]
        have hb7 := bnx hb6 hbx
        have own8 := own_up own6 hbx (Nat.le_refl _)
        clear own6 hb6 hf6 hbx hrv6
        cases hokq : okP v q with
        | false =>
          have hna := all_not Hwq.out hokq
          have He5 : Hid (putSE L v = 5) := Lib.hid (by rw [He.out, if_neg hna])
          have Hb5 : Hid (putSB L v = []) := Lib.hid (by rw [Hb.out, if_neg hna])
          have hif : (if false = true then 0 else 5 : Nat) = 5 := rfl
          clear hna own8 own7
          rw [hif]
          go_wp2_with fail
          refine Ord.Seg.go hb7 (fun h => by cases h) ?_
          (try simp only [Act.put, List.setIfInBounds_toArray, List.set_cons_zero, List.set_cons_succ])
          ((with_reducible refine Ord.e_p (v := ?_) ?_ ?_ ?_ ?_); rotate_left; (· exact rfl); (· kernel_rfl); (· intro w2; go_simp; try with_reducible rfl))
          (try simp only [Act.put, List.setIfInBounds_toArray, List.set_cons_zero, List.set_cons_succ])
          ((with_reducible refine Ord.e_p (v := ?_) ?_ ?_ ?_ ?_); rotate_left; (· exact rfl); (· kernel_rfl); (· intro w2; go_simp; try with_reducible rfl))
          (try simp only [Act.put, List.setIfInBounds_toArray, List.set_cons_zero, List.set_cons_succ])
          ((with_reducible refine Ord.e_p (v := ?_) ?_ ?_ ?_ ?_); rotate_left; (· exact rfl); (· kernel_rfl); (· intro w2; go_simp; try with_reducible rfl))
          (try simp only [Act.put, List.setIfInBounds_toArray, List.set_cons_zero, List.set_cons_succ])
          ((with_reducible refine Ord.e_p (v := ?_) ?_ ?_ ?_ ?_); rotate_left; (· exact rfl); (· kernel_rfl); (· intro w2; go_simp; try with_reducible rfl))
          (try simp only [Act.put, List.setIfInBounds_toArray, List.set_cons_zero, List.set_cons_succ])
          ((with_reducible refine Ord.e_p (v := ?_) ?_ ?_ ?_ ?_); rotate_left; (· exact rfl); (· kernel_rfl); (· intro w2; go_simp; try with_reducible rfl))
          (try simp only [Act.put, List.setIfInBounds_toArray, List.set_cons_zero, List.set_cons_succ])
          refine Ord.e_nil ?_
          have hbf := bnx hb4 hb7
          clear hb7
          go_wp2
          go_ret2
          rw [Hv.out.1, Hv.out.2, He5.out, Hb5.out]
          exact ⟨none, 0, 0, rfl, World.ownsRow_nil _ _ _ _, hbf⟩
        | true =>
          have hb800 := Hpb.out hokq
          have hsb := Hpp.out.2 hokq
          have hif : (if true = true then 0 else 5 : Nat) = 0 := rfl
          rw [hif]
          rw [hsb] at own7
          have hr7 := Rd.own own7
          have hl7 : n7 ≤ 800 := by have := hr7.blen; omega
          have Hok8 : Hid (((wireP L).take (k + 1)).all (okP v) = true) := Lib.hid (by rw [Hts.out, List.all_append, Hok.out, List.all_cons, hokq]; rfl)
          have Hfl := Lib.hid (show bv (((wireP L).take k).flatMap (byP v)) ++ bv (byP v q) = bv (((wireP L).take (k + 1)).flatMap (byP v)) by rw [Hts.out, List.flatMap_append, ← bv_app]; simp)
          clear hsb hif own7 hb800
          go_wp2_with fail
          refine Ord.Seg.go hb7 (fun h => by cases h) ?_
          (try simp only [Act.put, List.setIfInBounds_toArray, List.set_cons_zero, List.set_cons_succ])
          ((with_reducible refine Ord.e_p (v := ?_) ?_ ?_ ?_ ?_); rotate_left; (· exact rfl); (· kernel_rfl); (· intro w2; go_simp; try with_reducible rfl))
          (try simp only [Act.put, List.setIfInBounds_toArray, List.set_cons_zero, List.set_cons_succ])
          ((with_reducible refine Ord.e_p (v := ?_) ?_ ?_ ?_ ?_); rotate_left; (· exact rfl); (· kernel_rfl); (· intro w2; go_simp; try with_reducible rfl))
          (try simp only [Act.put, List.setIfInBounds_toArray, List.set_cons_zero, List.set_cons_succ])
          ((with_reducible refine Ord.e_p (v := ?_) ?_ ?_ ?_ ?_); rotate_left; (· exact rfl); (· kernel_rfl); (· intro w2; go_simp; try with_reducible rfl))
          (try simp only [Act.put, List.setIfInBounds_toArray, List.set_cons_zero, List.set_cons_succ])
          ((with_reducible refine Ord.e_p (v := ?_) ?_ ?_ ?_ ?_); rotate_left; (· exact rfl); (· kernel_rfl); (· intro w2; go_simp; try with_reducible rfl))
          (try simp only [Act.put, List.setIfInBounds_toArray, List.set_cons_zero, List.set_cons_succ])
          ((with_reducible refine Ord.e_p (v := ?_) ?_ ?_ ?_ ?_); rotate_left; (· exact rfl); (· kernel_rfl); (· intro w2; go_simp; try with_reducible rfl))
          (try simp only [Act.put, List.setIfInBounds_toArray, List.set_cons_zero, List.set_cons_succ])
          refine Ord.e_nil ?_
          go_wp2_with (at_builtin; refine stop_ ?_)
          refine go_ (wpList_appG (base := w4.heap.size) (n := n3) Try.underlying36 Hi2.out rfl (by omega) own8 rfl hr7 rfl (bv_one _) (k := n3 + n7) rfl Hfl.out (by unfold maxLen; omega) (by omega) hb7.size ?_)
          intro A9 c9 w9 own9 hgr hob
          have hb9 := Below.grown hb7 hgr hb7.size (fun j hj => (own_blk own8 hj).1)
          clear hgr hob own8 hr7 hb7
          go_wp2
          go_roundw
          case rel => exact ⟨k + 1, n3 + n7, c9, A9, by omega, by go_num, rfl, by omega, hb9, own9, Hok8⟩
          case measure => simp [intOf]; omega
      · obtain rfl : k = n := by omega
        have htk : (wireP L).take k = wireP L := List.take_of_length_le (by rw [Hwp.out, Hll.out]; exact Nat.le_refl _)
        rw [htk] at own3 Hok
        have He0 : Hid (putSE L v = 0) := Lib.hid (by rw [He.out, if_pos Hok.out])
        have Hb0 : Hid (putSB L v = (wireP L).flatMap (byP v)) := Lib.hid (by rw [Hb.out, if_pos Hok.out])
        have own := own_mono own3 hb4.size
        have hbf := bnx hb4 hb
        clear own3 hb htk
        go_wp2
        go_ret2
        rw [Hv.out.1, Hv.out.2, He0.out, Hb0.out]
        exact ⟨A3, n3, c3, rfl, own, hbf⟩

end Go.Proofs.Ytonejdjhdjckjaa

/-
  the document's Take walked (printed by gen_sch6.py).
-/
set_option linter.unusedSimpArgs false
set_option linter.unusedVariables false
namespace Go.Proofs.Ytonejdjhdjckjaa
open Go.RowKit NumLaw
attribute [local go_sem] Addr.add_mid
attribute [-go_sem] run_eql_struct run_neq_struct

theorem scat_rng {V : List Int} {a d j : Nat} {y : Int} (o : List Int) (hj : j < d) (hy : V[j]? = some y) : scat o ((((List.range d).map fun j => a + j).zip V).take (j + 1)) = (scat o ((((List.range d).map fun j => a + j).zip V).take j)).set (a + j) y := by
  have h1 : (((List.range d).map fun j => a + j).zip V)[j]? = some (a + j, y) := by rw [List.getElem?_zip_eq_some, List.getElem?_map, List.getElem?_range hj]; exact ⟨rfl, hy⟩
  rw [take_succ h1, scat_app]
  rfl
theorem layT_len (n : Nat) (X : List (PtT × Nat)) (b : List UInt8) : (layT n X b).length = n := by unfold layT; rw [scat_len, List.length_replicate]
set_option maxRecDepth 20000 in
set_option maxHeartbeats 16000000 in
theorem qtake31_any (id : Int) (A' : Option Addr) (n' c' : Nat) (b : List UInt8) (w : World) (h : Rd w w.heap.size 1 A' n' c' (bv b)) :
    Calls Try.prog 29 #[.int .i64 id, .slice A' n' c'] w (RetTS w (sTV (frm id) b) (sTE (frm id) b)) := by
  have hlb := h.blen
  have hwd := fun w => qwidth_any id w
  have hW := wd_bd (frm id).2 (frm_n id) (frm id).2.length
  rw [List.take_length] at hW
  have hp := qparts_any id w
  have hcn := fun w => qcount_any id w
  have hN := frm_n id
  have hM := (frm_nm id).2.2
  have hC := frm_cnt id
  have hmx := h.max
  have hle := h.le
  unfold maxLen at hmx
  generalize frm id = p at *
  obtain ⟨nm, L⟩ := p
  obtain ⟨m, hm⟩ : ∃ m, m = cntS L := ⟨_, rfl⟩
  dsimp only at hp hcn hN hM hC
  rw [← hm] at hcn hC
  have Hp := Lib.hid hp
  have Hcn := Lib.hid hcn
  have HN := Lib.hid hN
  have Hm := Lib.hid hm
  have Hor := Lib.hid (fun A n c w => order31_any A n c L w)
  have Hfr := Lib.hid (fun A n c w h => from31_any A n c L w h hN)
  have Hwp := Lib.hid (wireP_len L)
  clear hp hcn hN hm
  dsimp only at hwd hW
  obtain ⟨W, hWd⟩ : ∃ W, W = wdS L := ⟨_, rfl⟩
  rw [← hWd] at hwd hW
  have Hwd := Lib.hid hwd
  have HW := Lib.hid hWd
  clear hwd hWd Hor Hfr
  cases hem : nm.toList.isEmpty with
  | true =>
    have hv : sTV (nm, L) b = [] ∧ sTE (nm, L) b = 6 := by unfold sTV sTE; rw [if_pos hem, if_pos hem]; exact ⟨rfl, rfl⟩
    have Hv := Lib.hid hv
    have hL0 : L.length = 0 := by rw [hem] at hM; cases L with
      | nil => rfl
      | cons x l => exact absurd hM.symm Bool.false_ne_true
    clear hv hM hlb
    go_enter Try.func29, Try.ntmps29
    go_wp2_with fail
    go_fit Hp.out
    unfold RetPt
    rintro e w1 ⟨A, n, c, rfl, hr, hb⟩
    have Hll := Lib.hid hr.len
    have hn : n ≤ 100 := by rw [← hr.len]; exact HN.out.2.1
    have hmxL := hr.2.2.2.1
    have hleL := hr.2.2.1
    unfold maxLen at hmxL
    obtain rfl : n = 0 := by have := Hll.out; omega
    clear hr
    go_wp2
    go_ret2
    rw [Hv.out.1, Hv.out.2]
    exact ⟨none, 0, 0, rfl, World.ownsRow_nil _ _ _ _, hb⟩
  | false =>
    have hv : sTV (nm, L) b = takSV L b ∧ sTE (nm, L) b = takSE L b := by unfold sTV sTE; rw [if_neg (by rw [hem]; exact Bool.false_ne_true), if_neg (by rw [hem]; exact Bool.false_ne_true)]; exact ⟨rfl, rfl⟩
    have Hv := Lib.hid hv
    have hL0 : ¬ L.length = 0 := by rw [hem] at hM; cases L with
      | nil => exact absurd hM.symm (fun e => by cases e)
      | cons x l => simp
    clear hv hM
    by_cases hsh : n' < W
    case pos =>
      have hv2 := take_short (b := b) HN.out.1 (by rw [hlb, ← HW.out]; exact hsh)
      have Hv2 := Lib.hid hv2
      have hsh' : (n' : Int) < (W : Int) := by omega
      clear hv2 hlb
      go_enter Try.func29, Try.ntmps29
      go_wp2_with fail
      go_fit Hp.out
      unfold RetPt
      rintro e w1 ⟨A, n, c, rfl, hr, hb⟩
      have Hll := Lib.hid hr.len
      have hn : n ≤ 100 := by rw [← hr.len]; exact HN.out.2.1
      have hmxL := hr.2.2.2.1
      have hleL := hr.2.2.1
      unfold maxLen at hmxL
      have hn0 : ¬ (n : Int) = 0 := by have := Hll.out; omega
      have hn00 : ¬ n = 0 := by omega
      clear hr
      go_wp2_with fail
      go_fit (Hwd.out w1)
      rintro e w2 ⟨rfl, hbx⟩
      have hb2 := bnx hb hbx
      clear hbx hb
      go_wp2
      go_ret2
      rw [Hv.out.1, Hv.out.2, Hv2.out.1, Hv2.out.2]
      exact ⟨none, 0, 0, rfl, World.ownsRow_nil _ _ _ _, hb2⟩
    have hsh' : ¬ (n' : Int) < (W : Int) := by omega
    by_cases hlg : W < n'
    case pos =>
      have hv2 := take_long (b := b) HN.out.1 (by rw [hlb, ← HW.out]; exact hlg)
      have Hv2 := Lib.hid hv2
      have hlg' : (W : Int) < (n' : Int) := by omega
      clear hv2 hlb
      go_enter Try.func29, Try.ntmps29
      go_wp2_with fail
      go_fit Hp.out
      unfold RetPt
      rintro e w1 ⟨A, n, c, rfl, hr, hb⟩
      have Hll := Lib.hid hr.len
      have hn : n ≤ 100 := by rw [← hr.len]; exact HN.out.2.1
      have hmxL := hr.2.2.2.1
      have hleL := hr.2.2.1
      unfold maxLen at hmxL
      have hn0 : ¬ (n : Int) = 0 := by have := Hll.out; omega
      have hn00 : ¬ n = 0 := by omega
      clear hr
      go_wp2_with fail
      go_fit (Hwd.out w1)
      rintro e w2 ⟨rfl, hbx⟩
      have hb2 := bnx hb hbx
      clear hbx hb
      go_wp2_with fail
      go_fit (Hwd.out w2)
      rintro e w3 ⟨rfl, hbx⟩
      have hb3 := bnx hb2 hbx
      clear hbx hb2
      go_wp2
      go_ret2
      rw [Hv.out.1, Hv.out.2, Hv2.out.1, Hv2.out.2]
      exact ⟨none, 0, 0, rfl, World.ownsRow_nil _ _ _ _, hb3⟩
    have hlg' : ¬ (W : Int) < (n' : Int) := by omega
    have hta := take_all (b := b) HN.out.1 (by rw [hlb, ← HW.out]; omega)
    rw [← Hm.out] at hta
    have Hta := Lib.hid hta
    have hws := wire_sum HN.out.1
    rw [← HW.out] at hws
    have Hws := Lib.hid hws
    obtain ⟨i2, hi2⟩ := info_parts u8_info
    have Hi2 := Lib.hid hi2
    have Hlb := Lib.hid hlb
    have hmk := run_make_row' (P := Try.prog) 35 2 (.int .i64 0) 8 Try.underlying35 i64_info rfl .i64 .i64 m (by omega) (by omega)
    rw [made_rep'] at hmk
    obtain ⟨z, hz⟩ : ∃ z, z = List.replicate m (Value.int .i64 0) := ⟨_, rfl⟩
    rw [← hz] at hmk
    have hz2 : z = (List.replicate m (0 : Int)).map (Value.int .i64) := by rw [hz, List.map_replicate]
    have Hz := Lib.hid hz2
    clear hlb hi2 hta hws hz hz2
    go_enter Try.func29, Try.ntmps29
    go_wp2_with fail
    go_fit Hp.out
    unfold RetPt
    rintro e w1 ⟨A, n, c, rfl, hr, hb⟩
    have Hll := Lib.hid hr.len
    have hn : n ≤ 100 := by rw [← hr.len]; exact HN.out.2.1
    have hmxL := hr.2.2.2.1
    have hleL := hr.2.2.1
    unfold maxLen at hmxL
    have hn0 : ¬ (n : Int) = 0 := by have := Hll.out; omega
    have hn00 : ¬ n = 0 := by omega
    go_wp2_with fail
    go_fit (Hwd.out w1)
    rintro e w2 ⟨rfl, hbx⟩
    have hb2 := bnx hb hbx
    have hr2 : RdP w2 w2.heap.size A n c L := RdR.more (RdR.up hr hbx) hbx.size
    clear hbx hb hr
    go_wp2_with fail
    go_fit (Hwd.out w2)
    rintro e w3 ⟨rfl, hbx⟩
    have hb3 := bnx hb2 hbx
    have hr3 : RdP w3 w3.heap.size A n c L := RdR.more (RdR.up hr2 hbx) hbx.size
    clear hbx hb2 hr2
    go_wp2_with fail
    go_fit (Hcn.out w3)
    rintro e w4 ⟨rfl, hbx⟩
    have hb4 := bnx hb3 hbx
    have hr4 : RdP w4 w4.heap.size A n c L := RdR.more (RdR.up hr3 hbx) hbx.size
    have hba : Below w4.heap.size w4 (w4.alloc (.cells z.toArray 2)) := (Below.refl _ _).alloc (Nat.le_refl _) _
    have hgm : (w4.alloc (.cells z.toArray 2)).heap[w4.heap.size]? = some (.cells ((List.replicate m (0 : Int)).map (Value.int .i64)).toArray 2) := by rw [← Hz.out]; exact heap_alloc_new w4 (.cells z.toArray 2)
    have hrA : RdP (w4.alloc (.cells z.toArray 2)) (w4.alloc (.cells z.toArray 2)).heap.size A n c L := RdR.more (RdR.up hr4 hba) hba.size
    clear hbx hb3 hr3
    go_wp2_with fail
    generalize (w4.alloc (.cells z.toArray 2)) = wA at *
    go_fit (order31_own A n c L wA hrA (by omega))
    rintro e w5 ⟨A1, c1, rfl, hO, ownO, hbx⟩
    have hb5 := bnx hba hbx
    have hr5 : RdP w5 w5.heap.size A n c L := RdR.more (RdR.up hrA hbx) hbx.size
    have hgm5 := blk_old hgm hbx (blk_lt hgm)
    have hgA := blk_lt hgm
    clear hba hrA hgm
    go_wp2_with fail
    go_fit (from31_own A n c L w5 hr5 HN.out)
    rintro e w6 ⟨A2, c2, rfl, hA, ownA, hby⟩
    have hb6 := bnx hb5 hby
    have hr6 : RdP w6 w4.heap.size A n c L := RdR.up hr4 hb6
    have hO6 : RdN w6 w6.heap.size A1 n c1 (ordS L) := RdR.more (RdR.up hO hby) hby.size
    have hgm6 := blk_old hgm5 hby (blk_lt hgm5)
    have hoA := fun q hq => (own_blk ownO (k := q) hq).1
    have hoB := fun q hq => (own_blk ownA (k := q) hq).1
    have hs56 := hbx.size
    have hs6 := hb6.size
    obtain ⟨gm, hgg⟩ : ∃ gm, gm = w4.heap.size := ⟨_, rfl⟩
    rw [← hgg] at hgm6 hr6 hgA ⊢
    have hoA2 : ∀ q, (Value.slice A1 n c1).ownBlock = some q → gm < q := fun q hq => by have := hoA q hq; omega
    have hoB2 : ∀ q, (Value.slice A2 n c2).ownBlock = some q → gm < q := fun q hq => by have := hoB q hq; omega
    have hmxO := hO6.2.2.2.1
    have hleO := hO6.2.2.1
    unfold maxLen at hmxO
    have hmxA := hA.2.2.2.1
    have hleA := hA.2.2.1
    unfold maxLen at hmxA
    have hwgm : w.heap.size ≤ gm := by rw [hgg]; exact hb4.size
    have hbw6 := bnx hb4 hb6
    have hsz6 : gm < w6.heap.size := blk_lt hgm6
    have Hrd0 := Lib.hid (h.up hbw6)
    clear hbx hby hb5 hr5 hgm5 hO ownO ownA hoA hoB hr4 hb4 hb6 hgA hgg hmk Hp Hcn Hwd Hz h hs56 hs6
    go_wp2_with fail
    go_loopw [1, 10] (fun bs i wr => ∃ (k D n3 c3 : Nat) (A3 : Option Addr) (o : List Int), k ≤ n ∧ i = .int .i64 k ∧ bs = .slice A3 n3 c3 ∧ n3 + D = n' ∧ w6.grownBy wr (some gm) ∧ wr.heap[gm]? = some (.cells (o.map (Value.int .i64)).toArray 2) ∧ Hid (Rd w6 w.heap.size 1 A3 n3 c3 (bv (b.drop D))) ∧ Hid (D = sumL (fPs ((wireP L).take k))) ∧ Hid (o = layT m ((wireP L).take k) b) ∧ Hid (okT ((wireP L).take k) b = true)) (fun _ i _ => n - (intOf i).toNat)
    case atStart => exact ⟨0, 0, n', c', A', List.replicate m 0, by omega, rfl, rfl, by omega, grownBy_self _ _, hgm6, Hrd0, Lib.hid rfl, Lib.hid rfl, Lib.hid rfl⟩
    case round =>
      clear hgm6 Hrd0
      obtain ⟨k, D, n3, c3, A3, o, hk, rfl, rfl, hD, hg6, hgm, Hrd, HD, Ho, Hok⟩ := hrel
      have hgml := blk_lt hgm
      have hmx3 := Hrd.out.max
      have hle3 := Hrd.out.le
      unfold maxLen at hmx3
      by_cases hlt : k < n
      · have hlt' : (k : Int) < (n : Int) := by omega
        obtain ⟨ga, oa, nn, rfl, hga, hy, hya⟩ := RdN.at_ hO6 hlt
        have hyn0 : nn < L.length := ord_mem L nn (List.mem_of_getElem? hy)
        have hyn : nn < n := by have := Hll.out; omega
        obtain ⟨g, off, x, rfl, hg, hx, hr⟩ := RdP.at_ hr6 hyn
        obtain ⟨gf, of, a, rfl, hgf, haa, hfa⟩ := RdN.at_ hA hyn
        have hga2 : gm < ga := hoA2 ga rfl
        have hgf2 : gm < gf := hoB2 gf rfl
        have kO := (hg6.cell_far ⟨ga, oa + k, none⟩ hga (by intro e; injection e with e; have : ga = gm := e; omega)).trans hya
        obtain rfl : a = cntS (L.take nn) := by rw [fromL_at hyn0] at haa; injection haa with haa; exact haa.symm
        have hwp := wireP_at hy hx
        have hxL := List.mem_of_getElem? hx
        have hz := HN.out.1 x hxL
        have hm100 := HN.out.2.2 x hxL
        have hcl := cnt_take_le hx
        rw [← Hm.out] at hcl
        have hts := take_succ hwp
        have hfs := fldsP_sum hz
        have hlay := layT_snoc m ((wireP L).take k) (x, cntS (L.take nn)) b
        have hokt := okT_snoc ((wireP L).take k) (x, cntS (L.take nn)) b
        have hsum := sumL_app (fPs ((wireP L).take k)) (fldsP x)
        rw [← fPs_snoc _ (x, cntS (L.take nn)), ← hts, hfs, ← HD.out] at hsum
        rw [← hts, ← HD.out] at hlay hokt
        rw [← Ho.out] at hlay
        have hcov : sumL (fPs ((wireP L).take (k + 1))) ≤ W := by
          have := sum_more ((wireP L).take (k + 1)) ((wireP L).drop (k + 1))
          rw [List.take_append_drop, Hws.out] at this
          exact this
        rw [hsum] at hcov
        have htp := take_part (b := b) hz (D := D) (by have := Hlb.out; omega)
        have hfx := fun w => qnumbers_any x w
        have hff := fun w => qfields_any x w hz hm100
        have htk := fun A c B A' n' c' B' b w h hB h' hB' hn' => qTake14_any A (mx1 x.mn) c B (fldsP x) A' n' c' B' b w h hB h' hB' (by omega) hn'
        have hfl := fldsP_len x
        generalize cntS (L.take nn) = a at *
        have Hr := Lib.hid (show ∀ wq, w6.grownBy wq (some gm) → wq.rangeAt g (off + nn * 4) (ptC x) from fun wq hgq j v hv => (hgq.cell_far ⟨g, off + nn * 4 + j, none⟩ (by show g < _; omega) (by intro e; injection e with e; have : g = gm := e; omega)).trans (hr j v hv))
        have Hf := Lib.hid (show ∀ wq, w6.grownBy wq (some gm) → wq.cell? ⟨gf, of + nn, none⟩ = some (.int .i64 (a : Int)) from fun wq hgq => (hgq.cell_far ⟨gf, of + nn, none⟩ hgf (by intro e; injection e with e; have : gf = gm := e; omega)).trans hfa)
        generalize fldsP x = FL at *
        obtain ⟨s1, z1, g1, m1⟩ := x
        dsimp only at hz hm100 hcl hfx hff htk hfl hlay hokt hsum hcov htp
        obtain ⟨d, hd⟩ : ∃ d : Nat, d = mx1 m1 := ⟨_, rfl⟩
        rw [← hd] at hm100 hcl hff htk hfl hlay hsum hcov htp
        have hfx2 : ∀ w, Calls Try.prog 51 #[.agg (ptC ⟨s1, z1, g1, m1⟩).toArray] w fun e w' => e = .returned (.int .i64 (d : Int)) ∧ Below w.heap.size w w' := fun w => by rw [hd]; exact hfx w
        obtain ⟨zn, hzn⟩ : ∃ zn : Nat, z1 = zn := ⟨z1.toNat, by rcases hz with rfl | rfl | rfl | rfl <;> rfl⟩
        have hz8 : zn ≤ 8 := by rcases hz with h | h | h | h <;> omega
        subst hzn
        rw [show ((zn : Int)).toNat = zn from rfl] at hsum hcov htp
        have hmul : zn * d ≤ 800 := Nat.le_trans (Nat.mul_le_mul hz8 hm100) (by omega)
        have hww : IntKind.i64.wrap ((zn : Int) * (d : Int)) = ((zn * d : Nat) : Int) := by
          rw [← Int.natCast_mul]
          generalize zn * d = q at *
          exact IntWalk.i64_in _ (by omega)
        obtain ⟨lg, hlg2⟩ : ∃ lg : Nat, lg = zn * d := ⟨_, rfl⟩
        rw [← hlg2] at hsum hcov htp hmul hww
        have hln3 : lg ≤ n3 := by omega
        have hcutR : ∀ w, (Instr.slice 36 (.slice A3 n3 c3) none (some (.int .i64 (lg : Int))) none).run Try.prog w = .ok (.slice A3 lg c3) w := run_cut_h (P := Try.prog) Try.underlying36 Hi2.out.1 A3 n3 c3 lg (by omega)
        have hcutL : ∀ w, (Instr.slice 36 (.slice A3 n3 c3) (some (.int .i64 (lg : Int))) none none).run Try.prog w = .ok (.slice (cutA A3 c3 lg 1) (n3 - lg) (c3 - lg)) w := fun w => run_cut_l (P := Try.prog) Try.underlying36 Hi2.out.1 Hi2.out.2.2.1 A3 n3 c3 lg (by omega) w
        have Hrd2 : Hid (Rd w6 w.heap.size 1 (cutA A3 c3 lg 1) (n3 - lg) (c3 - lg) (bv (b.drop (D + lg)))) := Lib.hid (by have := Hrd.out.bdrop (k := lg) hln3; rwa [List.drop_drop] at this)
        have Hrt := Lib.hid (Hrd.out.btake (k := lg) hln3)
        have Hww := Lib.hid hww
        have HcutR := Lib.hid hcutR
        have HcutL := Lib.hid hcutL
        have Hfx := Lib.hid hfx2
        have Hff := Lib.hid hff
        have Htk := Lib.hid htk
        have Htp := Lib.hid htp
        have Hlay := Lib.hid hlay
        have Hokt := Lib.hid hokt
        have Hsum := Lib.hid hsum
        have Hfl := Lib.hid hfl
        have hyn' : (nn : Int) < (n : Int) := by omega
        clear hy hya hyn0 hx hr haa hfa hwp hxL hz hfx hfx2 hff htk hts hd hfs hlay hokt hsum htp hww hlg2 hcutR hcutL hfl hoA2 hoB2 Hrd
        go_wp2_with fail
        refine Ord.region_ (fun w' => w6.grownBy w' (some gm)) false [] (by kernel_rfl) (by kernel_rfl) (grownBy_drew' hg6) ?_
        clear kO
        replace hg6 := grownBy_drew' hg6
        replace hgm : wr.drew.heap[gm]? = _ := hgm
        generalize wr.drew = wd at *
        ((with_reducible refine Ord.e_p (v := ?_) ?_ ?_ ?_ ?_); rotate_left; (· exact rfl); (· kernel_rfl); (· intro w2; go_simp; try with_reducible rfl))
        (try simp only [Act.put, List.setIfInBounds_toArray, List.set_cons_zero, List.set_cons_succ])
        ((with_reducible refine Ord.e_p (v := ?_) ?_ ?_ ?_ ?_); rotate_left; (· exact rfl); (· kernel_rfl); (· intro w2; go_simp; try with_reducible rfl))
        (try simp only [Act.put, List.setIfInBounds_toArray, List.set_cons_zero, List.set_cons_succ])
        ((with_reducible refine Ord.e_p (v := ?_) ?_ ?_ ?_ ?_); rotate_left; (· exact rfl); (· kernel_rfl); (· intro w2; go_simp; try with_reducible rfl))
        (try simp only [Act.put, List.setIfInBounds_toArray, List.set_cons_zero, List.set_cons_succ])
        ((with_reducible refine Ord.e_p (v := ?_) ?_ ?_ ?_ ?_); rotate_left; (· exact rfl); (· kernel_rfl); (· intro w2; go_simp; try with_reducible rfl))
        (try simp only [Act.put, List.setIfInBounds_toArray, List.set_cons_zero, List.set_cons_succ])
        refine Ord.e_loadS (ad := ⟨g, off + nn * 4 + 1, none⟩) Try.underlying3 rfl (fun w' hS => Hr.out w' hS 1 _ rfl) hg6 rfl (by kernel_rfl) ?_
        (try simp only [Act.put, List.setIfInBounds_toArray, List.set_cons_zero, List.set_cons_succ])
        ((with_reducible refine Ord.e_p (v := ?_) ?_ ?_ ?_ ?_); rotate_left; (· exact rfl); (· kernel_rfl); (· intro w2; go_simp; try with_reducible rfl))
        (try simp only [Act.put, List.setIfInBounds_toArray, List.set_cons_zero, List.set_cons_succ])
        ((with_reducible refine Ord.e_p (v := ?_) ?_ ?_ ?_ ?_); rotate_left; (· exact rfl); (· kernel_rfl); (· intro w2; go_simp; try with_reducible rfl))
        (try simp only [Act.put, List.setIfInBounds_toArray, List.set_cons_zero, List.set_cons_succ])
        ((with_reducible refine Ord.e_p (v := ?_) ?_ ?_ ?_ ?_); rotate_left; (· exact rfl); (· kernel_rfl); (· intro w2; go_simp; try with_reducible rfl))
        (try simp only [Act.put, List.setIfInBounds_toArray, List.set_cons_zero, List.set_cons_succ])
        refine Ord.e_rowS (cs := ptC ⟨s1, (zn : Int), g1, m1⟩) (b := g) (o := off + nn * 4) Try.underlying28 rfl (by kernel_rfl) rfl (by simp [ptC]) (fun w' hS => Hr.out w' hS) hg6 (by kernel_rfl) ?_
        (try simp only [Act.put, List.setIfInBounds_toArray, List.set_cons_zero, List.set_cons_succ])
        refine Ord.e_x rfl (by kernel_rfl) ?_
        go_wp2_with fail
        go_fit (Hfx.out wd)
        rintro e w7 ⟨rfl, hbx⟩
        have hg7 := Lib.grownBy_trans hg6 (grownBy_of hbx (some gm))
        have hgm7 := blk_old hgm hbx (blk_lt hgm)
        clear hg6 hgm hbx hgml
        go_wp2_with fail
        refine Ord.Seg.go hg7 (fun h => by cases h) ?_
        (try simp only [Act.put, List.setIfInBounds_toArray, List.set_cons_zero, List.set_cons_succ])
        refine Ord.e_p (v := .int .i64 (lg : Int)) rfl (by kernel_rfl) (fun w2 => by have hww := Hww.out; go_simp) ?_
        (try simp only [Act.put, List.setIfInBounds_toArray, List.set_cons_zero, List.set_cons_succ])
        ((with_reducible refine Ord.e_p (v := ?_) ?_ ?_ ?_ ?_); rotate_left; (· exact rfl); (· kernel_rfl); (· intro w2; go_simp; try with_reducible rfl))
        (try simp only [Act.put, List.setIfInBounds_toArray, List.set_cons_zero, List.set_cons_succ])
        refine Ord.e_nil ?_
        go_wp2_with fail
        refine Ord.region_ (fun w' => w6.grownBy w' (some gm)) false [] (by kernel_rfl) (by kernel_rfl) (grownBy_drew' hg7) ?_
        replace hg7 := grownBy_drew' hg7
        replace hgm7 : w7.drew.heap[gm]? = _ := hgm7
        generalize w7.drew = w8 at *
        ((with_reducible refine Ord.e_p (v := ?_) ?_ ?_ ?_ ?_); rotate_left; (· exact rfl); (· kernel_rfl); (· intro w2; go_simp; try with_reducible rfl))
        (try simp only [Act.put, List.setIfInBounds_toArray, List.set_cons_zero, List.set_cons_succ])
        ((with_reducible refine Ord.e_p (v := ?_) ?_ ?_ ?_ ?_); rotate_left; (· exact rfl); (· kernel_rfl); (· intro w2; go_simp; try with_reducible rfl))
        (try simp only [Act.put, List.setIfInBounds_toArray, List.set_cons_zero, List.set_cons_succ])
        ((with_reducible refine Ord.e_p (v := ?_) ?_ ?_ ?_ ?_); rotate_left; (· exact rfl); (· kernel_rfl); (· intro w2; go_simp; try with_reducible rfl))
        (try simp only [Act.put, List.setIfInBounds_toArray, List.set_cons_zero, List.set_cons_succ])
        refine Ord.e_rowS (cs := ptC ⟨s1, (zn : Int), g1, m1⟩) (b := g) (o := off + nn * 4) Try.underlying28 rfl (by kernel_rfl) rfl (by simp [ptC]) (fun w' hS => Hr.out w' hS) hg7 (by kernel_rfl) ?_
        (try simp only [Act.put, List.setIfInBounds_toArray, List.set_cons_zero, List.set_cons_succ])
        refine Ord.e_x rfl (by kernel_rfl) ?_
        go_wp2_with fail
        go_fit (Hff.out w8)
        rintro e w9 ⟨A5, c5, rfl, hf9, hbx⟩
        have hg9 := Lib.grownBy_trans hg7 (grownBy_of hbx (some gm))
        have hgm9 := blk_old hgm7 hbx (blk_lt hgm7)
        clear hg7 hgm7 hbx
        go_wp2_with fail
        refine Ord.Seg.go hg9 (fun h => by cases h) ?_
        (try simp only [Act.put, List.setIfInBounds_toArray, List.set_cons_zero, List.set_cons_succ])
        ((with_reducible refine Ord.e_p (v := ?_) ?_ ?_ ?_ ?_); rotate_left; (· exact rfl); (· kernel_rfl); (· intro w2; go_simp; try with_reducible rfl))
        (try simp only [Act.put, List.setIfInBounds_toArray, List.set_cons_zero, List.set_cons_succ])
        ((with_reducible refine Ord.e_p (v := ?_) ?_ ?_ ?_ ?_); rotate_left; (· exact rfl); (· kernel_rfl); (· intro w2; go_simp; try with_reducible rfl))
        (try simp only [Act.put, List.setIfInBounds_toArray, List.set_cons_zero, List.set_cons_succ])
        refine Ord.e_p (v := .slice A3 lg c3) rfl (by kernel_rfl) (fun w2 => by have hcut := HcutR.out w2; go_simp) ?_
        (try simp only [Act.put, List.setIfInBounds_toArray, List.set_cons_zero, List.set_cons_succ])
        have hrt9 := Rd.grown Hrt.out hg9 hwgm hsz6
        refine Ord.e_x rfl (by kernel_rfl) ?_
        go_wp2_with fail
        go_fit (Htk.out A5 c5 w9.heap.size _ _ _ w.heap.size _ w9 hf9 (Nat.le_refl _) hrt9 (by have := hg9.size; omega) (by omega))
        rintro e w10 ⟨A7, n7, c7, rfl, own7, hbx⟩
        rw [Htp.out.1]
        have hg10 := Lib.grownBy_trans hg9 (grownBy_of hbx (some gm))
        have hgm10 := blk_old hgm9 hbx (blk_lt hgm9)
        have hgm9l := blk_lt hgm9
        clear hg9 hgm9 hf9 hbx hrt9
        cases hokq : inAll FL (takeV FL (b.drop D)) with
        | false =>
          have hna : ¬ okT (wireP L) b = true := fun hh => by
            have h1 := okT_more ((wireP L).take (k + 1)) ((wireP L).drop (k + 1)) b (by rw [List.take_append_drop]; exact hh)
            rw [Hokt.out, hokq, Bool.and_false] at h1
            exact Bool.false_ne_true h1
          have He5 : Hid (takSE L b = 5) := Lib.hid (by rw [Hta.out.1, if_neg hna])
          have Hb5 : Hid (takSV L b = []) := Lib.hid (by rw [Hta.out.2, if_neg hna])
          have hif : (if false = true then 0 else 5 : Nat) = 5 := rfl
          clear hna own7 hgm10 hgm9l
          rw [hif]
          go_wp2_with fail
          refine Ord.Seg.go hg10 (fun h => by cases h) ?_
          (try simp only [Act.put, List.setIfInBounds_toArray, List.set_cons_zero, List.set_cons_succ])
          ((with_reducible refine Ord.e_p (v := ?_) ?_ ?_ ?_ ?_); rotate_left; (· exact rfl); (· kernel_rfl); (· intro w2; go_simp; try with_reducible rfl))
          (try simp only [Act.put, List.setIfInBounds_toArray, List.set_cons_zero, List.set_cons_succ])
          ((with_reducible refine Ord.e_p (v := ?_) ?_ ?_ ?_ ?_); rotate_left; (· exact rfl); (· kernel_rfl); (· intro w2; go_simp; try with_reducible rfl))
          (try simp only [Act.put, List.setIfInBounds_toArray, List.set_cons_zero, List.set_cons_succ])
          ((with_reducible refine Ord.e_p (v := ?_) ?_ ?_ ?_ ?_); rotate_left; (· exact rfl); (· kernel_rfl); (· intro w2; go_simp; try with_reducible rfl))
          (try simp only [Act.put, List.setIfInBounds_toArray, List.set_cons_zero, List.set_cons_succ])
          ((with_reducible refine Ord.e_p (v := ?_) ?_ ?_ ?_ ?_); rotate_left; (· exact rfl); (· kernel_rfl); (· intro w2; go_simp; try with_reducible rfl))
          (try simp only [Act.put, List.setIfInBounds_toArray, List.set_cons_zero, List.set_cons_succ])
          ((with_reducible refine Ord.e_p (v := ?_) ?_ ?_ ?_ ?_); rotate_left; (· exact rfl); (· kernel_rfl); (· intro w2; go_simp; try with_reducible rfl))
          (try simp only [Act.put, List.setIfInBounds_toArray, List.set_cons_zero, List.set_cons_succ])
          refine Ord.e_nil ?_
          have hbf := Below.grown hbw6 hg10 hbw6.size (fun j hj => by injection hj with hj; omega)
          clear hg10
          go_wp2
          go_ret2
          rw [Hv.out.1, Hv.out.2, He5.out, Hb5.out]
          exact ⟨none, 0, 0, rfl, World.ownsRow_nil _ _ _ _, hbf⟩
        | true =>
          have hsb := Htp.out.2 hokq
          have hif : (if true = true then 0 else 5 : Nat) = 0 := rfl
          rw [hif]
          rw [hsb] at own7
          have hrV := Rd.own own7
          have hn7 : n7 = d := by have := hrV.len; rw [List.length_map, takeV_len, Hfl.out] at this; omega
          subst hn7
          have hoV : ∀ q, (Value.slice A7 n7 c7).ownBlock = some q → gm < q := fun q hq => by have := (own_blk own7 hq).1; omega
          have hmx7 := hrV.max
          have hle7 := hrV.le
          unfold maxLen at hmx7
          have Hok8 : Hid (okT ((wireP L).take (k + 1)) b = true) := Lib.hid (by rw [Hokt.out, Hok.out, hokq]; rfl)
          have hol : o.length = m := by rw [Ho.out]; exact layT_len _ _ _
          have Hol := Lib.hid hol
          generalize takeV FL (b.drop D) = V at *
          clear hsb hif own7 hgm9l hokq Hokt Htp Hok Ho hol
          go_wp2_with fail
          refine Ord.Seg.go hg10 (fun h => by cases h) ?_
          (try simp only [Act.put, List.setIfInBounds_toArray, List.set_cons_zero, List.set_cons_succ])
          ((with_reducible refine Ord.e_p (v := ?_) ?_ ?_ ?_ ?_); rotate_left; (· exact rfl); (· kernel_rfl); (· intro w2; go_simp; try with_reducible rfl))
          (try simp only [Act.put, List.setIfInBounds_toArray, List.set_cons_zero, List.set_cons_succ])
          ((with_reducible refine Ord.e_p (v := ?_) ?_ ?_ ?_ ?_); rotate_left; (· exact rfl); (· kernel_rfl); (· intro w2; go_simp; try with_reducible rfl))
          (try simp only [Act.put, List.setIfInBounds_toArray, List.set_cons_zero, List.set_cons_succ])
          ((with_reducible refine Ord.e_p (v := ?_) ?_ ?_ ?_ ?_); rotate_left; (· exact rfl); (· kernel_rfl); (· intro w2; go_simp; try with_reducible rfl))
          (try simp only [Act.put, List.setIfInBounds_toArray, List.set_cons_zero, List.set_cons_succ])
          ((with_reducible refine Ord.e_p (v := ?_) ?_ ?_ ?_ ?_); rotate_left; (· exact rfl); (· kernel_rfl); (· intro w2; go_simp; try with_reducible rfl))
          (try simp only [Act.put, List.setIfInBounds_toArray, List.set_cons_zero, List.set_cons_succ])
          ((with_reducible refine Ord.e_p (v := ?_) ?_ ?_ ?_ ?_); rotate_left; (· exact rfl); (· kernel_rfl); (· intro w2; go_simp; try with_reducible rfl))
          (try simp only [Act.put, List.setIfInBounds_toArray, List.set_cons_zero, List.set_cons_succ])
          refine Ord.e_nil ?_
          go_wp2_with fail
          go_loopw [15] (fun i wr => ∃ (j : Nat) (o2 : List Int), j ≤ n7 ∧ i = .int .i64 j ∧ w10.grownBy wr (some gm) ∧ wr.heap[gm]? = some (.cells (o2.map (Value.int .i64)).toArray 2) ∧ Hid (o2.length = m) ∧ Hid (o2 = scat o ((((List.range n7).map fun j => a + j).zip V).take j))) (fun i _ => n7 - (intOf i).toNat)
          case atStart => exact ⟨0, o, by omega, rfl, grownBy_self _ _, hgm10, Hol, Lib.hid rfl⟩
          case round =>
            clear hgm10
            obtain ⟨j, o2, hj, rfl, hgj, hgm, Hol2, Ho2⟩ := hrel
            by_cases hjd : j < n7
            · have hjd' : (j : Int) < (n7 : Int) := by omega
              obtain ⟨ad, y, rfl, hy, hcy, hady⟩ := num_at hrV hjd
              have hgv : gm < ad.block := hoV ad.block rfl
              have ky := (hgj.cell_far (ad.add j) (by rw [blk_add]; exact hady) (by rw [blk_add]; intro e; injection e with e; omega)).trans hcy
              have kf := Hf.out wr (Lib.grownBy_trans hg10 hgj)
              have hsc := scat_rng (a := a) o hjd hy
              rw [← Ho2.out] at hsc
              have Hsc := Lib.hid hsc
              have hw3 : IntKind.i64.wrap ((a : Int) + (j : Int)) = ((a + j : Nat) : Int) := by rw [IntWalk.i64_in _ (by omega)]; omega
              obtain ⟨aj, haj⟩ : ∃ aj, aj = a + j := ⟨_, rfl⟩
              rw [← haj] at hw3
              have hajm : aj < m := by omega
              have hajm' : (aj : Int) < (m : Int) := by omega
              have Haj := Lib.hid haj
              have Hw3 := Lib.hid hw3
              clear hy hcy hady hsc haj hw3
              go_wp2_with fail
              refine Ord.region_ (fun _ => True) false [84, 90] (by kernel_rfl) (by kernel_rfl) trivial ?_
              replace hgj := grownBy_drew' hgj
              replace hgm : wr.drew.heap[gm]? = _ := hgm
              replace ky : wr.drew.cell? _ = _ := ky
              replace kf : wr.drew.cell? _ = _ := kf
              generalize wr.drew = w11 at *
              have hou : (o2.map (Value.int .i64))[aj]? = some (.int .i64 (o2.getD aj 0)) := by rw [List.getElem?_map, List.getD_eq_getElem?_getD, List.getElem?_eq_getElem (by rw [Hol2.out]; exact hajm)]; rfl
              have e1 := blk_cell (i := aj) (v := .int .i64 (o2.getD aj 0)) hgm (by rw [List.getElem?_toArray]; exact hou)
              have e2 := blk_free (i := aj) hgm
              have hgm8 := blk_set (i := aj) hgm (.int .i64 y)
              rw [List.setIfInBounds_toArray, show ((o2.map (Value.int .i64)).set aj (.int .i64 y)) = (o2.set aj y).map (Value.int .i64) from (List.map_set ..).symm] at hgm8
              have hg8 := grownBy_set hgj aj (.int .i64 y)
              have Hol8 : Hid ((o2.set aj y).length = m) := Lib.hid (by rw [List.length_set]; exact Hol2.out)
              have Hsc2 : Hid (o2.set aj y = scat o ((((List.range n7).map fun j => a + j).zip V).take (j + 1))) := Lib.hid (by rw [Hsc.out, Haj.out])
              ((with_reducible refine Ord.e_p (v := ?_) ?_ ?_ ?_ ?_); rotate_left; (· exact rfl); (· kernel_rfl); (· intro w2; go_simp; try with_reducible rfl))
              (try simp only [Act.put, List.setIfInBounds_toArray, List.set_cons_zero, List.set_cons_succ])
              ((with_reducible refine Ord.e_p (v := ?_) ?_ ?_ ?_ ?_); rotate_left; (· exact rfl); (· kernel_rfl); (· intro w2; go_simp; try with_reducible rfl))
              (try simp only [Act.put, List.setIfInBounds_toArray, List.set_cons_zero, List.set_cons_succ])
              ((with_reducible refine Ord.e_p (v := ?_) ?_ ?_ ?_ ?_); rotate_left; (· exact rfl); (· kernel_rfl); (· intro w2; go_simp; try with_reducible rfl))
              (try simp only [Act.put, List.setIfInBounds_toArray, List.set_cons_zero, List.set_cons_succ])
              ((with_reducible refine Ord.e_p (v := ?_) ?_ ?_ ?_ ?_); rotate_left; (· exact rfl); (· kernel_rfl); (· intro w2; go_simp; try with_reducible rfl))
              (try simp only [Act.put, List.setIfInBounds_toArray, List.set_cons_zero, List.set_cons_succ])
              refine Ord.e_load Try.underlying3 rfl kf rfl (by kernel_rfl) (by kernel_rfl) ?_
              (try simp only [Act.put, List.setIfInBounds_toArray, List.set_cons_zero, List.set_cons_succ])
              ((with_reducible refine Ord.e_p (v := ?_) ?_ ?_ ?_ ?_); rotate_left; (· exact rfl); (· kernel_rfl); (· intro w2; go_simp; try with_reducible rfl))
              (try simp only [Act.put, List.setIfInBounds_toArray, List.set_cons_zero, List.set_cons_succ])
              refine Ord.e_p (v := .int .i64 (aj : Int)) rfl (by kernel_rfl) (fun w2 => by have hw3 := Hw3.out; go_simp) ?_
              (try simp only [Act.put, List.setIfInBounds_toArray, List.set_cons_zero, List.set_cons_succ])
              ((with_reducible refine Ord.e_p (v := ?_) ?_ ?_ ?_ ?_); rotate_left; (· exact rfl); (· kernel_rfl); (· intro w2; go_simp; try with_reducible rfl))
              (try simp only [Act.put, List.setIfInBounds_toArray, List.set_cons_zero, List.set_cons_succ])
              ((with_reducible refine Ord.e_p (v := ?_) ?_ ?_ ?_ ?_); rotate_left; (· exact rfl); (· kernel_rfl); (· intro w2; go_simp; try with_reducible rfl))
              (try simp only [Act.put, List.setIfInBounds_toArray, List.set_cons_zero, List.set_cons_succ])
              ((with_reducible refine Ord.e_p (v := ?_) ?_ ?_ ?_ ?_); rotate_left; (· exact rfl); (· kernel_rfl); (· intro w2; go_simp; try with_reducible rfl))
              (try simp only [Act.put, List.setIfInBounds_toArray, List.set_cons_zero, List.set_cons_succ])
              refine Ord.e_load Try.underlying2 rfl ky rfl (by kernel_rfl) (by kernel_rfl) ?_
              (try simp only [Act.put, List.setIfInBounds_toArray, List.set_cons_zero, List.set_cons_succ])
              ((with_reducible refine Ord.e_p (v := ?_) ?_ ?_ ?_ ?_); rotate_left; (· exact rfl); (· kernel_rfl); (· intro w2; go_simp; try with_reducible rfl))
              (try simp only [Act.put, List.setIfInBounds_toArray, List.set_cons_zero, List.set_cons_succ])
              refine Ord.e_x rfl (by kernel_rfl) ?_
              go_wp2
              refine Ord.Seg.go trivial (fun h => by cases h) ?_
              (try simp only [Act.put, List.setIfInBounds_toArray, List.set_cons_zero, List.set_cons_succ])
              refine Ord.e_nil ?_
              generalize (w11.setCell ⟨gm, aj, none⟩ (.int .i64 y)) = w12 at *
              clear hgm hgj ky kf hou e1 e2
              go_wp2
              go_roundw
              case rel => exact ⟨j + 1, o2.set aj y, by omega, by go_num, hg8, hgm8, Hol8, Hsc2⟩
              case measure => simp [intOf]; omega
            · obtain rfl : j = n7 := by omega
              have hzl : (((List.range j).map fun q => a + q).zip V).take j = ((List.range j).map fun q => a + q).zip V := List.take_of_length_le (by rw [List.length_zip, List.length_map, List.length_range]; omega)
              have Ho8 : Hid (o2 = layT m ((wireP L).take (k + 1)) b) := Lib.hid (by rw [Hlay.out, ← hzl]; exact Ho2.out)
              have hg12 := Lib.grownBy_trans hg10 hgj
              have hD2 : n3 - lg + (D + lg) = n' := by omega
              have HD2 : Hid (D + lg = sumL (fPs ((wireP L).take (k + 1)))) := Lib.hid Hsum.out.symm
              have hcut := HcutL.out
              clear hzl hgj hg10 hrV
              go_wp2
              go_roundw
              case rel => exact ⟨k + 1, D + lg, n3 - lg, c3 - lg, cutA A3 c3 lg 1, o2, by omega, by go_num, rfl, hD2, hg12, hgm, Hrd2, HD2, Ho8, Hok8⟩
              case measure => simp [intOf]; omega
      · obtain rfl : k = n := by omega
        have htk : (wireP L).take k = wireP L := List.take_of_length_le (by rw [Hwp.out, Hll.out]; exact Nat.le_refl _)
        rw [htk] at Ho Hok
        have He0 : Hid (takSE L b = 0) := Lib.hid (by rw [Hta.out.1, if_pos Hok.out])
        have Hb0 : Hid (takSV L b = o) := Lib.hid (by rw [Hta.out.2, if_pos Hok.out, Ho.out])
        have hol : o.length = m := by rw [Ho.out]; exact layT_len _ _ _
        have own := own_blkAll' (base := w.heap.size) (n := m) hgm hwgm (by rw [List.length_map]; exact hol) (by unfold maxLen; omega)
        have hbf := Below.grown hbw6 hg6 hbw6.size (fun j hj => by injection hj with hj; omega)
        clear hgm hg6 htk hol
        go_wp2
        go_ret2
        rw [Hv.out.1, Hv.out.2, He0.out, Hb0.out]
        exact ⟨_, _, _, rfl, own, hbf⟩

end Go.Proofs.Ytonejdjhdjckjaa
