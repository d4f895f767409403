/-
  Several texts in one: Sch21 Sch22 TlmLaw Sch13 Sch14.
-/
import Derived.Test.YtonejdjhdjckjaaGreatKM2
import Derived.Lib.BufferOwn
import Derived.Test.YtonejdjhdjckjaaGreatKM1
import Derived.Test.YtonejdjhdjckjaaGreatKM0
import Derived.Test.YtonejdjhdjckjaaGreatOwB
/-
  the document's Take walked (printed by gen_sch6.py).
-/
set_option linter.unusedSimpArgs false
set_option linter.unusedVariables false
namespace Go.Proofs.YtonejdjhdjckjaaGreat
open Go.RowKit NumLaw
attribute [local go_sem] Addr.add_mid
attribute [-go_sem] run_eql_struct run_neq_struct

theorem scat_rng {V : List Int} {a d j : Nat} {y : Int} (o : List Int) (hj : j < d) (hy : V[j]? = some y) : scat o ((((List.range d).map fun j => a + j).zip V).take (j + 1)) = (scat o ((((List.range d).map fun j => a + j).zip V).take j)).set (a + j) y := by
  have h1 : (((List.range d).map fun j => a + j).zip V)[j]? = some (a + j, y) := by rw [List.getElem?_zip_eq_some, List.getElem?_map, List.getElem?_range hj]; exact ⟨rfl, hy⟩
  rw [take_succ h1, scat_app]
  rfl
theorem layT_len (n : Nat) (X : List (PtT × Nat)) (b : List UInt8) : (layT n X b).length = n := by unfold layT; rw [scat_len, List.length_replicate]
set_option maxRecDepth 20000 in
set_option maxHeartbeats 16000000 in
theorem qtake31_any (id : Int) (A' : Option Addr) (n' c' : Nat) (b : List UInt8) (w : World) (h : Rd w w.heap.size 1 A' n' c' (bv b)) :
    Calls Tryz.prog 17 #[.int .i64 id, .slice A' n' c'] w (RetTS w (sTV (frm id) b) (sTE (frm id) b)) := by
  have hlb := h.blen
  have hwd := fun w => qwidth_any id w
  have hW := wd_bd (frm id).2 (frm_n id) (frm id).2.length
  rw [List.take_length] at hW
  have hp := qparts_any id w
  have hcn := fun w => qcount_any id w
  have hN := frm_n id
  have hM := (frm_nm id).2.2
  have hC := frm_cnt id
  have hmx := h.max
  have hle := h.le
  unfold maxLen at hmx
  generalize frm id = p at *
  obtain ⟨nm, L⟩ := p
  obtain ⟨m, hm⟩ : ∃ m, m = cntS L := ⟨_, rfl⟩
  dsimp only at hp hcn hN hM hC
  rw [← hm] at hcn hC
  have Hp := Lib.hid hp
  have Hcn := Lib.hid hcn
  have HN := Lib.hid hN
  have Hm := Lib.hid hm
  have Hor := Lib.hid (fun A n c w => order31_any A n c L w)
  have Hfr := Lib.hid (fun A n c w h => from31_any A n c L w h hN)
  have Hwp := Lib.hid (wireP_len L)
  clear hp hcn hN hm
  dsimp only at hwd hW
  obtain ⟨W, hWd⟩ : ∃ W, W = wdS L := ⟨_, rfl⟩
  rw [← hWd] at hwd hW
  have Hwd := Lib.hid hwd
  have HW := Lib.hid hWd
  clear hwd hWd Hor Hfr
  cases hem : nm.toList.isEmpty with
  | true =>
    have hv : sTV (nm, L) b = [] ∧ sTE (nm, L) b = 6 := by unfold sTV sTE; rw [if_pos hem, if_pos hem]; exact ⟨rfl, rfl⟩
    have Hv := Lib.hid hv
    have hL0 : L.length = 0 := by rw [hem] at hM; cases L with
      | nil => rfl
      | cons x l => exact absurd hM.symm Bool.false_ne_true
    clear hv hM hlb
    go_enter Tryz.func17, Tryz.ntmps17
    go_wp2_with fail
    go_fit Hp.out
    unfold RetPt
    rintro e w1 ⟨A, n, c, rfl, hr, hb⟩
    have Hll := Lib.hid hr.len
    have hn : n ≤ 100 := by rw [← hr.len]; exact HN.out.2.1
    have hmxL := hr.2.2.2.1
    have hleL := hr.2.2.1
    unfold maxLen at hmxL
    obtain rfl : n = 0 := by have := Hll.out; omega
    clear hr
    go_wp2
    go_ret2
    rw [Hv.out.1, Hv.out.2]
    exact ⟨none, 0, 0, rfl, World.ownsRow_nil _ _ _ _, hb⟩
  | false =>
    have hv : sTV (nm, L) b = takSV L b ∧ sTE (nm, L) b = takSE L b := by unfold sTV sTE; rw [if_neg (by rw [hem]; exact Bool.false_ne_true), if_neg (by rw [hem]; exact Bool.false_ne_true)]; exact ⟨rfl, rfl⟩
    have Hv := Lib.hid hv
    have hL0 : ¬ L.length = 0 := by rw [hem] at hM; cases L with
      | nil => exact absurd hM.symm (fun e => by cases e)
      | cons x l => simp
    clear hv hM
    by_cases hsh : n' < W
    case pos =>
      have hv2 := take_short (b := b) HN.out.1 (by rw [hlb, ← HW.out]; exact hsh)
      have Hv2 := Lib.hid hv2
      have hsh' : (n' : Int) < (W : Int) := by omega
      clear hv2 hlb
      go_enter Tryz.func17, Tryz.ntmps17
      go_wp2_with fail
      go_fit Hp.out
      unfold RetPt
      rintro e w1 ⟨A, n, c, rfl, hr, hb⟩
      have Hll := Lib.hid hr.len
      have hn : n ≤ 100 := by rw [← hr.len]; exact HN.out.2.1
      have hmxL := hr.2.2.2.1
      have hleL := hr.2.2.1
      unfold maxLen at hmxL
      have hn0 : ¬ (n : Int) = 0 := by have := Hll.out; omega
      have hn00 : ¬ n = 0 := by omega
      clear hr
      go_wp2_with fail
      go_fit (Hwd.out w1)
      rintro e w2 ⟨rfl, hbx⟩
      have hb2 := bnx hb hbx
      clear hbx hb
      go_wp2
      go_ret2
      rw [Hv.out.1, Hv.out.2, Hv2.out.1, Hv2.out.2]
      exact ⟨none, 0, 0, rfl, World.ownsRow_nil _ _ _ _, hb2⟩
    have hsh' : ¬ (n' : Int) < (W : Int) := by omega
    by_cases hlg : W < n'
    case pos =>
      have hv2 := take_long (b := b) HN.out.1 (by rw [hlb, ← HW.out]; exact hlg)
      have Hv2 := Lib.hid hv2
      have hlg' : (W : Int) < (n' : Int) := by omega
      clear hv2 hlb
      go_enter Tryz.func17, Tryz.ntmps17
      go_wp2_with fail
      go_fit Hp.out
      unfold RetPt
      rintro e w1 ⟨A, n, c, rfl, hr, hb⟩
      have Hll := Lib.hid hr.len
      have hn : n ≤ 100 := by rw [← hr.len]; exact HN.out.2.1
      have hmxL := hr.2.2.2.1
      have hleL := hr.2.2.1
      unfold maxLen at hmxL
      have hn0 : ¬ (n : Int) = 0 := by have := Hll.out; omega
      have hn00 : ¬ n = 0 := by omega
      clear hr
      go_wp2_with fail
      go_fit (Hwd.out w1)
      rintro e w2 ⟨rfl, hbx⟩
      have hb2 := bnx hb hbx
      clear hbx hb
      go_wp2_with fail
      go_fit (Hwd.out w2)
      rintro e w3 ⟨rfl, hbx⟩
      have hb3 := bnx hb2 hbx
      clear hbx hb2
      go_wp2
      go_ret2
      rw [Hv.out.1, Hv.out.2, Hv2.out.1, Hv2.out.2]
      exact ⟨none, 0, 0, rfl, World.ownsRow_nil _ _ _ _, hb3⟩
    have hlg' : ¬ (W : Int) < (n' : Int) := by omega
    have hta := take_all (b := b) HN.out.1 (by rw [hlb, ← HW.out]; omega)
    rw [← Hm.out] at hta
    have Hta := Lib.hid hta
    have hws := wire_sum HN.out.1
    rw [← HW.out] at hws
    have Hws := Lib.hid hws
    obtain ⟨i2, hi2⟩ := info_parts u8_info
    have Hi2 := Lib.hid hi2
    have Hlb := Lib.hid hlb
    have hmk := run_make_row' (P := Tryz.prog) 24 2 (.int .i64 0) 8 Tryz.underlying24 i64_info rfl .i64 .i64 m (by omega) (by omega)
    rw [made_rep'] at hmk
    obtain ⟨z, hz⟩ : ∃ z, z = List.replicate m (Value.int .i64 0) := ⟨_, rfl⟩
    rw [← hz] at hmk
    have hz2 : z = (List.replicate m (0 : Int)).map (Value.int .i64) := by rw [hz, List.map_replicate]
    have Hz := Lib.hid hz2
    clear hlb hi2 hta hws hz hz2
    go_enter Tryz.func17, Tryz.ntmps17
    go_wp2_with fail
    go_fit Hp.out
    unfold RetPt
    rintro e w1 ⟨A, n, c, rfl, hr, hb⟩
    have Hll := Lib.hid hr.len
    have hn : n ≤ 100 := by rw [← hr.len]; exact HN.out.2.1
    have hmxL := hr.2.2.2.1
    have hleL := hr.2.2.1
    unfold maxLen at hmxL
    have hn0 : ¬ (n : Int) = 0 := by have := Hll.out; omega
    have hn00 : ¬ n = 0 := by omega
    go_wp2_with fail
    go_fit (Hwd.out w1)
    rintro e w2 ⟨rfl, hbx⟩
    have hb2 := bnx hb hbx
    have hr2 : RdP w2 w2.heap.size A n c L := RdR.more (RdR.up hr hbx) hbx.size
    clear hbx hb hr
    go_wp2_with fail
    go_fit (Hwd.out w2)
    rintro e w3 ⟨rfl, hbx⟩
    have hb3 := bnx hb2 hbx
    have hr3 : RdP w3 w3.heap.size A n c L := RdR.more (RdR.up hr2 hbx) hbx.size
    clear hbx hb2 hr2
    go_wp2_with fail
    go_fit (Hcn.out w3)
    rintro e w4 ⟨rfl, hbx⟩
    have hb4 := bnx hb3 hbx
    have hr4 : RdP w4 w4.heap.size A n c L := RdR.more (RdR.up hr3 hbx) hbx.size
    have hba : Below w4.heap.size w4 (w4.alloc (.cells z.toArray 2)) := (Below.refl _ _).alloc (Nat.le_refl _) _
    have hgm : (w4.alloc (.cells z.toArray 2)).heap[w4.heap.size]? = some (.cells ((List.replicate m (0 : Int)).map (Value.int .i64)).toArray 2) := by rw [← Hz.out]; exact heap_alloc_new w4 (.cells z.toArray 2)
    have hrA : RdP (w4.alloc (.cells z.toArray 2)) (w4.alloc (.cells z.toArray 2)).heap.size A n c L := RdR.more (RdR.up hr4 hba) hba.size
    clear hbx hb3 hr3
    go_wp2_with fail
    generalize (w4.alloc (.cells z.toArray 2)) = wA at *
    go_fit (order31_own A n c L wA hrA (by omega))
    rintro e w5 ⟨A1, c1, rfl, hO, ownO, hbx⟩
    have hb5 := bnx hba hbx
    have hr5 : RdP w5 w5.heap.size A n c L := RdR.more (RdR.up hrA hbx) hbx.size
    have hgm5 := blk_old hgm hbx (blk_lt hgm)
    have hgA := blk_lt hgm
    clear hba hrA hgm
    go_wp2_with fail
    go_fit (from31_own A n c L w5 hr5 HN.out)
    rintro e w6 ⟨A2, c2, rfl, hA, ownA, hby⟩
    have hb6 := bnx hb5 hby
    have hr6 : RdP w6 w4.heap.size A n c L := RdR.up hr4 hb6
    have hO6 : RdN w6 w6.heap.size A1 n c1 (ordS L) := RdR.more (RdR.up hO hby) hby.size
    have hgm6 := blk_old hgm5 hby (blk_lt hgm5)
    have hoA := fun q hq => (own_blk ownO (k := q) hq).1
    have hoB := fun q hq => (own_blk ownA (k := q) hq).1
    have hs56 := hbx.size
    have hs6 := hb6.size
    obtain ⟨gm, hgg⟩ : ∃ gm, gm = w4.heap.size := ⟨_, rfl⟩
    rw [← hgg] at hgm6 hr6 hgA ⊢
    have hoA2 : ∀ q, (Value.slice A1 n c1).ownBlock = some q → gm < q := fun q hq => by have := hoA q hq; omega
    have hoB2 : ∀ q, (Value.slice A2 n c2).ownBlock = some q → gm < q := fun q hq => by have := hoB q hq; omega
    have hmxO := hO6.2.2.2.1
    have hleO := hO6.2.2.1
    unfold maxLen at hmxO
    have hmxA := hA.2.2.2.1
    have hleA := hA.2.2.1
    unfold maxLen at hmxA
    have hwgm : w.heap.size ≤ gm := by rw [hgg]; exact hb4.size
    have hbw6 := bnx hb4 hb6
    have hsz6 : gm < w6.heap.size := blk_lt hgm6
    have Hrd0 := Lib.hid (h.up hbw6)
    clear hbx hby hb5 hr5 hgm5 hO ownO ownA hoA hoB hr4 hb4 hb6 hgA hgg hmk Hp Hcn Hwd Hz h hs56 hs6
    go_wp2_with fail
    go_loopw [1, 10] (fun bs i wr => ∃ (k D n3 c3 : Nat) (A3 : Option Addr) (o : List Int), k ≤ n ∧ i = .int .i64 k ∧ bs = .slice A3 n3 c3 ∧ n3 + D = n' ∧ w6.grownBy wr (some gm) ∧ wr.heap[gm]? = some (.cells (o.map (Value.int .i64)).toArray 2) ∧ Hid (Rd w6 w.heap.size 1 A3 n3 c3 (bv (b.drop D))) ∧ Hid (D = sumL (fPs ((wireP L).take k))) ∧ Hid (o = layT m ((wireP L).take k) b) ∧ Hid (okT ((wireP L).take k) b = true)) (fun _ i _ => n - (intOf i).toNat)
    case atStart => exact ⟨0, 0, n', c', A', List.replicate m 0, by omega, rfl, rfl, by omega, grownBy_self _ _, hgm6, Hrd0, Lib.hid rfl, Lib.hid rfl, Lib.hid rfl⟩
    case round =>
      clear hgm6 Hrd0
      obtain ⟨k, D, n3, c3, A3, o, hk, rfl, rfl, hD, hg6, hgm, Hrd, HD, Ho, Hok⟩ := hrel
      have hgml := blk_lt hgm
      have hmx3 := Hrd.out.max
      have hle3 := Hrd.out.le
      unfold maxLen at hmx3
      by_cases hlt : k < n
      · have hlt' : (k : Int) < (n : Int) := by omega
        obtain ⟨ga, oa, nn, rfl, hga, hy, hya⟩ := RdN.at_ hO6 hlt
        have hyn0 : nn < L.length := ord_mem L nn (List.mem_of_getElem? hy)
        have hyn : nn < n := by have := Hll.out; omega
        obtain ⟨g, off, x, rfl, hg, hx, hr⟩ := RdP.at_ hr6 hyn
        obtain ⟨gf, of, a, rfl, hgf, haa, hfa⟩ := RdN.at_ hA hyn
        have hga2 : gm < ga := hoA2 ga rfl
        have hgf2 : gm < gf := hoB2 gf rfl
        have kO := (hg6.cell_far ⟨ga, oa + k, none⟩ hga (by intro e; injection e with e; have : ga = gm := e; omega)).trans hya
        obtain rfl : a = cntS (L.take nn) := by rw [fromL_at hyn0] at haa; injection haa with haa; exact haa.symm
        have hwp := wireP_at hy hx
        have hxL := List.mem_of_getElem? hx
        have hz := HN.out.1 x hxL
        have hm100 := HN.out.2.2 x hxL
        have hcl := cnt_take_le hx
        rw [← Hm.out] at hcl
        have hts := take_succ hwp
        have hfs := fldsP_sum hz
        have hlay := layT_snoc m ((wireP L).take k) (x, cntS (L.take nn)) b
        have hokt := okT_snoc ((wireP L).take k) (x, cntS (L.take nn)) b
        have hsum := sumL_app (fPs ((wireP L).take k)) (fldsP x)
        rw [← fPs_snoc _ (x, cntS (L.take nn)), ← hts, hfs, ← HD.out] at hsum
        rw [← hts, ← HD.out] at hlay hokt
        rw [← Ho.out] at hlay
        have hcov : sumL (fPs ((wireP L).take (k + 1))) ≤ W := by
          have := sum_more ((wireP L).take (k + 1)) ((wireP L).drop (k + 1))
          rw [List.take_append_drop, Hws.out] at this
          exact this
        rw [hsum] at hcov
        have htp := take_part (b := b) hz (D := D) (by have := Hlb.out; omega)
        have hfx := fun w => qnumbers_any x w
        have hff := fun w => qfields_any x w hz hm100
        have htk := fun A c B A' n' c' B' b w h hB h' hB' hn' => qTake14_any A (mx1 x.mn) c B (fldsP x) A' n' c' B' b w h hB h' hB' (by omega) hn'
        have hfl := fldsP_len x
        generalize cntS (L.take nn) = a at *
        have Hr := Lib.hid (show ∀ wq, w6.grownBy wq (some gm) → wq.rangeAt g (off + nn * 4) (ptC x) from fun wq hgq j v hv => (hgq.cell_far ⟨g, off + nn * 4 + j, none⟩ (by show g < _; omega) (by intro e; injection e with e; have : g = gm := e; omega)).trans (hr j v hv))
        have Hf := Lib.hid (show ∀ wq, w6.grownBy wq (some gm) → wq.cell? ⟨gf, of + nn, none⟩ = some (.int .i64 (a : Int)) from fun wq hgq => (hgq.cell_far ⟨gf, of + nn, none⟩ hgf (by intro e; injection e with e; have : gf = gm := e; omega)).trans hfa)
        generalize fldsP x = FL at *
        obtain ⟨s1, z1, g1, m1⟩ := x
        dsimp only at hz hm100 hcl hfx hff htk hfl hlay hokt hsum hcov htp
        obtain ⟨d, hd⟩ : ∃ d : Nat, d = mx1 m1 := ⟨_, rfl⟩
        rw [← hd] at hm100 hcl hff htk hfl hlay hsum hcov htp
        have hfx2 : ∀ w, Calls Tryz.prog 37 #[.agg (ptC ⟨s1, z1, g1, m1⟩).toArray] w fun e w' => e = .returned (.int .i64 (d : Int)) ∧ Below w.heap.size w w' := fun w => by rw [hd]; exact hfx w
        obtain ⟨zn, hzn⟩ : ∃ zn : Nat, z1 = zn := ⟨z1.toNat, by rcases hz with rfl | rfl | rfl | rfl <;> rfl⟩
        have hz8 : zn ≤ 8 := by rcases hz with h | h | h | h <;> omega
        subst hzn
        rw [show ((zn : Int)).toNat = zn from rfl] at hsum hcov htp
        have hmul : zn * d ≤ 800 := Nat.le_trans (Nat.mul_le_mul hz8 hm100) (by omega)
        have hww : IntKind.i64.wrap ((zn : Int) * (d : Int)) = ((zn * d : Nat) : Int) := by
          rw [← Int.natCast_mul]
          generalize zn * d = q at *
          exact IntWalk.i64_in _ (by omega)
        obtain ⟨lg, hlg2⟩ : ∃ lg : Nat, lg = zn * d := ⟨_, rfl⟩
        rw [← hlg2] at hsum hcov htp hmul hww
        have hln3 : lg ≤ n3 := by omega
        have hcutR : ∀ w, (Instr.slice 22 (.slice A3 n3 c3) none (some (.int .i64 (lg : Int))) none).run Tryz.prog w = .ok (.slice A3 lg c3) w := run_cut_h (P := Tryz.prog) Tryz.underlying22 Hi2.out.1 A3 n3 c3 lg (by omega)
        have hcutL : ∀ w, (Instr.slice 22 (.slice A3 n3 c3) (some (.int .i64 (lg : Int))) none none).run Tryz.prog w = .ok (.slice (cutA A3 c3 lg 1) (n3 - lg) (c3 - lg)) w := fun w => run_cut_l (P := Tryz.prog) Tryz.underlying22 Hi2.out.1 Hi2.out.2.2.1 A3 n3 c3 lg (by omega) w
        have Hrd2 : Hid (Rd w6 w.heap.size 1 (cutA A3 c3 lg 1) (n3 - lg) (c3 - lg) (bv (b.drop (D + lg)))) := Lib.hid (by have := Hrd.out.bdrop (k := lg) hln3; rwa [List.drop_drop] at this)
        have Hrt := Lib.hid (Hrd.out.btake (k := lg) hln3)
        have Hww := Lib.hid hww
        have HcutR := Lib.hid hcutR
        have HcutL := Lib.hid hcutL
        have Hfx := Lib.hid hfx2
        have Hff := Lib.hid hff
        have Htk := Lib.hid htk
        have Htp := Lib.hid htp
        have Hlay := Lib.hid hlay
        have Hokt := Lib.hid hokt
        have Hsum := Lib.hid hsum
        have Hfl := Lib.hid hfl
        have hyn' : (nn : Int) < (n : Int) := by omega
        clear hy hya hyn0 hx hr haa hfa hwp hxL hz hfx hfx2 hff htk hts hd hfs hlay hokt hsum htp hww hlg2 hcutR hcutL hfl hoA2 hoB2 Hrd
        go_wp2_with fail
        refine Ord.region_ (fun w' => w6.grownBy w' (some gm)) false [] (by kernel_rfl) (by kernel_rfl) (grownBy_drew' hg6) ?_
        clear kO
        replace hg6 := grownBy_drew' hg6
        replace hgm : wr.drew.heap[gm]? = _ := hgm
        generalize wr.drew = wd at *
        ((with_reducible refine Ord.e_p (v := ?_) ?_ ?_ ?_ ?_); rotate_left; (· exact rfl); (· kernel_rfl); (· intro w2; go_simp; try with_reducible rfl))
        (try simp only [Act.put, List.setIfInBounds_toArray, List.set_cons_zero, List.set_cons_succ])
        ((with_reducible refine Ord.e_p (v := ?_) ?_ ?_ ?_ ?_); rotate_left; (· exact rfl); (· kernel_rfl); (· intro w2; go_simp; try with_reducible rfl))
        (try simp only [Act.put, List.setIfInBounds_toArray, List.set_cons_zero, List.set_cons_succ])
        ((with_reducible refine Ord.e_p (v := ?_) ?_ ?_ ?_ ?_); rotate_left; (· exact rfl); (· kernel_rfl); (· intro w2; go_simp; try with_reducible rfl))
        (try simp only [Act.put, List.setIfInBounds_toArray, List.set_cons_zero, List.set_cons_succ])
        ((with_reducible refine Ord.e_p (v := ?_) ?_ ?_ ?_ ?_); rotate_left; (· exact rfl); (· kernel_rfl); (· intro w2; go_simp; try with_reducible rfl))
        (try simp only [Act.put, List.setIfInBounds_toArray, List.set_cons_zero, List.set_cons_succ])
        refine Ord.e_loadS (ad := ⟨g, off + nn * 4 + 1, none⟩) Tryz.underlying3 rfl (fun w' hS => Hr.out w' hS 1 _ rfl) hg6 rfl (by kernel_rfl) ?_
        (try simp only [Act.put, List.setIfInBounds_toArray, List.set_cons_zero, List.set_cons_succ])
        ((with_reducible refine Ord.e_p (v := ?_) ?_ ?_ ?_ ?_); rotate_left; (· exact rfl); (· kernel_rfl); (· intro w2; go_simp; try with_reducible rfl))
        (try simp only [Act.put, List.setIfInBounds_toArray, List.set_cons_zero, List.set_cons_succ])
        ((with_reducible refine Ord.e_p (v := ?_) ?_ ?_ ?_ ?_); rotate_left; (· exact rfl); (· kernel_rfl); (· intro w2; go_simp; try with_reducible rfl))
        (try simp only [Act.put, List.setIfInBounds_toArray, List.set_cons_zero, List.set_cons_succ])
        ((with_reducible refine Ord.e_p (v := ?_) ?_ ?_ ?_ ?_); rotate_left; (· exact rfl); (· kernel_rfl); (· intro w2; go_simp; try with_reducible rfl))
        (try simp only [Act.put, List.setIfInBounds_toArray, List.set_cons_zero, List.set_cons_succ])
        refine Ord.e_rowS (cs := ptC ⟨s1, (zn : Int), g1, m1⟩) (b := g) (o := off + nn * 4) Tryz.underlying71 rfl (by kernel_rfl) rfl (by simp [ptC]) (fun w' hS => Hr.out w' hS) hg6 (by kernel_rfl) ?_
        (try simp only [Act.put, List.setIfInBounds_toArray, List.set_cons_zero, List.set_cons_succ])
        refine Ord.e_x rfl (by kernel_rfl) ?_
        go_wp2_with fail
        go_fit (Hfx.out wd)
        rintro e w7 ⟨rfl, hbx⟩
        have hg7 := Lib.grownBy_trans hg6 (grownBy_of hbx (some gm))
        have hgm7 := blk_old hgm hbx (blk_lt hgm)
        clear hg6 hgm hbx hgml
        go_wp2_with fail
        refine Ord.Seg.go hg7 (fun h => by cases h) ?_
        (try simp only [Act.put, List.setIfInBounds_toArray, List.set_cons_zero, List.set_cons_succ])
        refine Ord.e_p (v := .int .i64 (lg : Int)) rfl (by kernel_rfl) (fun w2 => by have hww := Hww.out; go_simp) ?_
        (try simp only [Act.put, List.setIfInBounds_toArray, List.set_cons_zero, List.set_cons_succ])
        ((with_reducible refine Ord.e_p (v := ?_) ?_ ?_ ?_ ?_); rotate_left; (· exact rfl); (· kernel_rfl); (· intro w2; go_simp; try with_reducible rfl))
        (try simp only [Act.put, List.setIfInBounds_toArray, List.set_cons_zero, List.set_cons_succ])
        refine Ord.e_nil ?_
        go_wp2_with fail
        refine Ord.region_ (fun w' => w6.grownBy w' (some gm)) false [] (by kernel_rfl) (by kernel_rfl) (grownBy_drew' hg7) ?_
        replace hg7 := grownBy_drew' hg7
        replace hgm7 : w7.drew.heap[gm]? = _ := hgm7
        generalize w7.drew = w8 at *
        ((with_reducible refine Ord.e_p (v := ?_) ?_ ?_ ?_ ?_); rotate_left; (· exact rfl); (· kernel_rfl); (· intro w2; go_simp; try with_reducible rfl))
        (try simp only [Act.put, List.setIfInBounds_toArray, List.set_cons_zero, List.set_cons_succ])
        ((with_reducible refine Ord.e_p (v := ?_) ?_ ?_ ?_ ?_); rotate_left; (· exact rfl); (· kernel_rfl); (· intro w2; go_simp; try with_reducible rfl))
        (try simp only [Act.put, List.setIfInBounds_toArray, List.set_cons_zero, List.set_cons_succ])
        ((with_reducible refine Ord.e_p (v := ?_) ?_ ?_ ?_ ?_); rotate_left; (· exact rfl); (· kernel_rfl); (· intro w2; go_simp; try with_reducible rfl))
        (try simp only [Act.put, List.setIfInBounds_toArray, List.set_cons_zero, List.set_cons_succ])
        refine Ord.e_rowS (cs := ptC ⟨s1, (zn : Int), g1, m1⟩) (b := g) (o := off + nn * 4) Tryz.underlying71 rfl (by kernel_rfl) rfl (by simp [ptC]) (fun w' hS => Hr.out w' hS) hg7 (by kernel_rfl) ?_
        (try simp only [Act.put, List.setIfInBounds_toArray, List.set_cons_zero, List.set_cons_succ])
        refine Ord.e_x rfl (by kernel_rfl) ?_
        go_wp2_with fail
        go_fit (Hff.out w8)
        rintro e w9 ⟨A5, c5, rfl, hf9, hbx⟩
        have hg9 := Lib.grownBy_trans hg7 (grownBy_of hbx (some gm))
        have hgm9 := blk_old hgm7 hbx (blk_lt hgm7)
        clear hg7 hgm7 hbx
        go_wp2_with fail
        refine Ord.Seg.go hg9 (fun h => by cases h) ?_
        (try simp only [Act.put, List.setIfInBounds_toArray, List.set_cons_zero, List.set_cons_succ])
        ((with_reducible refine Ord.e_p (v := ?_) ?_ ?_ ?_ ?_); rotate_left; (· exact rfl); (· kernel_rfl); (· intro w2; go_simp; try with_reducible rfl))
        (try simp only [Act.put, List.setIfInBounds_toArray, List.set_cons_zero, List.set_cons_succ])
        ((with_reducible refine Ord.e_p (v := ?_) ?_ ?_ ?_ ?_); rotate_left; (· exact rfl); (· kernel_rfl); (· intro w2; go_simp; try with_reducible rfl))
        (try simp only [Act.put, List.setIfInBounds_toArray, List.set_cons_zero, List.set_cons_succ])
        refine Ord.e_p (v := .slice A3 lg c3) rfl (by kernel_rfl) (fun w2 => by have hcut := HcutR.out w2; go_simp) ?_
        (try simp only [Act.put, List.setIfInBounds_toArray, List.set_cons_zero, List.set_cons_succ])
        have hrt9 := Rd.grown Hrt.out hg9 hwgm hsz6
        refine Ord.e_x rfl (by kernel_rfl) ?_
        go_wp2_with fail
        go_fit (Htk.out A5 c5 w9.heap.size _ _ _ w.heap.size _ w9 hf9 (Nat.le_refl _) hrt9 (by have := hg9.size; omega) (by omega))
        rintro e w10 ⟨A7, n7, c7, rfl, own7, hbx⟩
        rw [Htp.out.1]
        have hg10 := Lib.grownBy_trans hg9 (grownBy_of hbx (some gm))
        have hgm10 := blk_old hgm9 hbx (blk_lt hgm9)
        have hgm9l := blk_lt hgm9
        clear hg9 hgm9 hf9 hbx hrt9
        cases hokq : inAll FL (takeV FL (b.drop D)) with
        | false =>
          have hna : ¬ okT (wireP L) b = true := fun hh => by
            have h1 := okT_more ((wireP L).take (k + 1)) ((wireP L).drop (k + 1)) b (by rw [List.take_append_drop]; exact hh)
            rw [Hokt.out, hokq, Bool.and_false] at h1
            exact Bool.false_ne_true h1
          have He5 : Hid (takSE L b = 5) := Lib.hid (by rw [Hta.out.1, if_neg hna])
          have Hb5 : Hid (takSV L b = []) := Lib.hid (by rw [Hta.out.2, if_neg hna])
          have hif : (if false = true then 0 else 5 : Nat) = 5 := rfl
          clear hna own7 hgm10 hgm9l
          rw [hif]
          go_wp2_with fail
          refine Ord.Seg.go hg10 (fun h => by cases h) ?_
          (try simp only [Act.put, List.setIfInBounds_toArray, List.set_cons_zero, List.set_cons_succ])
          ((with_reducible refine Ord.e_p (v := ?_) ?_ ?_ ?_ ?_); rotate_left; (· exact rfl); (· kernel_rfl); (· intro w2; go_simp; try with_reducible rfl))
          (try simp only [Act.put, List.setIfInBounds_toArray, List.set_cons_zero, List.set_cons_succ])
          ((with_reducible refine Ord.e_p (v := ?_) ?_ ?_ ?_ ?_); rotate_left; (· exact rfl); (· kernel_rfl); (· intro w2; go_simp; try with_reducible rfl))
          (try simp only [Act.put, List.setIfInBounds_toArray, List.set_cons_zero, List.set_cons_succ])
          ((with_reducible refine Ord.e_p (v := ?_) ?_ ?_ ?_ ?_); rotate_left; (· exact rfl); (· kernel_rfl); (· intro w2; go_simp; try with_reducible rfl))
          (try simp only [Act.put, List.setIfInBounds_toArray, List.set_cons_zero, List.set_cons_succ])
          ((with_reducible refine Ord.e_p (v := ?_) ?_ ?_ ?_ ?_); rotate_left; (· exact rfl); (· kernel_rfl); (· intro w2; go_simp; try with_reducible rfl))
          (try simp only [Act.put, List.setIfInBounds_toArray, List.set_cons_zero, List.set_cons_succ])
          ((with_reducible refine Ord.e_p (v := ?_) ?_ ?_ ?_ ?_); rotate_left; (· exact rfl); (· kernel_rfl); (· intro w2; go_simp; try with_reducible rfl))
          (try simp only [Act.put, List.setIfInBounds_toArray, List.set_cons_zero, List.set_cons_succ])
          refine Ord.e_nil ?_
          have hbf := Below.grown hbw6 hg10 hbw6.size (fun j hj => by injection hj with hj; omega)
          clear hg10
          go_wp2
          go_ret2
          rw [Hv.out.1, Hv.out.2, He5.out, Hb5.out]
          exact ⟨none, 0, 0, rfl, World.ownsRow_nil _ _ _ _, hbf⟩
        | true =>
          have hsb := Htp.out.2 hokq
          have hif : (if true = true then 0 else 5 : Nat) = 0 := rfl
          rw [hif]
          rw [hsb] at own7
          have hrV := Rd.own own7
          have hn7 : n7 = d := by have := hrV.len; rw [List.length_map, takeV_len, Hfl.out] at this; omega
          subst hn7
          have hoV : ∀ q, (Value.slice A7 n7 c7).ownBlock = some q → gm < q := fun q hq => by have := (own_blk own7 hq).1; omega
          have hmx7 := hrV.max
          have hle7 := hrV.le
          unfold maxLen at hmx7
          have Hok8 : Hid (okT ((wireP L).take (k + 1)) b = true) := Lib.hid (by rw [Hokt.out, Hok.out, hokq]; rfl)
          have hol : o.length = m := by rw [Ho.out]; exact layT_len _ _ _
          have Hol := Lib.hid hol
          generalize takeV FL (b.drop D) = V at *
          clear hsb hif own7 hgm9l hokq Hokt Htp Hok Ho hol
          go_wp2_with fail
          refine Ord.Seg.go hg10 (fun h => by cases h) ?_
          (try simp only [Act.put, List.setIfInBounds_toArray, List.set_cons_zero, List.set_cons_succ])
          ((with_reducible refine Ord.e_p (v := ?_) ?_ ?_ ?_ ?_); rotate_left; (· exact rfl); (· kernel_rfl); (· intro w2; go_simp; try with_reducible rfl))
          (try simp only [Act.put, List.setIfInBounds_toArray, List.set_cons_zero, List.set_cons_succ])
          ((with_reducible refine Ord.e_p (v := ?_) ?_ ?_ ?_ ?_); rotate_left; (· exact rfl); (· kernel_rfl); (· intro w2; go_simp; try with_reducible rfl))
          (try simp only [Act.put, List.setIfInBounds_toArray, List.set_cons_zero, List.set_cons_succ])
          ((with_reducible refine Ord.e_p (v := ?_) ?_ ?_ ?_ ?_); rotate_left; (· exact rfl); (· kernel_rfl); (· intro w2; go_simp; try with_reducible rfl))
          (try simp only [Act.put, List.setIfInBounds_toArray, List.set_cons_zero, List.set_cons_succ])
          ((with_reducible refine Ord.e_p (v := ?_) ?_ ?_ ?_ ?_); rotate_left; (· exact rfl); (· kernel_rfl); (· intro w2; go_simp; try with_reducible rfl))
          (try simp only [Act.put, List.setIfInBounds_toArray, List.set_cons_zero, List.set_cons_succ])
          ((with_reducible refine Ord.e_p (v := ?_) ?_ ?_ ?_ ?_); rotate_left; (· exact rfl); (· kernel_rfl); (· intro w2; go_simp; try with_reducible rfl))
          (try simp only [Act.put, List.setIfInBounds_toArray, List.set_cons_zero, List.set_cons_succ])
          refine Ord.e_nil ?_
          go_wp2_with fail
          go_loopw [15] (fun i wr => ∃ (j : Nat) (o2 : List Int), j ≤ n7 ∧ i = .int .i64 j ∧ w10.grownBy wr (some gm) ∧ wr.heap[gm]? = some (.cells (o2.map (Value.int .i64)).toArray 2) ∧ Hid (o2.length = m) ∧ Hid (o2 = scat o ((((List.range n7).map fun j => a + j).zip V).take j))) (fun i _ => n7 - (intOf i).toNat)
          case atStart => exact ⟨0, o, by omega, rfl, grownBy_self _ _, hgm10, Hol, Lib.hid rfl⟩
          case round =>
            clear hgm10
            obtain ⟨j, o2, hj, rfl, hgj, hgm, Hol2, Ho2⟩ := hrel
            by_cases hjd : j < n7
            · have hjd' : (j : Int) < (n7 : Int) := by omega
              obtain ⟨ad, y, rfl, hy, hcy, hady⟩ := num_at hrV hjd
              have hgv : gm < ad.block := hoV ad.block rfl
              have ky := (hgj.cell_far (ad.add j) (by rw [blk_add]; exact hady) (by rw [blk_add]; intro e; injection e with e; omega)).trans hcy
              have kf := Hf.out wr (Lib.grownBy_trans hg10 hgj)
              have hsc := scat_rng (a := a) o hjd hy
              rw [← Ho2.out] at hsc
              have Hsc := Lib.hid hsc
              have hw3 : IntKind.i64.wrap ((a : Int) + (j : Int)) = ((a + j : Nat) : Int) := by rw [IntWalk.i64_in _ (by omega)]; omega
              obtain ⟨aj, haj⟩ : ∃ aj, aj = a + j := ⟨_, rfl⟩
              rw [← haj] at hw3
              have hajm : aj < m := by omega
              have hajm' : (aj : Int) < (m : Int) := by omega
              have Haj := Lib.hid haj
              have Hw3 := Lib.hid hw3
              clear hy hcy hady hsc haj hw3
              go_wp2_with fail
              refine Ord.region_ (fun _ => True) false [84, 90] (by kernel_rfl) (by kernel_rfl) trivial ?_
              replace hgj := grownBy_drew' hgj
              replace hgm : wr.drew.heap[gm]? = _ := hgm
              replace ky : wr.drew.cell? _ = _ := ky
              replace kf : wr.drew.cell? _ = _ := kf
              generalize wr.drew = w11 at *
              have hou : (o2.map (Value.int .i64))[aj]? = some (.int .i64 (o2.getD aj 0)) := by rw [List.getElem?_map, List.getD_eq_getElem?_getD, List.getElem?_eq_getElem (by rw [Hol2.out]; exact hajm)]; rfl
              have e1 := blk_cell (i := aj) (v := .int .i64 (o2.getD aj 0)) hgm (by rw [List.getElem?_toArray]; exact hou)
              have e2 := blk_free (i := aj) hgm
              have hgm8 := blk_set (i := aj) hgm (.int .i64 y)
              rw [List.setIfInBounds_toArray, show ((o2.map (Value.int .i64)).set aj (.int .i64 y)) = (o2.set aj y).map (Value.int .i64) from (List.map_set ..).symm] at hgm8
              have hg8 := grownBy_set hgj aj (.int .i64 y)
              have Hol8 : Hid ((o2.set aj y).length = m) := Lib.hid (by rw [List.length_set]; exact Hol2.out)
              have Hsc2 : Hid (o2.set aj y = scat o ((((List.range n7).map fun j => a + j).zip V).take (j + 1))) := Lib.hid (by rw [Hsc.out, Haj.out])
              ((with_reducible refine Ord.e_p (v := ?_) ?_ ?_ ?_ ?_); rotate_left; (· exact rfl); (· kernel_rfl); (· intro w2; go_simp; try with_reducible rfl))
              (try simp only [Act.put, List.setIfInBounds_toArray, List.set_cons_zero, List.set_cons_succ])
              ((with_reducible refine Ord.e_p (v := ?_) ?_ ?_ ?_ ?_); rotate_left; (· exact rfl); (· kernel_rfl); (· intro w2; go_simp; try with_reducible rfl))
              (try simp only [Act.put, List.setIfInBounds_toArray, List.set_cons_zero, List.set_cons_succ])
              ((with_reducible refine Ord.e_p (v := ?_) ?_ ?_ ?_ ?_); rotate_left; (· exact rfl); (· kernel_rfl); (· intro w2; go_simp; try with_reducible rfl))
              (try simp only [Act.put, List.setIfInBounds_toArray, List.set_cons_zero, List.set_cons_succ])
              ((with_reducible refine Ord.e_p (v := ?_) ?_ ?_ ?_ ?_); rotate_left; (· exact rfl); (· kernel_rfl); (· intro w2; go_simp; try with_reducible rfl))
              (try simp only [Act.put, List.setIfInBounds_toArray, List.set_cons_zero, List.set_cons_succ])
              refine Ord.e_load Tryz.underlying3 rfl kf rfl (by kernel_rfl) (by kernel_rfl) ?_
              (try simp only [Act.put, List.setIfInBounds_toArray, List.set_cons_zero, List.set_cons_succ])
              ((with_reducible refine Ord.e_p (v := ?_) ?_ ?_ ?_ ?_); rotate_left; (· exact rfl); (· kernel_rfl); (· intro w2; go_simp; try with_reducible rfl))
              (try simp only [Act.put, List.setIfInBounds_toArray, List.set_cons_zero, List.set_cons_succ])
              refine Ord.e_p (v := .int .i64 (aj : Int)) rfl (by kernel_rfl) (fun w2 => by have hw3 := Hw3.out; go_simp) ?_
              (try simp only [Act.put, List.setIfInBounds_toArray, List.set_cons_zero, List.set_cons_succ])
              ((with_reducible refine Ord.e_p (v := ?_) ?_ ?_ ?_ ?_); rotate_left; (· exact rfl); (· kernel_rfl); (· intro w2; go_simp; try with_reducible rfl))
              (try simp only [Act.put, List.setIfInBounds_toArray, List.set_cons_zero, List.set_cons_succ])
              ((with_reducible refine Ord.e_p (v := ?_) ?_ ?_ ?_ ?_); rotate_left; (· exact rfl); (· kernel_rfl); (· intro w2; go_simp; try with_reducible rfl))
              (try simp only [Act.put, List.setIfInBounds_toArray, List.set_cons_zero, List.set_cons_succ])
              ((with_reducible refine Ord.e_p (v := ?_) ?_ ?_ ?_ ?_); rotate_left; (· exact rfl); (· kernel_rfl); (· intro w2; go_simp; try with_reducible rfl))
              (try simp only [Act.put, List.setIfInBounds_toArray, List.set_cons_zero, List.set_cons_succ])
              refine Ord.e_load Tryz.underlying2 rfl ky rfl (by kernel_rfl) (by kernel_rfl) ?_
              (try simp only [Act.put, List.setIfInBounds_toArray, List.set_cons_zero, List.set_cons_succ])
              ((with_reducible refine Ord.e_p (v := ?_) ?_ ?_ ?_ ?_); rotate_left; (· exact rfl); (· kernel_rfl); (· intro w2; go_simp; try with_reducible rfl))
              (try simp only [Act.put, List.setIfInBounds_toArray, List.set_cons_zero, List.set_cons_succ])
              refine Ord.e_x rfl (by kernel_rfl) ?_
              go_wp2
              refine Ord.Seg.go trivial (fun h => by cases h) ?_
              (try simp only [Act.put, List.setIfInBounds_toArray, List.set_cons_zero, List.set_cons_succ])
              refine Ord.e_nil ?_
              generalize (w11.setCell ⟨gm, aj, none⟩ (.int .i64 y)) = w12 at *
              clear hgm hgj ky kf hou e1 e2
              go_wp2
              go_roundw
              case rel => exact ⟨j + 1, o2.set aj y, by omega, by go_num, hg8, hgm8, Hol8, Hsc2⟩
              case measure => simp [intOf]; omega
            · obtain rfl : j = n7 := by omega
              have hzl : (((List.range j).map fun q => a + q).zip V).take j = ((List.range j).map fun q => a + q).zip V := List.take_of_length_le (by rw [List.length_zip, List.length_map, List.length_range]; omega)
              have Ho8 : Hid (o2 = layT m ((wireP L).take (k + 1)) b) := Lib.hid (by rw [Hlay.out, ← hzl]; exact Ho2.out)
              have hg12 := Lib.grownBy_trans hg10 hgj
              have hD2 : n3 - lg + (D + lg) = n' := by omega
              have HD2 : Hid (D + lg = sumL (fPs ((wireP L).take (k + 1)))) := Lib.hid Hsum.out.symm
              have hcut := HcutL.out
              clear hzl hgj hg10 hrV
              go_wp2
              go_roundw
              case rel => exact ⟨k + 1, D + lg, n3 - lg, c3 - lg, cutA A3 c3 lg 1, o2, by omega, by go_num, rfl, hD2, hg12, hgm, Hrd2, HD2, Ho8, Hok8⟩
              case measure => simp [intOf]; omega
      · obtain rfl : k = n := by omega
        have htk : (wireP L).take k = wireP L := List.take_of_length_le (by rw [Hwp.out, Hll.out]; exact Nat.le_refl _)
        rw [htk] at Ho Hok
        have He0 : Hid (takSE L b = 0) := Lib.hid (by rw [Hta.out.1, if_pos Hok.out])
        have Hb0 : Hid (takSV L b = o) := Lib.hid (by rw [Hta.out.2, if_pos Hok.out, Ho.out])
        have hol : o.length = m := by rw [Ho.out]; exact layT_len _ _ _
        have own := own_blkAll' (base := w.heap.size) (n := m) hgm hwgm (by rw [List.length_map]; exact hol) (by unfold maxLen; omega)
        have hbf := Below.grown hbw6 hg6 hbw6.size (fun j hj => by injection hj with hj; omega)
        clear hgm hg6 htk hol
        go_wp2
        go_ret2
        rw [Hv.out.1, Hv.out.2, He0.out, Hb0.out]
        exact ⟨_, _, _, rfl, own, hbf⟩

end Go.Proofs.YtonejdjhdjckjaaGreat

/-
  SchemaPuts and SchemaBack walked (printed by gen_sch6.py).
-/
set_option linter.unusedSimpArgs false
set_option linter.unusedVariables false
namespace Go.Proofs.YtonejdjhdjckjaaGreat
open Go.RowKit NumLaw
attribute [local go_sem] Addr.add_mid
attribute [-go_sem] run_eql_struct run_neq_struct

theorem sPB_not {p : FmT} {v : List Int} (h : ¬ sPE p v = 0) : sPB p v = [] := by
  unfold sPE at h
  unfold sPB
  split
  · rfl
  · rename_i hn
    rw [if_neg hn] at h
    unfold putSE at h
    unfold putSB
    split
    · rename_i hv
      rw [if_pos hv] at h
      unfold shP
      rw [if_neg h]
    · rfl
theorem sTV_not {p : FmT} {b : List UInt8} (h : ¬ sTE p b = 0) : sTV p b = [] := by
  unfold sTE at h
  unfold sTV
  split
  · rfl
  · rename_i hn
    rw [if_neg hn] at h
    unfold takSV
    rw [if_neg h]
theorem s_there {p : FmT} {v : List Int} (hq : PtQ p.2) (h : sPE p v = 0) : sTE p (sPB p v) = 0 ∧ sTV p (sPB p v) = v ∧ (sPB p v).length = wdS p.2 ∧ v.length = cntS p.2 := by
  unfold sPE at h
  unfold sTE sTV sPB
  split at h
  · cases h
  · rename_i hn
    rw [if_neg hn, if_neg hn, if_neg hn]
    exact sch_there hq h
theorem scat_mem : ∀ (L : List (Nat × Int)) (o : List Int) (x : Int), x ∈ scat o L → x ∈ o ∨ x ∈ L.map Prod.snd
  | [], _, _, h => .inl h
  | p :: L, o, x, h => by
    have h1 : x ∈ scat (o.set p.1 p.2) L := h
    rcases scat_mem L _ x h1 with h2 | h2
    · rcases List.mem_or_eq_of_mem_set h2 with h3 | h3
      · exact .inl h3
      · exact .inr (by rw [h3]; exact List.mem_cons_self)
    · exact .inr (List.mem_cons_of_mem _ h2)
theorem s_back {p : FmT} {b : List UInt8} (hq : PtQ p.2) (h : sTE p b = 0) : sPE p (sTV p b) = 0 ∧ sPB p (sTV p b) = b ∧ ∀ x ∈ sTV p b, -9223372036854775808 ≤ x ∧ x ≤ 9223372036854775807 := by
  unfold sTE at h
  unfold sPE sPB sTV
  split at h
  · cases h
  · rename_i hn
    rw [if_neg hn, if_neg hn, if_neg hn]
    obtain ⟨h1, h2, _⟩ := sch_back h
    refine ⟨h1, h2, fun x hx => ?_⟩
    unfold takSV at hx
    rw [if_pos h] at hx
    rcases scat_mem _ _ _ hx with h3 | h3
    · rw [List.mem_replicate] at h3
      rw [h3.2]
      decide
    · obtain ⟨z, hz, rfl⟩ := List.mem_map.1 h3
      have h4 : z.2 ∈ takeV ((wireS p.2).map fldOf) b := (List.of_mem_zip (a := z.1) (b := z.2) hz).2
      have hin : inAll ((wireS p.2).map fldOf) (takeV ((wireS p.2).map fldOf) b) = true := by
        unfold takSE shTE at h
        split at h
        · split at h
          · cases h
          · split at h
            · cases h
            · split at h
              · rename_i h4; exact h4
              · cases h
        · cases h
      exact inAll_bounds (fun f hf => (fld_fb hq f hf).2) (takeV_len _ _) hin _ h4
end Go.Proofs.YtonejdjhdjckjaaGreat

/-
  The plain law of tlm: packets put and taken, there and back, steady, and bursts.
-/
set_option linter.unusedSimpArgs false
set_option linter.unusedVariables false
namespace Go.Proofs.YtonejdjhdjckjaaGreat
open Go.RowKit

structure PkV where
  sq : Int
  sy : Int
  co : Int
  id : Int
  v : List Int
section
open CrcLaw
def exN (p : FmT) : Nat := if p.1.toList.isEmpty = true then 0 else (moreN 65535 (exB p) % 256) ^^^ (moreN 65535 (exB p) / 256)
theorem exS_N (p : FmT) : exS p = (exN p : Int) := by unfold exS exN; split <;> rfl
theorem exN_lt (p : FmT) : exN p < 256 := by
  unfold exN
  split
  · decide
  · have h := moreN_lt (exB p) (c := 65535) (by omega)
    exact Nat.xor_lt_two_pow (n := 8) (by omega) (by omega)
def smN (p : FmT) (l : List UInt8) : Nat := stepN (moreN 65535 l) (exN p)
theorem smN_lt (p : FmT) (l : List UInt8) : smN p l < 65536 := stepN_lt (moreN_lt l (by omega)) (exN_lt p)
def sm2 (p : FmT) (l : List UInt8) : List UInt8 := [UInt8.ofNat (smN p l % 256), UInt8.ofNat (smN p l / 256)]
theorem sm2_inj {p : FmT} {l l' : List UInt8} (h : sm2 p l = sm2 p l') : smN p l = smN p l' := by
  unfold sm2 at h
  injection h with h1 h2
  injection h2 with h2 _
  have e1 := congrArg UInt8.toNat h1
  have e2 := congrArg UInt8.toNat h2
  rw [UInt8.toNat_ofNat', UInt8.toNat_ofNat'] at e1 e2
  have := smN_lt p l
  have := smN_lt p l'
  omega
theorem stepN_inj {a b x : Nat} (ha : a < 65536) (hb : b < 65536) (h : stepN a x = stepN b x) : a = b := by
  unfold stepN at h
  have h1 : Tn 8 (a ^^^ x) ^^^ Tn 8 (b ^^^ x) = 0 := by rw [h, Nat.xor_self]
  rw [← Tn_xor] at h1
  have e : a ^^^ x ^^^ (b ^^^ x) = a ^^^ b := by rw [Nat.xor_comm b x, Nat.xor_assoc, ← Nat.xor_assoc x x b, Nat.xor_self, Nat.zero_xor]
  rw [e] at h1
  exact xor_zero_eq (Tn_zero_of 8 (xor_lt ha hb) h1)
theorem burst_diff {c : Nat} {s o : List UInt8} {at_ m : Nat} (hl : o.length = s.length) (hat : at_ ≤ 8 * s.length) (hm : m < 65536) (hn : num o = num s ^^^ 2 ^ at_ * m) (h : moreN c o = moreN c s) : m = 0 := by
  rw [moreN_eq, moreN_eq, hl, hn, ← Nat.xor_assoc, Tn_xor] at h
  have h1 : Tn (8 * s.length) (2 ^ at_ * m) = 0 := by
    have h2 := congrArg (fun x => Tn (8 * s.length) (c ^^^ num s) ^^^ x) h
    simp only [← Nat.xor_assoc, Nat.xor_self, Nat.zero_xor] at h2
    exact h2
  have e : 8 * s.length = (8 * s.length - at_) + at_ := by omega
  rw [e, Tn_add, Tn_shift] at h1
  exact Tn_zero_of _ hm h1
/-- Bits within 16 in a row were turned: the sum is another one. -/
theorem sm2_burst {p : FmT} {hd s o : List UInt8} {at_ m : Nat} (hl : o.length = s.length) (hat : at_ ≤ 8 * s.length) (hm : m < 65536) (hm0 : m ≠ 0) (hn : num o = num s ^^^ 2 ^ at_ * m) : ¬ sm2 p (hd ++ o) = sm2 p (hd ++ s) := fun h => by
  have h1 := sm2_inj h
  unfold smN at h1
  have h2 := stepN_inj (moreN_lt _ (by omega)) (moreN_lt _ (by omega)) h1
  rw [moreN_append, moreN_append] at h2
  exact hm0 (burst_diff hl hat hm hn h2)
theorem num_other {s o : List UInt8} {at_ m : Nat} (hm0 : m ≠ 0) (hn : num o = num s ^^^ 2 ^ at_ * m) : ¬ o = s := fun h => by
  rw [h] at hn
  have h2 := congrArg (fun x => num s ^^^ x) hn
  simp only [← Nat.xor_assoc, Nat.xor_self, Nat.zero_xor] at h2
  have hp : 0 < 2 ^ at_ := Nat.pow_pos (by omega)
  rcases Nat.mul_eq_zero.1 h2.symm with h3 | h3 <;> omega
end

def u8i (n : Int) : UInt8 := UInt8.ofNat (n % 256).toNat
theorem u8i_nat {n : Int} (h : 0 ≤ n ∧ n ≤ 255) : ((u8i n).toNat : Int) = n := by
  unfold u8i
  rw [UInt8.toNat_ofNat']
  omega
theorem u8i_of (x : UInt8) : u8i (x.toNat : Int) = x := by
  have h := x.toNat_lt
  refine UInt8.toNat_inj.1 ?_
  have := u8i_nat (n := (x.toNat : Int)) ⟨by omega, by omega⟩
  omega
def byteQ (n : Int) : Bool := decide (0 ≤ n ∧ n ≤ 255)
def okO (p : PkV) : Bool := byteQ p.sq && byteQ p.sy && byteQ p.co
theorem okO_spec {p : PkV} (h : okO p = true) : (0 ≤ p.sq ∧ p.sq ≤ 255) ∧ (0 ≤ p.sy ∧ p.sy ≤ 255) ∧ (0 ≤ p.co ∧ p.co ≤ 255) := by
  unfold okO byteQ at h
  simp only [Bool.and_eq_true, decide_eq_true_eq] at h
  exact ⟨h.1.1, h.1.2, h.2⟩
def tlE (p : PkV) : Nat := if okO p = true then sPE (frm p.id) p.v else 1
def tlI (p : PkV) : List UInt8 := [u8i ((sPB (frm p.id) p.v).length : Int), u8i p.sq, u8i p.sy, u8i p.co, u8i p.id] ++ sPB (frm p.id) p.v
def tlB (p : PkV) : List UInt8 := if tlE p = 0 then 254 :: (tlI p ++ sm2 (frm p.id) (tlI p)) else []
def szS (id : Int) : Nat := if wdS (frm id).2 = 0 then 0 else wdS (frm id).2 + 8
theorem frm_id (id : Int) : ((frm id).1.toList.isEmpty = true ∧ (frm id).2 = [] ∧ wdS (frm id).2 = 0) ∨ ((frm id).1.toList.isEmpty = false ∧ (frm id).2 ≠ [] ∧ 0 < wdS (frm id).2 ∧ wdS (frm id).2 ≤ 200 ∧ 0 ≤ id ∧ id ≤ 255) := by
  have hM := (frm_nm id).2.2
  rw [hM]
  rcases frm_at id with ⟨hi, hf⟩ | ⟨hi, hf⟩ | ⟨hi, hf⟩ | ⟨hi, hf⟩ | ⟨hi, hf⟩ | ⟨hi, hf⟩ | ⟨hi, hf⟩ | ⟨hi, hf⟩ | ⟨hi, hf⟩ | ⟨hi, hf⟩ | ⟨hi, hf⟩ | ⟨hi, hf⟩ | ⟨hi, hf⟩ | ⟨hi, hf⟩ | ⟨hi, hf⟩ | ⟨hi, hf⟩ | ⟨hi, hf⟩ | ⟨hi, hf⟩ | ⟨hi, hf⟩ | ⟨hi, hf⟩ | ⟨hi, hf⟩ | ⟨hi, hf⟩ | ⟨hf, _⟩
  all_goals first
    | (rw [hf]; exact .inr ⟨by rfl, List.cons_ne_nil _ _, by decide +kernel, by decide +kernel, by omega, by omega⟩)
    | (rw [hf]; exact .inl ⟨by rfl, by rfl, by rfl⟩)
theorem sPE_id {id : Int} {v : List Int} (h : sPE (frm id) v = 0) : 0 < wdS (frm id).2 ∧ wdS (frm id).2 ≤ 200 ∧ 0 ≤ id ∧ id ≤ 255 := by
  rcases frm_id id with ⟨h1, _⟩ | ⟨_, _, h2⟩
  · unfold sPE at h
    rw [if_pos h1] at h
    cases h
  · exact h2
def tkId (b : List UInt8) : Int := ((b.getD 5 0).toNat : Int)
def tkN0 (b : List UInt8) : Nat := szS (tkId b)
def tkE1 (b : List UInt8) : Nat := if b.length = 0 then 2 else if ¬ b.getD 0 0 = 254 then 3 else if b.length < 6 then 2 else if tkN0 b = 0 then 6 else if ¬ (b.getD 1 0).toNat + 8 = tkN0 b then 3 else if b.length < tkN0 b then 2 else if ¬ (b.drop (tkN0 b - 2)).take 2 = sm2 (frm (tkId b)) ((b.drop 1).take (tkN0 b - 3)) then 4 else 0
def tkBody (b : List UInt8) : List UInt8 := (b.drop 6).take (tkN0 b - 8)
def tkE (b : List UInt8) : Nat := if tkE1 b = 0 then sTE (frm (tkId b)) (tkBody b) else tkE1 b
def tkN (b : List UInt8) : Nat := if tkE1 b = 0 then tkN0 b else 0
def zPk : PkV := ⟨0, 0, 0, 0, []⟩
def tkP (b : List UInt8) : PkV := if tkE b = 0 then ⟨((b.getD 2 0).toNat : Int), ((b.getD 3 0).toNat : Int), ((b.getD 4 0).toNat : Int), tkId b, sTV (frm (tkId b)) (tkBody b)⟩ else zPk
theorem six_of {b : List UInt8} (h : ¬ b.length < 6) : ∃ x0 x1 x2 x3 x4 x5 r, b = x0 :: x1 :: x2 :: x3 :: x4 :: x5 :: r := by
  rcases b with _ | ⟨x0, _ | ⟨x1, _ | ⟨x2, _ | ⟨x3, _ | ⟨x4, _ | ⟨x5, r⟩⟩⟩⟩⟩⟩
  all_goals first | exact ⟨_, _, _, _, _, _, _, rfl⟩ | (simp at h)
/-- With six bytes ahead, all that is told hangs on them and the rest. -/
def tkF (x0 x1 x5 : UInt8) (r : List UInt8) (c : List UInt8) : Nat :=
  let id : Int := (x5.toNat : Int)
  if ¬ x0 = 254 then 3 else if szS id = 0 then 6 else if ¬ x1.toNat + 8 = szS id then 3 else if r.length + 6 < szS id then 2 else if ¬ (r.drop (szS id - 8)).take 2 = sm2 (frm id) (c ++ r.take (szS id - 8)) then 4 else 0
theorem szS_ge {id : Int} (h : ¬ szS id = 0) : 8 < szS id := by
  unfold szS at h ⊢
  split
  · rename_i h1
    rw [if_pos h1] at h
    exact absurd rfl h
  · omega
theorem tkE1_six (x0 x1 x2 x3 x4 x5 : UInt8) (r : List UInt8) : tkE1 (x0 :: x1 :: x2 :: x3 :: x4 :: x5 :: r) = tkF x0 x1 x5 r [x1, x2, x3, x4, x5] := by
  unfold tkE1 tkF
  rw [if_neg (by simp)]
  show (if ¬ x0 = 254 then 3 else _) = _
  by_cases h0 : x0 = 254
  · have n0 : ¬ ¬ x0 = 254 := fun h => h h0
    rw [if_neg n0, if_neg n0, if_neg (by simp)]
    show (if szS (x5.toNat : Int) = 0 then 6 else _) = _
    by_cases h1 : szS (x5.toNat : Int) = 0
    · rw [if_pos h1, if_pos h1]
    · have hn := szS_ge h1
      rw [if_neg h1, if_neg h1]
      show (if ¬ x1.toNat + 8 = szS (x5.toNat : Int) then 3 else _) = _
      by_cases h2 : x1.toNat + 8 = szS (x5.toNat : Int)
      · have n2 : ¬ ¬ x1.toNat + 8 = szS (x5.toNat : Int) := fun h => h h2
        rw [if_neg n2, if_neg n2]
        have e1 : (x0 :: x1 :: x2 :: x3 :: x4 :: x5 :: r).length = r.length + 6 := by simp
        rw [e1]
        show (if r.length + 6 < szS (x5.toNat : Int) then 2 else _) = _
        by_cases h3 : r.length + 6 < szS (x5.toNat : Int)
        · rw [if_pos h3, if_pos h3]
        · rw [if_neg h3, if_neg h3]
          have e2 : (x0 :: x1 :: x2 :: x3 :: x4 :: x5 :: r).drop (tkN0 (x0 :: x1 :: x2 :: x3 :: x4 :: x5 :: r) - 2) = r.drop (szS (x5.toNat : Int) - 8) := by
            show (x0 :: x1 :: x2 :: x3 :: x4 :: x5 :: r).drop (szS (x5.toNat : Int) - 2) = _
            rw [show szS (x5.toNat : Int) - 2 = (szS (x5.toNat : Int) - 8) + 6 by omega]
            rfl
          have e3 : ((x0 :: x1 :: x2 :: x3 :: x4 :: x5 :: r).drop 1).take (tkN0 (x0 :: x1 :: x2 :: x3 :: x4 :: x5 :: r) - 3) = [x1, x2, x3, x4, x5] ++ r.take (szS (x5.toNat : Int) - 8) := by
            show ((x0 :: x1 :: x2 :: x3 :: x4 :: x5 :: r).drop 1).take (szS (x5.toNat : Int) - 3) = _
            rw [show szS (x5.toNat : Int) - 3 = (szS (x5.toNat : Int) - 8) + 5 by omega]
            rfl
          rw [e2, e3]
          rfl
      · rw [if_pos h2, if_pos h2]
  · rw [if_pos h0, if_pos h0]
theorem body_six (x0 x1 x2 x3 x4 x5 : UInt8) (r : List UInt8) : tkBody (x0 :: x1 :: x2 :: x3 :: x4 :: x5 :: r) = r.take (szS (x5.toNat : Int) - 8) := rfl
theorem tkE1_zero {b : List UInt8} (h : tkE1 b = 0) : ∃ x1 x2 x3 x4 x5 r, b = 254 :: x1 :: x2 :: x3 :: x4 :: x5 :: r ∧ 8 < tkN0 b ∧ x1.toNat + 8 = tkN0 b ∧ tkN0 b ≤ b.length ∧ (r.drop (tkN0 b - 8)).take 2 = sm2 (frm (tkId b)) ([x1, x2, x3, x4, x5] ++ r.take (tkN0 b - 8)) := by
  have h6 : ¬ b.length < 6 := fun h6 => by
    have hh : tkE1 b = 2 ∨ tkE1 b = 3 := by
      unfold tkE1
      by_cases a : b.length = 0
      · exact .inl (if_pos a)
      · rw [if_neg a]
        by_cases c : b.getD 0 0 = 254
        · have n0 : ¬ ¬ b.getD 0 0 = 254 := fun h => h c
          rw [if_neg n0, if_pos h6]
          exact .inl rfl
        · rw [if_pos c]
          exact .inr rfl
    omega
  obtain ⟨x0, x1, x2, x3, x4, x5, r, rfl⟩ := six_of h6
  rw [tkE1_six] at h
  unfold tkF at h
  dsimp only at h
  by_cases h0 : x0 = 254
  · rw [if_neg (fun h => h h0)] at h
    by_cases h1 : szS (x5.toNat : Int) = 0
    · rw [if_pos h1] at h; cases h
    · have hn := szS_ge h1
      rw [if_neg h1] at h
      by_cases h2 : x1.toNat + 8 = szS (x5.toNat : Int)
      · rw [if_neg (fun h => h h2)] at h
        by_cases h3 : r.length + 6 < szS (x5.toNat : Int)
        · rw [if_pos h3] at h; cases h
        · rw [if_neg h3] at h
          by_cases h4 : (r.drop (szS (x5.toNat : Int) - 8)).take 2 = sm2 (frm (x5.toNat : Int)) ([x1, x2, x3, x4, x5] ++ r.take (szS (x5.toNat : Int) - 8))
          · subst h0
            exact ⟨x1, x2, x3, x4, x5, r, rfl, hn, h2, by show szS (x5.toNat : Int) ≤ _; simp; omega, h4⟩
          · rw [if_pos h4] at h; cases h
      · rw [if_pos h2] at h; cases h
  · rw [if_pos h0] at h; cases h
theorem tkN_le (b : List UInt8) : tkN b ≤ b.length := by
  unfold tkN
  split
  · rename_i h
    obtain ⟨_, _, _, _, _, _, _, _, _, h3, _⟩ := tkE1_zero h
    exact h3
  · exact Nat.zero_le _
theorem u8_lt (x : UInt8) : (x.toNat : Int) ≤ 255 := by have := x.toNat_lt; omega
/-- What is put is taken, whatever stands behind it. -/
theorem tlm_there {p : PkV} (h : tlE p = 0) (m : List UInt8) : tkE (tlB p ++ m) = 0 ∧ tkN (tlB p ++ m) = (tlB p).length ∧ (tlB p).length = szS p.id ∧ tkP (tlB p ++ m) = p := by
  have hb : tlB p = 254 :: (tlI p ++ sm2 (frm p.id) (tlI p)) := by unfold tlB; rw [if_pos h]
  unfold tlE at h
  by_cases ho : okO p = true
  case neg => rw [if_neg ho] at h; cases h
  rw [if_pos ho] at h
  obtain ⟨h1, h2, h3⟩ := okO_spec ho
  obtain ⟨g1, g2, g3⟩ := sPE_id h
  obtain ⟨t1, t2, t3, _⟩ := s_there (frm_n p.id).1 h
  have hsz : szS p.id = wdS (frm p.id).2 + 8 := by unfold szS; rw [if_neg (by omega)]
  obtain ⟨S, hS⟩ : ∃ S, S = sPB (frm p.id) p.v := ⟨_, rfl⟩
  have hI : tlI p = [u8i (S.length : Int), u8i p.sq, u8i p.sy, u8i p.co, u8i p.id] ++ S := by unfold tlI; rw [← hS]
  rw [← hS] at t1 t2 t3
  have hid : ((u8i p.id).toNat : Int) = p.id := u8i_nat g3
  have hln : (u8i (S.length : Int)).toNat = S.length := by have := u8i_nat (n := (S.length : Int)) ⟨by omega, by omega⟩; omega
  have hc : tlB p ++ m = 254 :: u8i (S.length : Int) :: u8i p.sq :: u8i p.sy :: u8i p.co :: u8i p.id :: (S ++ (sm2 (frm p.id) (tlI p) ++ m)) := by rw [hb, hI]; simp
  have hlen : (tlB p).length = szS p.id := by rw [hb, hI, hsz, ← t3]; simp [sm2]
  have hN : tkN0 (tlB p ++ m) = szS p.id := by rw [hc]; show szS ((u8i p.id).toNat : Int) = _; rw [hid]
  have hI2 : tkId (tlB p ++ m) = p.id := by rw [hc]; exact hid
  have hE1 : tkE1 (tlB p ++ m) = 0 := by
    rw [hc, tkE1_six]
    unfold tkF
    dsimp only
    rw [if_neg (fun h => h rfl), hid, hsz, if_neg (by omega), hln, if_neg (by omega), if_neg (by simp [sm2]; omega), if_neg]
    intro hh
    refine hh ?_
    rw [show wdS (frm p.id).2 + 8 - 8 = S.length by omega, List.drop_left, List.take_left, ← hI]
    rfl
  have hB : tkBody (tlB p ++ m) = S := by
    rw [hc, body_six, hid, hsz, show wdS (frm p.id).2 + 8 - 8 = S.length by omega, List.take_left]
  have hE : tkE (tlB p ++ m) = 0 := by unfold tkE; rw [if_pos hE1, hI2, hB]; exact t1
  refine ⟨hE, by unfold tkN; rw [if_pos hE1, hN, hlen], hlen, ?_⟩
  unfold tkP
  rw [if_pos hE, hI2, hB, t2, hc]
  show PkV.mk ((u8i p.sq).toNat : Int) ((u8i p.sy).toNat : Int) ((u8i p.co).toNat : Int) p.id p.v = p
  rw [u8i_nat h1, u8i_nat h2, u8i_nat h3]
/-- What is taken, put, is those bytes. -/
theorem tlm_back {b : List UInt8} (h : tkE b = 0) : tlE (tkP b) = 0 ∧ tlB (tkP b) = b.take (tkN b) ∧ 8 ≤ tkN b ∧ ∀ x ∈ (tkP b).v, -9223372036854775808 ≤ x ∧ x ≤ 9223372036854775807 := by
  have hE1 : tkE1 b = 0 := by
    unfold tkE at h
    split at h
    · rename_i h1; exact h1
    · exact h
  have hT : sTE (frm (tkId b)) (tkBody b) = 0 := by unfold tkE at h; rwa [if_pos hE1] at h
  have hN : tkN b = tkN0 b := by unfold tkN; rw [if_pos hE1]
  have hP : tkP b = ⟨((b.getD 2 0).toNat : Int), ((b.getD 3 0).toNat : Int), ((b.getD 4 0).toNat : Int), tkId b, sTV (frm (tkId b)) (tkBody b)⟩ := by unfold tkP; rw [if_pos h]
  obtain ⟨s1, s2, s3⟩ := s_back (frm_n (tkId b)).1 hT
  obtain ⟨x1, x2, x3, x4, x5, r, hb, g1, g2, g3, g4⟩ := tkE1_zero hE1
  obtain ⟨n, hn⟩ : ∃ n, n = tkN0 b := ⟨_, rfl⟩
  have hid : tkId b = (x5.toNat : Int) := by rw [hb]; rfl
  have hB : tkBody b = r.take (n - 8) := by unfold tkBody; rw [← hn, hb]; rfl
  have hrl : n ≤ r.length + 6 := by rw [hn]; rw [hb] at g3 ⊢; simpa using g3
  have hlb : (tkBody b).length = n - 8 := by rw [hB, List.length_take]; omega
  have hok : okO (tkP b) = true := by
    rw [hP]
    unfold okO byteQ
    simp only [Bool.and_eq_true, decide_eq_true_eq]
    exact ⟨⟨⟨Int.natCast_nonneg _, u8_lt _⟩, ⟨Int.natCast_nonneg _, u8_lt _⟩⟩, ⟨Int.natCast_nonneg _, u8_lt _⟩⟩
  have hE : tlE (tkP b) = 0 := by unfold tlE; rw [if_pos hok, hP]; exact s1
  refine ⟨hE, ?_, by rw [hN]; omega, by rw [hP]; exact s3⟩
  have hI : tlI (tkP b) = [x1, x2, x3, x4, x5] ++ r.take (n - 8) := by
    unfold tlI
    rw [hP]
    dsimp only
    rw [s2, hlb, hid, hB]
    rw [hb]
    show [u8i ((n - 8 : Nat) : Int), u8i (x2.toNat : Int), u8i (x3.toNat : Int), u8i (x4.toNat : Int), u8i (x5.toNat : Int)] ++ _ = _
    rw [show n - 8 = x1.toNat by omega, u8i_of, u8i_of, u8i_of, u8i_of, u8i_of]
  unfold tlB
  rw [if_pos hE, hI, show (tkP b).id = tkId b by rw [hP], hn, ← g4, hN, ← hn]
  have e1 : r.take (n - 8) ++ (r.drop (n - 8)).take 2 = r.take (n - 6) := by
    rw [show n - 6 = (n - 8) + 2 by omega, List.take_add]
  have e2 : b.take n = 254 :: x1 :: x2 :: x3 :: x4 :: x5 :: r.take (n - 6) := by
    rw [hb]
    obtain ⟨k, rfl⟩ : ∃ k, n = k + 6 := ⟨n - 6, by omega⟩
    rfl
  rw [e2, ← e1]
  simp
/-- What is told stays. -/
theorem tlm_steady {b : List UInt8} (m : List UInt8) (h : ¬ tkE b = 2) : tkE (b ++ m) = tkE b ∧ tkN (b ++ m) = tkN b ∧ tkP (b ++ m) = tkP b := by
  have hE2 : ¬ tkE1 b = 2 := fun h1 => h (by unfold tkE; rw [if_neg (by omega)]; exact h1)
  by_cases h0 : b.length = 0
  · exact absurd (by unfold tkE1; rw [if_pos h0]) hE2
  obtain ⟨x0, b', rfl⟩ : ∃ x0 b', b = x0 :: b' := by
    cases b with
    | nil => exact absurd rfl h0
    | cons x l => exact ⟨x, l, rfl⟩
  by_cases hx : x0 = 254
  case neg =>
    have e1 : ∀ l, tkE1 (x0 :: l) = 3 := fun l => by
      unfold tkE1
      rw [if_neg (by simp)]
      show (if ¬ x0 = 254 then 3 else _) = 3
      rw [if_pos hx]
    have e2 : ∀ l, tkE (x0 :: l) = 3 := fun l => by unfold tkE; rw [e1, if_neg (by omega)]
    have e3 : ∀ l, tkN (x0 :: l) = 0 := fun l => by unfold tkN; rw [e1, if_neg (by omega)]
    have e4 : ∀ l, tkP (x0 :: l) = zPk := fun l => by unfold tkP; rw [e2, if_neg (by omega)]
    rw [List.cons_append, e2, e2, e3, e3, e4, e4]
    exact ⟨rfl, rfl, rfl⟩
  by_cases h6 : (x0 :: b').length < 6
  · exact absurd (by unfold tkE1; rw [if_neg (by simp), if_neg (fun h => h hx), if_pos h6]) hE2
  obtain ⟨y0, x1, x2, x3, x4, x5, r, hb⟩ := six_of h6
  rw [hb] at hE2 ⊢
  have hap : (y0 :: x1 :: x2 :: x3 :: x4 :: x5 :: r) ++ m = y0 :: x1 :: x2 :: x3 :: x4 :: x5 :: (r ++ m) := rfl
  have key : tkE1 (y0 :: x1 :: x2 :: x3 :: x4 :: x5 :: (r ++ m)) = tkE1 (y0 :: x1 :: x2 :: x3 :: x4 :: x5 :: r) ∧ (tkE1 (y0 :: x1 :: x2 :: x3 :: x4 :: x5 :: r) = 0 → szS (x5.toNat : Int) ≤ r.length + 6) := by
    rw [tkE1_six] at hE2
    rw [tkE1_six, tkE1_six]
    unfold tkF at hE2 ⊢
    dsimp only at hE2 ⊢
    by_cases g0 : y0 = 254
    case neg => rw [if_pos g0, if_pos g0]; exact ⟨rfl, fun h => by cases h⟩
    have n0 : ¬ ¬ y0 = 254 := fun h => h g0
    rw [if_neg n0] at hE2
    rw [if_neg n0, if_neg n0]
    by_cases g1 : szS (x5.toNat : Int) = 0
    · rw [if_pos g1, if_pos g1]; exact ⟨rfl, fun h => by cases h⟩
    have hn := szS_ge g1
    rw [if_neg g1] at hE2
    rw [if_neg g1, if_neg g1]
    by_cases g2 : x1.toNat + 8 = szS (x5.toNat : Int)
    case neg => rw [if_pos g2, if_pos g2]; exact ⟨rfl, fun h => by cases h⟩
    have n2 : ¬ ¬ x1.toNat + 8 = szS (x5.toNat : Int) := fun h => h g2
    rw [if_neg n2] at hE2
    rw [if_neg n2, if_neg n2]
    by_cases g3 : r.length + 6 < szS (x5.toNat : Int)
    · rw [if_pos g3] at hE2; exact absurd rfl hE2
    rw [if_neg (show ¬ (r ++ m).length + 6 < szS (x5.toNat : Int) by simp; omega), if_neg g3]
    have e1 : (r ++ m).take (szS (x5.toNat : Int) - 8) = r.take (szS (x5.toNat : Int) - 8) := List.take_append_of_le_length (by omega)
    have e2 : ((r ++ m).drop (szS (x5.toNat : Int) - 8)).take 2 = (r.drop (szS (x5.toNat : Int) - 8)).take 2 := by
      rw [List.drop_append_of_le_length (by omega), List.take_append_of_le_length (by rw [List.length_drop]; omega)]
    rw [e1, e2]
    exact ⟨rfl, fun _ => by omega⟩
  rw [hap]
  have kB : tkE1 (y0 :: x1 :: x2 :: x3 :: x4 :: x5 :: r) = 0 → tkBody (y0 :: x1 :: x2 :: x3 :: x4 :: x5 :: (r ++ m)) = tkBody (y0 :: x1 :: x2 :: x3 :: x4 :: x5 :: r) := fun hz => by
    rw [body_six, body_six]
    exact List.take_append_of_le_length (by have := key.2 hz; omega)
  have kE : tkE (y0 :: x1 :: x2 :: x3 :: x4 :: x5 :: (r ++ m)) = tkE (y0 :: x1 :: x2 :: x3 :: x4 :: x5 :: r) := by
    unfold tkE
    rw [key.1]
    by_cases hz : tkE1 (y0 :: x1 :: x2 :: x3 :: x4 :: x5 :: r) = 0
    · rw [if_pos hz, if_pos hz, kB hz]; rfl
    · rw [if_neg hz, if_neg hz]
  refine ⟨kE, by unfold tkN; rw [key.1]; rfl, ?_⟩
  unfold tkP
  rw [kE]
  by_cases hz : tkE (y0 :: x1 :: x2 :: x3 :: x4 :: x5 :: r) = 0
  · have hz1 : tkE1 (y0 :: x1 :: x2 :: x3 :: x4 :: x5 :: r) = 0 := by
      unfold tkE at hz
      split at hz
      · rename_i h1; exact h1
      · exact hz
    rw [if_pos hz, if_pos hz, kB hz1]; rfl
  · rw [if_neg hz, if_neg hz]
/-- Another body, or another sum: the sum does not hold. -/
theorem tlm_other {p : PkV} (h : tlE p = 0) {o : List UInt8} (ho : o.length = (sPB (frm p.id) p.v).length) {s : List UInt8} (hs : s.length = 2) (hne : ¬ s = sm2 (frm p.id) ([u8i ((sPB (frm p.id) p.v).length : Int), u8i p.sq, u8i p.sy, u8i p.co, u8i p.id] ++ o)) :
    tkE ([254, u8i ((sPB (frm p.id) p.v).length : Int), u8i p.sq, u8i p.sy, u8i p.co, u8i p.id] ++ o ++ s) = 4 ∧ tkN ([254, u8i ((sPB (frm p.id) p.v).length : Int), u8i p.sq, u8i p.sy, u8i p.co, u8i p.id] ++ o ++ s) = 0 := by
  unfold tlE at h
  by_cases hok : okO p = true
  case neg => rw [if_neg hok] at h; cases h
  rw [if_pos hok] at h
  obtain ⟨g1, g2, g3⟩ := sPE_id h
  obtain ⟨_, _, t3, _⟩ := s_there (frm_n p.id).1 h
  have hsz : szS p.id = wdS (frm p.id).2 + 8 := by unfold szS; rw [if_neg (by omega)]
  have hid : ((u8i p.id).toNat : Int) = p.id := u8i_nat g3
  have hln : (u8i ((sPB (frm p.id) p.v).length : Int)).toNat = wdS (frm p.id).2 := by have := u8i_nat (n := ((sPB (frm p.id) p.v).length : Int)) ⟨by omega, by omega⟩; omega
  have hE1 : tkE1 ([254, u8i ((sPB (frm p.id) p.v).length : Int), u8i p.sq, u8i p.sy, u8i p.co, u8i p.id] ++ o ++ s) = 4 := by
    show tkE1 (254 :: u8i ((sPB (frm p.id) p.v).length : Int) :: u8i p.sq :: u8i p.sy :: u8i p.co :: u8i p.id :: (o ++ s)) = 4
    rw [tkE1_six]
    unfold tkF
    dsimp only
    rw [if_neg (fun h => h rfl), hid, hsz, if_neg (by omega), hln, if_neg (by omega), if_neg (by simp [hs]; omega), show wdS (frm p.id).2 + 8 - 8 = o.length by omega, List.drop_left, List.take_left, List.take_of_length_le (by omega), if_pos hne]
  exact ⟨by unfold tkE; rw [if_neg (by omega)]; exact hE1, by unfold tkN; rw [if_neg (by omega)]⟩

end Go.Proofs.YtonejdjhdjckjaaGreat

/-
  schema.Extra walked (printed by gen_sch6.py).
-/
set_option linter.unusedSimpArgs false
set_option linter.unusedVariables false
namespace Go.Proofs.YtonejdjhdjckjaaGreat
open Go.RowKit NumLaw
attribute [local go_sem] Addr.add_mid
attribute [-go_sem] run_eql_struct run_neq_struct

open CrcLaw
set_option maxRecDepth 10000 in
set_option maxHeartbeats 8000000 in
theorem extra_any (id : Int) (w : World) : Calls Tryz.prog 25 #[.int .i64 id] w fun e w' => e = .returned (.int .u8 (exS (frm id))) ∧ Below w.heap.size w w' := by
  have hf := find_any id w
  have hN := frm_n id
  have hM := frm_nm id
  generalize frm id = p at *
  obtain ⟨nm, L⟩ := p
  have Hf := Lib.hid hf
  have HN := Lib.hid hN
  have HM := Lib.hid hM
  cases hem : nm.toList.isEmpty with
  | true =>
    have hv : exS (nm, L) = 0 := by unfold exS; rw [if_pos hem]
    have Hv := Lib.hid hv
    clear hf hN hM hv
    go_enter Tryz.func25, Tryz.ntmps25
    go_wp2_with fail
    go_fit Hf.out
    unfold RetFm
    rintro e w1 ⟨A, n, c, rfl, hr, hb⟩
    have a0 := heap_alloc_new w1 (.cells #[.string nm, .slice A n c] 57)
    have k0 := blk_cell (i := 0) (v := .string nm) a0 rfl
    have hb2 := hb.alloc hb.size (.cells #[.string nm, .slice A n c] 57)
    go_wp2
    go_ret
    exact ⟨by rw [Hv.out]; rfl, hb2⟩
  | false =>
    have hv : exS (nm, L) = (((moreN 65535 (exB (nm, L)) % 256) ^^^ (moreN 65535 (exB (nm, L)) / 256) : Nat) : Int) := by unfold exS; rw [if_neg (by rw [hem]; exact Bool.false_ne_true)]
    have Hv := Lib.hid hv
    have hns : (nm ++ ⟨#[32]⟩).size ≤ 200 := by rw [ByteArray.size_append]; have h9 : nm.size ≤ 100 := HM.out.1; have : (⟨#[32]⟩ : ByteArray).size = 1 := rfl; omega
    have hsz1 : (nm ++ ⟨#[32]⟩ : ByteArray).size = nm.size + 1 := by rw [ByteArray.size_append]; rfl
    have Hsz1 := Lib.hid hsz1
    have Hns := Lib.hid hns
    have hnl : nm.size ≤ 100 := HM.out.1
    have hnl1 : nm.size + 1 ≤ 9223372036854775807 := by omega
    have hnl2 : ¬ 9223372036854775807 < nm.size + 1 := by omega
    have hcv := fun w => Lib.run_convert_string_bytes (P := Tryz.prog) w 9 22 5 (nm ++ ⟨#[32]⟩) Tryz.underlying9 Tryz.underlying22 Tryz.underlying5
    clear hf hN hM hv hns hsz1
    go_enter Tryz.func25, Tryz.ntmps25
    go_wp2_with fail
    go_fit Hf.out
    unfold RetFm
    rintro e w1 ⟨A, n, c, rfl, hr, hb⟩
    have a0 := heap_alloc_new w1 (.cells #[.string nm, .slice A n c] 57)
    have k0 := blk_cell (i := 0) (v := .string nm) a0 rfl
    have k1 := blk_cell (i := 1) (v := .slice A n c) a0 rfl
    have hba : Below w1.heap.size w1 (w1.alloc (.cells #[.string nm, .slice A n c] 57)) := (Below.refl _ _).alloc (Nat.le_refl _) _
    have hb2 := bnx hb hba
    have hlt := blk_lt a0
    have hs2 : (w1.alloc (.cells #[.string nm, .slice A n c] 57)).heap.size = w1.heap.size + 1 := World.size_alloc _ _
    have Hs2 := Lib.hid hs2
    clear hs2
    have hr2 := RdR.more (RdR.up hr hba) hba.size
    clear hr hb hba a0
    go_wp2_with fail
    generalize (w1.alloc (.cells #[.string nm, .slice A n c] 57)) = w2 at *
    have hrd := rd_bytes w2 5 (nm ++ ⟨#[32]⟩) (by have := Hns.out; unfold maxLen; omega)
    rw [Hsz1.out] at hrd
    have hbb := below_bytes w2 5 (nm ++ ⟨#[32]⟩)
    have hbsz : w2.heap.size + 1 ≤ (Lib.bytesWorld w2 5 (nm ++ ⟨#[32]⟩)).heap.size := Nat.le_of_eq (Lib.bytesWorld_size _ _ _).symm
    rw [Hs2.out] at hrd hbsz
    go_fit (more_any 65535 _ _ _ _ _ _ (by omega) hrd hbsz)
    rintro e w3 ⟨rfl, hbx⟩
    have hb23 := bnx hbb hbx
    have hb3 := bnx hb2 hb23
    have q1 := (hb23.cell (p := ⟨w1.heap.size, 1, none⟩) hlt).trans k1
    have hr3 : RdP w3 w3.heap.size A n c L := RdR.more (RdR.up hr2 hb23) hb23.size
    have hn : n ≤ 1000 := by rw [← hr3.len]; have := HN.out.2.1; omega
    clear hrd hbb hbsz hbx hb23 hb2 k0 k1 hr2 hcv
    go_wp2_with fail
    go_fit (wire31_any A n c L w3 hr3 hn)
    rintro e w4 ⟨A4, c4, rfl, hr4, hbx⟩
    have hb4 := bnx hb3 hbx
    have hmx := hr4.2.2.2.1
    have hle := hr4.2.2.1
    unfold maxLen at hmx
    obtain ⟨W, hW⟩ : ∃ W, W = stb PtT.sz L := ⟨_, rfl⟩
    rw [← hW] at hr4
    have hWN : ∀ x ∈ W, szQ x.sz ∧ mx1 x.mn ≤ 100 ∧ x.nm.size ≤ 100 := fun x hx => by
      rw [hW] at hx
      have hx := (stb_mem PtT.sz L).1 hx
      exact ⟨HN.out.1 x hx, HN.out.2.2 x hx, HM.out.2.1 x hx⟩
    have HWN := Lib.hid hWN
    have HW := Lib.hid hW
    have Hll := Lib.hid hr4.len
    have hm0 : moreN 65535 (sbL (nm ++ ⟨#[32]⟩)) < 65536 := moreN_lt _ (by omega)
    obtain ⟨d0, hd0⟩ : ∃ d, d = moreN 65535 (sbL (nm ++ ⟨#[32]⟩)) := ⟨_, rfl⟩
    rw [← hd0] at hm0 ⊢
    have Hd0 := Lib.hid hd0
    clear hbx hb3 q1 hr3 hlt hW hWN hd0
    go_wp2_with fail
    go_loopw [4, 21] (fun cc i wr => ∃ k d : Nat, k ≤ n ∧ i = .int .i64 k ∧ cc = .int .u16 (d : Int) ∧ d < 65536 ∧ Hid (d = moreN 65535 (sbL (nm ++ ⟨#[32]⟩) ++ (W.take k).flatMap emL)) ∧ Below w4.heap.size w4 wr) (fun _ i _ => n - (intOf i).toNat)
    case atStart => exact ⟨0, d0, by omega, rfl, rfl, hm0, Lib.hid (by rw [Hd0.out]; simp), Below.refl _ _⟩
    case round =>
      obtain ⟨k, d, hk, rfl, rfl, hd, Hd, hb⟩ := hrel
      by_cases hlt : k < n
      · have hlt' : (k : Int) < (n : Int) := by omega
        obtain ⟨g, off, x, rfl, hg, hx, hr⟩ := RdP.at_ hr4 hlt
        have k0 := (hb.cell (p := ⟨g, off + k * 4 + 0, none⟩) hg).trans (hr 0 _ rfl)
        have k1 := (hb.cell (p := ⟨g, off + k * 4 + 1, none⟩) hg).trans (hr 1 _ rfl)
        have k2 := (hb.cell (p := ⟨g, off + k * 4 + 2, none⟩) hg).trans (hr 2 _ rfl)
        have k3 := (hb.cell (p := ⟨g, off + k * 4 + 3, none⟩) hg).trans (hr 3 _ rfl)
        rw [Nat.add_zero] at k0
        obtain ⟨hz, hm, hnl⟩ := HWN.out x (List.mem_of_getElem? hx)
        have hwd := fun w => word_any x hz w
        have hes := emS_le hz hnl
        have hfl : (W.take (k + 1)).flatMap emL = (W.take k).flatMap emL ++ emL x := by rw [take_succ hx, List.flatMap_append]; simp
        have Hfl := Lib.hid hfl
        obtain ⟨s, z, g1, m⟩ := x
        have hem2 : emS ⟨s, z, g1, m⟩ = wordS z g1 ++ ⟨#[32]⟩ ++ s ++ ⟨#[32]⟩ := rfl
        have hel : emL ⟨s, z, g1, m⟩ = sbL (emS ⟨s, z, g1, m⟩) ++ if 0 < m then [UInt8.ofNat m.toNat] else [] := rfl
        dsimp only at k0 k1 k2 k3 hm
        have hwd2 : ∀ w, Calls Tryz.prog 48 #[.agg (ptC ⟨s, z, g1, m⟩).toArray] w fun e w' => e = .returned (.string (wordS z g1)) ∧ Below w.heap.size w w' := hwd
        have hwl : (wordS z g1).size ≤ 8 := word_le hz g1
        have hsl : s.size ≤ 100 := hnl
        generalize wordS z g1 = wz at *
        have hq1 : wz.size + 1 ≤ 9223372036854775807 := by omega
        have hq2 : wz.size + 1 + s.size ≤ 9223372036854775807 := by omega
        have hq3 : wz.size + 1 + s.size + 1 ≤ 9223372036854775807 := by omega
        have hr1 : ¬ 9223372036854775807 < wz.size + 1 := by omega
        have hr2 : ¬ 9223372036854775807 < wz.size + 1 + s.size := by omega
        have hr3 : ¬ 9223372036854775807 < wz.size + 1 + s.size + 1 := by omega
        have hcv := fun w => Lib.run_convert_string_bytes (P := Tryz.prog) w 9 22 5 (wz ++ ⟨#[32]⟩ ++ s ++ ⟨#[32]⟩) Tryz.underlying9 Tryz.underlying22 Tryz.underlying5
        rw [hem2] at hes hel
        have Hel := Lib.hid hel
        have Hes := Lib.hid hes
        have Hwd := Lib.hid hwd2
        have Hmx := Lib.hid hm
        have hbn : Below wr.heap.size wr (wr.alloc (.cells #[.string s, .int .i64 z, .bool g1, .int .i64 m] 71)) := (Below.refl _ _).alloc (Nat.le_refl _) _
        have a0 := heap_alloc_new wr (.cells #[.string s, .int .i64 z, .bool g1, .int .i64 m] 71)
        have hb0 : wr.heap.size < (wr.alloc (.cells #[.string s, .int .i64 z, .bool g1, .int .i64 m] 71)).heap.size := blk_lt a0
        have hrow : (wr.alloc (.cells #[.string s, .int .i64 z, .bool g1, .int .i64 m] 71)).rangeAt wr.heap.size 0 (ptC ⟨s, z, g1, m⟩) := fun j v hv => blk_cell (i := 0 + j) a0 (by rw [Nat.zero_add]; simpa [ptC] using hv)
        have hb5 := bnx hb hbn
        clear hb hbn a0 hx hr hwd hwd2 hem2 hel hes hm hfl hz hnl
        go_wp2_with fail
        generalize (wr.alloc (.cells #[.string s, .int .i64 z, .bool g1, .int .i64 m] 71)) = w5 at *
        obtain ⟨b0, hbb⟩ : ∃ b, b = wr.heap.size := ⟨_, rfl⟩
        rw [← hbb] at hb0 hrow ⊢
        have Hrow := Lib.hid (show ∀ w', Below w5.heap.size w5 w' → w'.rangeAt b0 0 (ptC ⟨s, z, g1, m⟩) from fun w' hb' j v hv => (hb'.cell (p := ⟨b0, 0 + j, none⟩) hb0).trans (hrow j v hv))
        have Hnm := Lib.hid (show ∀ w', Below w5.heap.size w5 w' → w'.cell? ⟨b0, 0, none⟩ = some (.string s) from fun w' hb' => Hrow.out w' hb' 0 _ rfl)
        have Hmn := Lib.hid (show ∀ w', Below w5.heap.size w5 w' → w'.cell? ⟨b0, 3, none⟩ = some (.int .i64 m) from fun w' hb' => Hrow.out w' hb' 3 _ rfl)
        clear k0 k1 k2 k3 hrow hbb
        refine Ord.region_ (fun w' => Below w5.heap.size w5 w') false [] (by kernel_rfl) (by kernel_rfl) (Below.refl _ _).drew ?_
        have hS : Below w5.heap.size w5 w5.drew := (Below.refl _ _).drew
        generalize w5.drew = wd at *
        ((with_reducible refine Ord.e_p (v := ?_) ?_ ?_ ?_ ?_); rotate_left; (· exact rfl); (· kernel_rfl); (· intro w2; go_simp; try with_reducible rfl))
        (try simp only [Act.put, List.setIfInBounds_toArray, List.set_cons_zero, List.set_cons_succ])
        refine Ord.e_rowS (cs := ptC ⟨s, z, g1, m⟩) (b := b0) (o := 0) Tryz.underlying71 rfl (by kernel_rfl) rfl (by simp [ptC]) (fun w' hS => Hrow.out w' hS) hS (by kernel_rfl) ?_
        (try simp only [Act.put, List.setIfInBounds_toArray, List.set_cons_zero, List.set_cons_succ])
        refine Ord.e_x rfl (by kernel_rfl) ?_
        go_wp2_with fail
        go_fit (Hwd.out wd)
        rintro e w6 ⟨rfl, hbx⟩
        replace hS := bnx hS hbx
        go_wp2_with fail
        refine Ord.Seg.go hS (fun h => by cases h) ?_
        (try simp only [Act.put, List.setIfInBounds_toArray, List.set_cons_zero, List.set_cons_succ])
        clear hbx
        ((with_reducible refine Ord.e_p (v := ?_) ?_ ?_ ?_ ?_); rotate_left; (· exact rfl); (· kernel_rfl); (· intro w2; go_simp; try with_reducible rfl))
        (try simp only [Act.put, List.setIfInBounds_toArray, List.set_cons_zero, List.set_cons_succ])
        ((with_reducible refine Ord.e_p (v := ?_) ?_ ?_ ?_ ?_); rotate_left; (· exact rfl); (· kernel_rfl); (· intro w2; go_simp; try with_reducible rfl))
        (try simp only [Act.put, List.setIfInBounds_toArray, List.set_cons_zero, List.set_cons_succ])
        refine Ord.e_loadS (ad := ⟨b0, 0, none⟩) Tryz.underlying9 rfl (fun w' hS => Hnm.out w' hS) hS rfl (by kernel_rfl) ?_
        (try simp only [Act.put, List.setIfInBounds_toArray, List.set_cons_zero, List.set_cons_succ])
        ((with_reducible refine Ord.e_p (v := ?_) ?_ ?_ ?_ ?_); rotate_left; (· exact rfl); (· kernel_rfl); (· intro w2; go_simp; try with_reducible rfl))
        (try simp only [Act.put, List.setIfInBounds_toArray, List.set_cons_zero, List.set_cons_succ])
        ((with_reducible refine Ord.e_p (v := ?_) ?_ ?_ ?_ ?_); rotate_left; (· exact rfl); (· kernel_rfl); (· intro w2; go_simp; try with_reducible rfl))
        (try simp only [Act.put, List.setIfInBounds_toArray, List.set_cons_zero, List.set_cons_succ])
        refine Ord.e_x (by kernel_rfl) (by kernel_rfl) ?_
        go_wp2_with fail
        refine Ord.Seg.go (bnx hS (below_bytes _ _ _)) (fun h => by cases h) ?_
        (try simp only [Act.put, List.setIfInBounds_toArray, List.set_cons_zero, List.set_cons_succ])
        have hrd := rd_bytes w6 5 (wz ++ ⟨#[32]⟩ ++ s ++ ⟨#[32]⟩) (by have := Hes.out; unfold maxLen; omega)
        have hsz : (wz ++ ⟨#[32]⟩ ++ s ++ ⟨#[32]⟩ : ByteArray).size = wz.size + 1 + s.size + 1 := by rw [ByteArray.size_append, ByteArray.size_append, ByteArray.size_append]; rfl
        rw [hsz] at hrd
        replace hS := bnx hS (below_bytes w6 5 (wz ++ ⟨#[32]⟩ ++ s ++ ⟨#[32]⟩))
        have hbsz : w6.heap.size + 1 ≤ (Lib.bytesWorld w6 5 (wz ++ ⟨#[32]⟩ ++ s ++ ⟨#[32]⟩)).heap.size := Nat.le_of_eq (Lib.bytesWorld_size _ _ _).symm
        refine Ord.e_x rfl (by kernel_rfl) ?_
        go_wp2_with fail
        go_fit (more_any d _ _ _ _ _ _ hd hrd hbsz)
        rintro e w7 ⟨rfl, hbx⟩
        replace hS := bnx hS hbx
        go_wp2_with fail
        refine Ord.Seg.go hS (fun h => by cases h) ?_
        (try simp only [Act.put, List.setIfInBounds_toArray, List.set_cons_zero, List.set_cons_succ])
        ((with_reducible refine Ord.e_p (v := ?_) ?_ ?_ ?_ ?_); rotate_left; (· exact rfl); (· kernel_rfl); (· intro w2; go_simp; try with_reducible rfl))
        (try simp only [Act.put, List.setIfInBounds_toArray, List.set_cons_zero, List.set_cons_succ])
        refine Ord.e_nil ?_
        have hb7 := bnx hb5 hS
        have hmn := Hmn.out w7 hS
        have hmx := Hmx.out
        obtain ⟨d1, hd1e⟩ : ∃ d1, d1 = moreN d (sbL (wz ++ ⟨#[32]⟩ ++ s ++ ⟨#[32]⟩)) := ⟨_, rfl⟩
        have hd1 : d1 < 65536 := by rw [hd1e]; exact moreN_lt _ hd
        rw [← hd1e]
        have Hd1 := Lib.hid hd1e
        clear hd1e hS hb5
        by_cases hm0 : 0 < m
        · obtain ⟨mm, rfl⟩ : ∃ mm : Nat, m = (mm : Int) := ⟨m.toNat, by omega⟩
          have hmm : mm < 256 := by unfold mx1 at hmx; split at hmx <;> omega
          have hw8 : IntKind.u8.wrap (mm : Int) = (mm : Int) := by rw [IntKind.wrap_u8']; omega
          have HN2 := Lib.hid (show moreN 65535 (sbL (nm ++ ⟨#[32]⟩) ++ (W.take (k + 1)).flatMap emL) = stepN d1 mm from by
            rw [Hfl.out, Hel.out, if_pos hm0, ← List.append_assoc, ← List.append_assoc, moreN_snoc, moreN_append, ← Hd.out, ← Hd1.out]
            have e1 : (UInt8.ofNat (mm : Int).toNat).toNat = mm := by rw [Int.toNat_natCast, UInt8.toNat_ofNat']; omega
            rw [e1])
          have hd2 : stepN d1 mm < 65536 := stepN_lt hd1 hmm
          go_wp2_with fail
          go_fit (step_any d1 mm w7 hd1 hmm)
          rintro e w8 ⟨rfl, rfl⟩
          go_wp2_with fail
          go_roundw
          case rel => exact ⟨k + 1, _, by omega, rfl, rfl, hd2, Lib.hid HN2.out.symm, hb7⟩
          case measure => simp [intOf]; omega
        · have HN2 := Lib.hid (show moreN 65535 (sbL (nm ++ ⟨#[32]⟩) ++ (W.take (k + 1)).flatMap emL) = d1 from by
            rw [Hfl.out, Hel.out, if_neg hm0, List.append_nil, ← List.append_assoc, moreN_append, ← Hd.out, ← Hd1.out])
          go_wp2_with fail
          go_roundw
          case rel => exact ⟨k + 1, _, by omega, rfl, rfl, hd1, Lib.hid HN2.out.symm, hb7⟩
          case measure => simp [intOf]; omega
      · obtain rfl : k = n := by omega
        have hWt : W.take k = W := List.take_of_length_le (by rw [Hll.out]; exact Nat.le_refl _)
        have hda : d = moreN 65535 (exB (nm, L)) := by
          rw [Hd.out, hWt]; show _ = moreN 65535 (sbL (nm ++ ⟨#[32]⟩) ++ (stb PtT.sz L).flatMap emL); rw [← HW.out]
        have hv := Hv.out
        rw [← hda] at hv
        have Hv2 := Lib.hid hv
        have hx := u8_xor_nat (d % 256) (d / 256) (by omega) (by omega)
        clear hda hv hWt
        go_wp2
        go_ret
        refine ⟨?_, bnx hb4 hb⟩
        rw [Hv2.out, ← hx]
        rfl

end Go.Proofs.YtonejdjhdjckjaaGreat

/-
  the document's Extra walked (printed by gen_sch6.py).
-/
set_option linter.unusedSimpArgs false
set_option linter.unusedVariables false
namespace Go.Proofs.YtonejdjhdjckjaaGreat
open Go.RowKit NumLaw
attribute [local go_sem] Addr.add_mid
attribute [-go_sem] run_eql_struct run_neq_struct

open CrcLaw
set_option maxRecDepth 10000 in
set_option maxHeartbeats 8000000 in
theorem qextra_any (id : Int) (w : World) : Calls Tryz.prog 33 #[.int .i64 id] w fun e w' => e = .returned (.int .u8 (exS (frm id))) ∧ Below w.heap.size w w' := by
  obtain ⟨i1, hi1⟩ := info_parts u8_info
  have Hi1 := Lib.hid hi1
  have hp := qparts_any id w
  have hnm := fun w => qname_any id w
  have hN := frm_n id
  have hM := frm_nm id
  generalize frm id = p at *
  obtain ⟨nm, L⟩ := p
  have Hp := Lib.hid hp
  have Hnn := Lib.hid hnm
  have HN := Lib.hid hN
  have HM := Lib.hid hM
  clear hi1 hp hnm
  cases hem : nm.toList.isEmpty with
  | true =>
    have hv : exS (nm, L) = 0 := by unfold exS; rw [if_pos hem]
    have Hv := Lib.hid hv
    have hL : L = [] := by have h := HM.out.2.2; rw [show (nm, L).1 = nm from rfl, hem] at h; exact List.isEmpty_iff.1 h.symm
    have HL := Lib.hid hL
    clear hN hM hv hL
    go_enter Tryz.func33, Tryz.ntmps33
    go_wp2_with fail
    go_fit Hp.out
    rintro e w1 ⟨A, n, c, rfl, hr, hb⟩
    have hn : n ≤ 100 := by rw [← hr.len]; exact HN.out.2.1
    have hll := hr.len
    have hmx0 := hr.2.2.2.1
    have hle0 := hr.2.2.1
    unfold maxLen at hmx0
    go_wp2_with fail
    go_fit (qwire31_any A n c L w1 hr (by omega))
    rintro e w2 ⟨A4, c4, rfl, hr4, hbx⟩
    have hb2 := bnx hb hbx
    have hmx := hr4.2.2.2.1
    have hle := hr4.2.2.1
    unfold maxLen at hmx
    clear hbx hb hr
    obtain rfl : n = 0 := by rw [← hll, HL.out]; rfl
    go_wp2
    go_ret
    exact ⟨by rw [Hv.out]; rfl, hb2⟩
  | false =>
    have hv : exS (nm, L) = (((moreN 65535 (exB (nm, L)) % 256) ^^^ (moreN 65535 (exB (nm, L)) / 256) : Nat) : Int) := by unfold exS; rw [if_neg (by rw [hem]; exact Bool.false_ne_true)]
    have Hv := Lib.hid hv
    have hL : 0 < L.length := by
      have h := HM.out.2.2
      rw [show (nm, L).1 = nm from rfl, hem] at h
      cases L with
      | nil => cases h
      | cons a b => exact Nat.succ_pos _
    have HL := Lib.hid hL
    have hns : (nm ++ ⟨#[32]⟩).size ≤ 200 := by rw [ByteArray.size_append]; have h9 : nm.size ≤ 100 := HM.out.1; have : (⟨#[32]⟩ : ByteArray).size = 1 := rfl; omega
    have hsz1 : (nm ++ ⟨#[32]⟩ : ByteArray).size = nm.size + 1 := by rw [ByteArray.size_append]; rfl
    have Hsz1 := Lib.hid hsz1
    have Hns := Lib.hid hns
    have hnl : nm.size ≤ 100 := HM.out.1
    have hnl1 : nm.size + 1 ≤ 9223372036854775807 := by omega
    have hnl2 : ¬ 9223372036854775807 < nm.size + 1 := by omega
    have hcv := fun w => Lib.run_convert_string_bytes (P := Tryz.prog) w 9 22 5 (nm ++ ⟨#[32]⟩) Tryz.underlying9 Tryz.underlying22 Tryz.underlying5
    clear hN hM hv hns hsz1 hL
    go_enter Tryz.func33, Tryz.ntmps33
    go_wp2_with fail
    go_fit Hp.out
    rintro e w1 ⟨A, n, c, rfl, hr, hb⟩
    have hn : n ≤ 100 := by rw [← hr.len]; exact HN.out.2.1
    have hll := hr.len
    have hmx0 := hr.2.2.2.1
    have hle0 := hr.2.2.1
    unfold maxLen at hmx0
    go_wp2_with fail
    go_fit (qwire31_any A n c L w1 hr (by omega))
    rintro e w2 ⟨A4, c4, rfl, hr4, hbx⟩
    have hb2 := bnx hb hbx
    have hmx := hr4.2.2.2.1
    have hle := hr4.2.2.1
    unfold maxLen at hmx
    clear hbx hb hr
    have hn0 : 0 < n := by rw [← hll]; exact HL.out
    have hnz : ((n : Int) == 0) = false := by rw [beq_eq_false_iff_ne]; omega
    clear hll
    go_wp2_with fail
    go_fit (Hnn.out w2)
    rintro e w3 ⟨rfl, rfl⟩
    obtain ⟨W, hW⟩ : ∃ W, W = stb PtT.sz L := ⟨_, rfl⟩
    rw [← hW] at hr4
    have hWN : ∀ x ∈ W, szQ x.sz ∧ mx1 x.mn ≤ 100 ∧ x.nm.size ≤ 100 := fun x hx => by
      rw [hW] at hx
      have hx := (stb_mem PtT.sz L).1 hx
      exact ⟨HN.out.1 x hx, HN.out.2.2 x hx, HM.out.2.1 x hx⟩
    have HWN := Lib.hid hWN
    have HW := Lib.hid hW
    have Hll := Lib.hid hr4.len
    have hown := OwB.bytes w2 5 (nm ++ ⟨#[32]⟩) w2.heap.size (Nat.le_refl _) (by have := Hns.out; unfold maxLen; omega)
    have hbb := below_bytes w2 5 (nm ++ ⟨#[32]⟩)
    rw [Hsz1.out] at hown
    clear hW hWN
    go_wp2_with fail
    try rw [Hsz1.out]
    generalize hcap : grownCap w2 (nm.size + 1) 0 5 = cp at *
    generalize (Lib.bytesWorld w2 5 (nm ++ ⟨#[32]⟩)) = w4 at *
    have Hown := Lib.hid (show OwB w4 w2.heap.size 5 (some ⟨w2.heap.size, 0, none⟩) (nm.size + 1) cp (bv (sbL (nm ++ ⟨#[32]⟩) ++ (W.take 0).flatMap emL)) from by simpa [bv, sbL] using hown)
    obtain ⟨n1, hn1⟩ : ∃ n1, n1 = nm.size + 1 := ⟨_, rfl⟩
    have hn1b : n1 ≤ 101 := by omega
    rw [← hn1] at Hown ⊢
    obtain ⟨A1, hA1⟩ : ∃ A1, A1 = some (⟨w2.heap.size, 0, none⟩ : Addr) := ⟨_, rfl⟩
    rw [← hA1] at Hown ⊢
    clear hcv hown hn1 hA1 hcap hnl hnl1 hnl2 Hsz1
    go_loopw [4, 5] (fun b i wr => ∃ (k n3 c3 : Nat) (A3 : Option Addr), k ≤ n ∧ i = .int .i64 k ∧ b = .slice A3 n3 c3 ∧ n3 ≤ 101 + 300 * k ∧ Below w2.heap.size w2 wr ∧ Hid (OwB wr w2.heap.size 5 A3 n3 c3 (bv (sbL (nm ++ ⟨#[32]⟩) ++ (W.take k).flatMap emL)))) (fun _ i _ => n - (intOf i).toNat)
    case atStart => exact ⟨0, n1, cp, A1, by omega, rfl, rfl, by omega, hbb, Hown⟩
    case round =>
      clear Hown hbb
      obtain ⟨k, n3, c3, A3, hk, rfl, rfl, hn3, hb, Hown⟩ := hrel
      by_cases hlt : k < n
      · have hlt' : (k : Int) < (n : Int) := by omega
        obtain ⟨g, off, x, rfl, hg, hx, hr⟩ := RdP.at_ hr4 hlt
        have Hrow := Lib.hid (show ∀ wq, Below w2.heap.size w2 wq → wq.rangeAt g (off + k * 4) (ptC x) from fun wq hbq j v hv => (hbq.cell (p := ⟨g, off + k * 4 + j, none⟩) hg).trans (hr j v hv))
        obtain ⟨hz, hm, hnl⟩ := HWN.out x (List.mem_of_getElem? hx)
        have hwd := fun w => qword_any x hz w
        have hes := emS_le hz hnl
        have hfl : (W.take (k + 1)).flatMap emL = (W.take k).flatMap emL ++ emL x := by rw [take_succ hx, List.flatMap_append]; simp
        have Hfl := Lib.hid hfl
        obtain ⟨s, z, g1, m⟩ := x
        have Hnm := Lib.hid (show ∀ wq, Below w2.heap.size w2 wq → wq.cell? ⟨g, off + k * 4, none⟩ = some (.string s) from fun wq hbq => Hrow.out wq hbq 0 _ rfl)
        have Hmn := Lib.hid (show ∀ wq, Below w2.heap.size w2 wq → wq.cell? ⟨g, off + k * 4 + 3, none⟩ = some (.int .i64 m) from fun wq hbq => Hrow.out wq hbq 3 _ rfl)
        have hem2 : emS ⟨s, z, g1, m⟩ = wordS z g1 ++ ⟨#[32]⟩ ++ s ++ ⟨#[32]⟩ := rfl
        have hel : emL ⟨s, z, g1, m⟩ = sbL (emS ⟨s, z, g1, m⟩) ++ if 0 < m then [UInt8.ofNat m.toNat] else [] := rfl
        dsimp only at hm
        have hwd2 : ∀ w, Calls Tryz.prog 66 #[.agg (ptC ⟨s, z, g1, m⟩).toArray] w fun e w' => e = .returned (.string (wordS z g1)) ∧ Below w.heap.size w w' := hwd
        have hwl : (wordS z g1).size ≤ 8 := word_le hz g1
        have hsl : s.size ≤ 100 := hnl
        generalize wordS z g1 = wz at *
        have hq1 : wz.size + 1 ≤ 9223372036854775807 := by omega
        have hq2 : wz.size + 1 + s.size ≤ 9223372036854775807 := by omega
        have hq3 : wz.size + 1 + s.size + 1 ≤ 9223372036854775807 := by omega
        have hr1 : ¬ 9223372036854775807 < wz.size + 1 := by omega
        have hr2 : ¬ 9223372036854775807 < wz.size + 1 + s.size := by omega
        have hr3 : ¬ 9223372036854775807 < wz.size + 1 + s.size + 1 := by omega
        have hcv := fun w => Lib.run_convert_string_bytes (P := Tryz.prog) w 9 22 5 (wz ++ ⟨#[32]⟩ ++ s ++ ⟨#[32]⟩) Tryz.underlying9 Tryz.underlying22 Tryz.underlying5
        rw [hem2] at hes hel
        have Hel := Lib.hid hel
        have Hes := Lib.hid hes
        have Hwd := Lib.hid hwd2
        have Hmx := Lib.hid hm
        clear hx hr hwd hwd2 hem2 hel hes hm hfl hz hnl
        go_wp2_with fail
        refine Ord.region_ (fun w' => Below w2.heap.size w2 w') false [] (by kernel_rfl) (by kernel_rfl) hb.drew ?_
        have hS : Below w2.heap.size w2 wr.drew := hb.drew
        have hB : w2.heap.size ≤ wr.drew.heap.size := hS.size
        replace Hown := Lib.hid (OwB.drew Hown.out)
        clear hb
        generalize wr.drew = wd at *
        ((with_reducible refine Ord.e_p (v := ?_) ?_ ?_ ?_ ?_); rotate_left; (· exact rfl); (· kernel_rfl); (· intro w2; go_simp; try with_reducible rfl))
        (try simp only [Act.put, List.setIfInBounds_toArray, List.set_cons_zero, List.set_cons_succ])
        ((with_reducible refine Ord.e_p (v := ?_) ?_ ?_ ?_ ?_); rotate_left; (· exact rfl); (· kernel_rfl); (· intro w2; go_simp; try with_reducible rfl))
        (try simp only [Act.put, List.setIfInBounds_toArray, List.set_cons_zero, List.set_cons_succ])
        ((with_reducible refine Ord.e_p (v := ?_) ?_ ?_ ?_ ?_); rotate_left; (· exact rfl); (· kernel_rfl); (· intro w2; go_simp; try with_reducible rfl))
        (try simp only [Act.put, List.setIfInBounds_toArray, List.set_cons_zero, List.set_cons_succ])
        ((with_reducible refine Ord.e_p (v := ?_) ?_ ?_ ?_ ?_); rotate_left; (· exact rfl); (· kernel_rfl); (· intro w2; go_simp; try with_reducible rfl))
        (try simp only [Act.put, List.setIfInBounds_toArray, List.set_cons_zero, List.set_cons_succ])
        refine Ord.e_rowS (cs := ptC ⟨s, z, g1, m⟩) (b := g) (o := off + k * 4) Tryz.underlying71 rfl (by kernel_rfl) rfl (by simp [ptC]) (fun w' hS => Hrow.out w' hS) hS (by kernel_rfl) ?_
        (try simp only [Act.put, List.setIfInBounds_toArray, List.set_cons_zero, List.set_cons_succ])
        refine Ord.e_x rfl (by kernel_rfl) ?_
        go_wp2_with fail
        go_fit (Hwd.out wd)
        rintro e w6 ⟨rfl, hbx⟩
        replace hS := bnx hS hbx
        replace Hown := Lib.hid (Hown.out.up hbx)
        go_wp2_with fail
        refine Ord.Seg.go hS (fun h => by cases h) ?_
        (try simp only [Act.put, List.setIfInBounds_toArray, List.set_cons_zero, List.set_cons_succ])
        clear hbx
        ((with_reducible refine Ord.e_p (v := ?_) ?_ ?_ ?_ ?_); rotate_left; (· exact rfl); (· kernel_rfl); (· intro w2; go_simp; try with_reducible rfl))
        (try simp only [Act.put, List.setIfInBounds_toArray, List.set_cons_zero, List.set_cons_succ])
        ((with_reducible refine Ord.e_p (v := ?_) ?_ ?_ ?_ ?_); rotate_left; (· exact rfl); (· kernel_rfl); (· intro w2; go_simp; try with_reducible rfl))
        (try simp only [Act.put, List.setIfInBounds_toArray, List.set_cons_zero, List.set_cons_succ])
        ((with_reducible refine Ord.e_p (v := ?_) ?_ ?_ ?_ ?_); rotate_left; (· exact rfl); (· kernel_rfl); (· intro w2; go_simp; try with_reducible rfl))
        (try simp only [Act.put, List.setIfInBounds_toArray, List.set_cons_zero, List.set_cons_succ])
        ((with_reducible refine Ord.e_p (v := ?_) ?_ ?_ ?_ ?_); rotate_left; (· exact rfl); (· kernel_rfl); (· intro w2; go_simp; try with_reducible rfl))
        (try simp only [Act.put, List.setIfInBounds_toArray, List.set_cons_zero, List.set_cons_succ])
        ((with_reducible refine Ord.e_p (v := ?_) ?_ ?_ ?_ ?_); rotate_left; (· exact rfl); (· kernel_rfl); (· intro w2; go_simp; try with_reducible rfl))
        (try simp only [Act.put, List.setIfInBounds_toArray, List.set_cons_zero, List.set_cons_succ])
        refine Ord.e_loadS (ad := ⟨g, off + k * 4, none⟩) Tryz.underlying9 rfl (fun w' hS => Hnm.out w' hS) hS rfl (by kernel_rfl) ?_
        (try simp only [Act.put, List.setIfInBounds_toArray, List.set_cons_zero, List.set_cons_succ])
        ((with_reducible refine Ord.e_p (v := ?_) ?_ ?_ ?_ ?_); rotate_left; (· exact rfl); (· kernel_rfl); (· intro w2; go_simp; try with_reducible rfl))
        (try simp only [Act.put, List.setIfInBounds_toArray, List.set_cons_zero, List.set_cons_succ])
        ((with_reducible refine Ord.e_p (v := ?_) ?_ ?_ ?_ ?_); rotate_left; (· exact rfl); (· kernel_rfl); (· intro w2; go_simp; try with_reducible rfl))
        (try simp only [Act.put, List.setIfInBounds_toArray, List.set_cons_zero, List.set_cons_succ])
        refine Ord.e_x (by kernel_rfl) (by kernel_rfl) ?_
        go_wp2_with fail
        refine Ord.Seg.go (bnx hS (below_bytes _ _ _)) (fun h => by cases h) ?_
        (try simp only [Act.put, List.setIfInBounds_toArray, List.set_cons_zero, List.set_cons_succ])
        have hrd := rd_bytes w6 5 (wz ++ ⟨#[32]⟩ ++ s ++ ⟨#[32]⟩) (by have := Hes.out; unfold maxLen; omega)
        have hsz : (wz ++ ⟨#[32]⟩ ++ s ++ ⟨#[32]⟩ : ByteArray).size = wz.size + 1 + s.size + 1 := by rw [ByteArray.size_append, ByteArray.size_append, ByteArray.size_append]; rfl
        rw [hsz] at hrd
        have hbb := below_bytes w6 5 (wz ++ ⟨#[32]⟩ ++ s ++ ⟨#[32]⟩)
        replace hS := bnx hS hbb
        replace Hown := Lib.hid (Hown.out.up hbb)
        refine Ord.e_x rfl (by kernel_rfl) ?_
        refine wpList_appB (base := w2.heap.size) (n := n3) Tryz.underlying22 Hi1.out rfl Hown.out rfl hrd (by omega) rfl (bv_one _) (k := n3 + (wz.size + 1 + s.size + 1)) rfl (bv_app _ _).symm (by unfold maxLen; omega) (by omega) hS.size ?_
        intro A7 c7 w7 own7 hbl hsz7
        replace hS := hbl hS (Nat.le_refl _)
        go_wp2_with fail
        refine Ord.Seg.go hS (fun h => by cases h) ?_
        (try simp only [Act.put, List.setIfInBounds_toArray, List.set_cons_zero, List.set_cons_succ])
        clear hbl hsz7 hrd hbb Hown hsz
        ((with_reducible refine Ord.e_p (v := ?_) ?_ ?_ ?_ ?_); rotate_left; (· exact rfl); (· kernel_rfl); (· intro w2; go_simp; try with_reducible rfl))
        (try simp only [Act.put, List.setIfInBounds_toArray, List.set_cons_zero, List.set_cons_succ])
        refine Ord.e_nil ?_
        have hmn := Hmn.out w7 hS
        have hmx2 := Hmx.out
        have hnb : w2.heap.size ≤ w7.heap.size := hS.size
        obtain ⟨n4, hn4⟩ : ∃ n4, n4 = n3 + (wz.size + 1 + s.size + 1) := ⟨_, rfl⟩
        have hn4b : n4 ≤ 101 + 300 * k + 150 := by omega
        rw [← hn4] at own7 ⊢
        clear hn4 hn3 hq1 hq2 hq3 hr1 hr2 hr3 hcv Hwd Hrow Hnm Hmn hwl hsl hB Hes
        by_cases hm0 : 0 < m
        · obtain ⟨mm, rfl⟩ : ∃ mm : Nat, m = (mm : Int) := ⟨m.toNat, by omega⟩
          have hmm : mm < 256 := by unfold mx1 at hmx2; split at hmx2 <;> omega
          have hw8 : IntKind.u8.wrap (mm : Int) = (mm : Int) := by rw [IntKind.wrap_u8']; omega
          have hrd : Rd (w7.alloc (.cells #[.int .u8 (mm : Int)] 5)) (w7.heap.size + 1) 1 (some ⟨w7.heap.size, 0, none⟩) 1 1 (bv [UInt8.ofNat mm]) := by
            have h := rd_const w7 5 [UInt8.ofNat mm] (0, 0) (by simp [maxLen])
            have e1 : (UInt8.ofNat mm).toNat = mm := by rw [UInt8.toNat_ofNat']; omega
            simpa [bv, e1] using h
          have hbn : Below w7.heap.size w7 (w7.alloc (.cells #[.int .u8 (mm : Int)] 5)) := (Below.refl _ _).alloc (Nat.le_refl _) _
          have own8 := OwB.up own7 hbn
          have hb8 := bnx hS hbn
          have HX := Lib.hid (show (sbL (nm ++ ⟨#[32]⟩) ++ (W.take k).flatMap emL) ++ sbL (wz ++ ⟨#[32]⟩ ++ s ++ ⟨#[32]⟩) ++ [UInt8.ofNat mm] = sbL (nm ++ ⟨#[32]⟩) ++ (W.take (k + 1)).flatMap emL from by
            rw [Hfl.out, Hel.out, if_pos hm0]
            simp)
          clear own7 hbn hS
          go_wp2_with (at_builtin; refine stop_ ?_)
          generalize (w7.alloc (.cells #[.int .u8 (mm : Int)] 5)) = w8 at *
          refine go_ (wpList_appB (base := w2.heap.size) (n := n4) Tryz.underlying22 Hi1.out rfl own8 rfl hrd (by omega) rfl (bv_one _) (k := n4 + 1) rfl (by rw [← bv_app, HX.out]) (by unfold maxLen; omega) (by omega) hb8.size ?_)
          intro A9 c9 w9 own9 hbl hsz9
          have hb9 := hbl hb8 (Nat.le_refl _)
          clear own8 hrd hb8 hbl
          go_wp2
          go_roundw
          case rel => exact ⟨k + 1, n4 + 1, c9, A9, by omega, by go_num, rfl, by omega, hb9, Lib.hid own9⟩
          case measure => simp [intOf]; omega
        · have HX := Lib.hid (show (sbL (nm ++ ⟨#[32]⟩) ++ (W.take k).flatMap emL) ++ sbL (wz ++ ⟨#[32]⟩ ++ s ++ ⟨#[32]⟩) = sbL (nm ++ ⟨#[32]⟩) ++ (W.take (k + 1)).flatMap emL from by
            rw [Hfl.out, Hel.out, if_neg hm0]
            simp)
          rw [HX.out] at own7
          go_wp2
          go_roundw
          case rel => exact ⟨k + 1, n4, c7, A7, by omega, by go_num, rfl, by omega, hS, Lib.hid own7⟩
          case measure => simp [intOf]; omega
      · obtain rfl : k = n := by omega
        have hWt : W.take k = W := List.take_of_length_le (by rw [Hll.out]; exact Nat.le_refl _)
        have hrd := Hown.out.rd
        rw [hWt] at hrd
        have hex : sbL (nm ++ ⟨#[32]⟩) ++ W.flatMap emL = exB (nm, L) := by show _ = sbL (nm ++ ⟨#[32]⟩) ++ (stb PtT.sz L).flatMap emL; rw [← HW.out]
        rw [hex] at hrd
        have hdl : moreN 65535 (exB (nm, L)) < 65536 := moreN_lt _ (by omega)
        have hbf := bnx hb2 hb
        have hv := Hv.out
        clear hex hWt Hown
        generalize exB (nm, L) = X at *
        go_wp2_with fail
        go_fit (rof_any A3 n3 c3 _ X wr hrd)
        rintro e w9 ⟨rfl, rfl⟩
        generalize moreN 65535 X = d at *
        have hx := u8_xor_nat (d % 256) (d / 256) (by omega) (by omega)
        have Hv2 := Lib.hid hv
        clear hv hrd
        go_wp2
        go_ret
        refine ⟨?_, hbf⟩
        rw [Hv2.out, ← hx]
        rfl

end Go.Proofs.YtonejdjhdjckjaaGreat
