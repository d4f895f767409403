/-
  Several texts in one: Sch10 Sch11 Sch12 Sch17 Sch18 SchLaw2 Sch19 Sch20.
-/
import Derived.Test.YtonejdjhdjckjaaGreatKM1
import Derived.Test.YtonejdjhdjckjaaGreatKM0
import Derived.Lib.ConvBytes
import Derived.Test.YtonejdjhdjckjaaGreatShRef1
/-
  the document's Wire, numbers, Count, Width walked (printed by gen_sch6.py).
-/
set_option linter.unusedSimpArgs false
set_option linter.unusedVariables false
namespace Go.Proofs.YtonejdjhdjckjaaGreat
open Go.RowKit NumLaw
attribute [local go_sem] Addr.add_mid
attribute [-go_sem] run_eql_struct run_neq_struct

set_option maxRecDepth 10000 in
set_option maxHeartbeats 4000000 in
theorem qwire31_any (A : Option Addr) (n c : Nat) (L : List PtT) (w : World) (h : RdP w w.heap.size A n c L) (hn : n ≤ 1000) :
    Calls Tryz.prog 64 #[.slice A n c] w fun e w' => ∃ (A' : Option Addr) (c' : Nat), e = .returned (.slice A' n c') ∧ RdP w' w'.heap.size A' n c' (stb PtT.sz L) ∧ Below w.heap.size w w' := by
  have hmx := h.2.2.2.1
  have hle := h.2.2.1
  unfold maxLen at hmx
  obtain ⟨i1, hi1⟩ := info_parts pt_info
  have Hi1 := Lib.hid hi1
  have Hll := Lib.hid h.len
  have Hon := Lib.hid (ord_len L)
  have Hom := Lib.hid (ord_mem L)
  have How := Lib.hid (ord_wire L)
  have Hor := Lib.hid (fun w => order31_any A n c L w)
  generalize ordS L = O at *
  clear hi1
  go_enter Tryz.func64, Tryz.ntmps64
  go_wp2_with fail
  go_fit (Hor.out w h hn)
  rintro e w1 ⟨A1, c1, rfl, hO, hb1⟩
  have h1 : RdP w1 w1.heap.size A n c L := RdR.more (RdR.up h hb1) hb1.size
  have hmxO := hO.2.2.2.1
  have hleO := hO.2.2.1
  unfold maxLen at hmxO
  clear h Hor
  go_wp2_with fail
  go_loopw [3, 5] (fun o i wr => ∃ (k c3 : Nat) (A3 : Option Addr), k ≤ n ∧ i = .int .i64 k ∧ o = .slice A3 k c3 ∧ Below w1.heap.size w1 wr ∧ wr.ownsRow w1.heap.size 71 4 (.slice A3 k c3) k (((O.take k).map fun j => L.getD j ptD).map ptC).flatten) (fun _ i _ => n - (intOf i).toNat)
  case atStart => exact ⟨0, 0, none, by omega, rfl, rfl, Below.refl _ _, World.ownsRow_nil _ _ _ _⟩
  case round =>
    obtain ⟨k, c3, A3, hk, rfl, rfl, hb, own3⟩ := hrel
    by_cases hlt : k < n
    · have hlt' : (k : Int) < (n : Int) := by omega
      obtain ⟨ga, oa, y, rfl, hga, hy, hya⟩ := RdN.at_ hO hlt
      have hyn0 : y < L.length := Hom.out y (List.mem_of_getElem? hy)
      have hyn : y < n := by have := Hll.out; omega
      obtain ⟨g, off, x, rfl, hg, hx, hr⟩ := RdP.at_ h1 hyn
      have kO := (hb.cell (p := ⟨ga, oa + k, none⟩) hga).trans hya
      have k0 := (hb.cell (p := ⟨g, off + y * 4 + 0, none⟩) hg).trans (hr 0 _ rfl)
      have k1 := (hb.cell (p := ⟨g, off + y * 4 + 1, none⟩) hg).trans (hr 1 _ rfl)
      have k2 := (hb.cell (p := ⟨g, off + y * 4 + 2, none⟩) hg).trans (hr 2 _ rfl)
      have k3 := (hb.cell (p := ⟨g, off + y * 4 + 3, none⟩) hg).trans (hr 3 _ rfl)
      rw [Nat.add_zero] at k0
      have hts : (O.take (k + 1)).map (fun j => L.getD j ptD) = (O.take k).map (fun j => L.getD j ptD) ++ [x] := by
        rw [take_succ hy, List.map_append]
        simp [List.getD_eq_getElem?_getD, hx]
      obtain ⟨s, z1, g1, m1⟩ := x
      dsimp only at k0 k1 k2 k3
      have hyn' : (y : Int) < (n : Int) := by omega
      have hbn : Below wr.heap.size wr (wr.alloc (.cells #[.string s, .int .i64 z1, .bool g1, .int .i64 m1] 71)) := (Below.refl _ _).alloc (Nat.le_refl _) _
      have hrd : Rd _ _ 4 _ 1 1 (ptC ⟨s, z1, g1, m1⟩) := RdR.rd (RdR.lit (size := 4) (e := 71) wr [ptC ⟨s, z1, g1, m1⟩] #[.string s, .int .i64 z1, .bool g1, .int .i64 m1] rfl (by intro r hr; rw [List.mem_singleton.1 hr]; rfl) (by simp [maxLen]) 1 rfl) (by omega)
      have hb4 := bnx hb hbn
      have own4 := own_up own3 hbn (Nat.le_refl _)
      have Hfl := Lib.hid (show (((O.take k).map fun j => L.getD j ptD).map ptC).flatten ++ ptC ⟨s, z1, g1, m1⟩ = (((O.take (k + 1)).map fun j => L.getD j ptD).map ptC).flatten by rw [hts]; exact pt_flat _ _)
      clear hb own3 hbn hr hx hy hya hts hyn0
      go_wp2_with (at_builtin; refine stop_ ?_)
      generalize (wr.alloc (.cells #[.string s, .int .i64 z1, .bool g1, .int .i64 m1] 71)) = w4 at *
      refine go_ (wpList_appG (base := w1.heap.size) (n := k) Tryz.underlying55 Hi1.out rfl (by omega) own4 rfl hrd rfl (ptC_one _) (k := k + 1) rfl Hfl.out (by unfold maxLen; omega) (by omega) hb4.size ?_)
      clear k0 k1 k2 k3 kO
      intro A5 c5 w5 own5 hgr hob
      have hb5 := Below.grown hb4 hgr hb4.size (fun j hj => (own_blk own4 hj).1)
      clear hgr hob own4 hrd hb4
      go_wp2
      go_roundw
      case rel => exact ⟨k + 1, c5, A5, by omega, by go_num, rfl, hb5, own5⟩
      case measure => simp [intOf]; omega
    · obtain rfl : k = n := by omega
      have htk : ((O.take k).map fun j => L.getD j ptD) = stb PtT.sz L := by rw [List.take_of_length_le (by rw [Hon.out, Hll.out]; exact Nat.le_refl _), How.out]
      rw [htk] at own3
      have hrp := RdP.own own3 (by rw [stb_len, Hll.out])
      have hbf := bnx hb1 hb
      clear own3 htk hO
      go_wp2
      go_ret
      exact ⟨A3, c3, rfl, hrp, hbf⟩
theorem qnumbers_any (p : PtT) (w : World) : Calls Tryz.prog 37 #[.agg (ptC p).toArray] w fun e w' => e = .returned (.int .i64 (mx1 p.mn : Int)) ∧ Below w.heap.size w w' := by
  obtain ⟨s, z, g, m⟩ := p
  have hb := (Below.refl w.heap.size w).alloc (Nat.le_refl _) (.cells #[.string s, .int .i64 z, .bool g, .int .i64 m] 71)
  have a0 := heap_alloc_new w (.cells #[.string s, .int .i64 z, .bool g, .int .i64 m] 71)
  have k0 := blk_cell (i := 3) (v := .int .i64 m) a0 rfl
  have hm := mx1_int m
  show Calls _ _ #[.agg #[.string s, .int .i64 z, .bool g, .int .i64 m]] _ _
  have Hm := Lib.hid hm
  clear hm
  by_cases hc : m < 1
  · have hv : (mx1 m : Int) = 1 := by rw [← Hm.out, if_pos (show 1 > m from hc)]
    have Hv := Lib.hid hv
    clear hv
    go_enter Tryz.func37, Tryz.ntmps37
    go_wp2
    go_ret
    exact ⟨by show _ = Ending.returned (.int .i64 (mx1 m : Int)); rw [Hv.out]; rfl, hb⟩
  · have hv : (mx1 m : Int) = m := by rw [← Hm.out, if_neg (show ¬ 1 > m from hc)]
    have Hv := Lib.hid hv
    clear hv
    go_enter Tryz.func37, Tryz.ntmps37
    go_wp2
    go_ret
    exact ⟨by show _ = Ending.returned (.int .i64 (mx1 m : Int)); rw [Hv.out]; rfl, hb⟩
set_option maxRecDepth 10000 in
set_option maxHeartbeats 4000000 in
theorem qcount_any (id : Int) (w : World) : Calls Tryz.prog 34 #[.int .i64 id] w fun e w' => e = .returned (.int .i64 (cntS (frm id).2 : Int)) ∧ Below w.heap.size w w' := by
  have hp := qparts_any id w
  have hq := frm_n id
  generalize (frm id).2 = L at *
  have Hp := Lib.hid hp
  have Hq := Lib.hid hq
  have Hbd := Lib.hid (fun k => cnt_bd L hq k)
  have Hsn := Lib.hid (fun (l : List PtT) (p : PtT) => cntS_snoc p l)
  clear hp hq
  go_enter Tryz.func34, Tryz.ntmps34
  go_wp2_with fail
  go_fit Hp.out
  rintro e w1 ⟨A, n, c, rfl, h, hb1⟩
  have Hll := Lib.hid h.len
  have hn : n ≤ 100 := by rw [← h.len]; exact Hq.out.2.1
  have hmx := h.2.2.2.1
  have hle := h.2.2.1
  unfold maxLen at hmx
  go_wp2_with fail
  go_loopw [3, 5] (fun a i wr => ∃ k s : Nat, k ≤ n ∧ i = .int .i64 k ∧ a = .int .i64 (s : Int) ∧ Hid (s = cntS (L.take k)) ∧ s ≤ 8000 * 1000 ∧ Below w1.heap.size w1 wr) (fun _ i _ => n - (intOf i).toNat)
  case atStart => exact ⟨0, 0, by omega, rfl, rfl, Lib.hid rfl, by omega, Below.refl _ _⟩
  case round =>
    obtain ⟨k, s, hk, rfl, rfl, Hs, hs8, hb⟩ := hrel
    by_cases hlt : k < n
    · have hlt' : (k : Int) < (n : Int) := by omega
      obtain ⟨g, off, x, rfl, hg, hx, hr⟩ := RdP.at_ h hlt
      have hxL := List.mem_of_getElem? hx
      have hz := Hq.out.1 x hxL
      have hm := Hq.out.2.2 x hxL
      have hfx := fun w => qnumbers_any x w
      have hsm := Hsn.out (L.take k) x
      rw [← take_succ hx, ← Hs.out] at hsm
      have hbd := Hbd.out (k + 1)
      have k0 := (hb.cell (p := ⟨g, off + k * 4 + 0, none⟩) hg).trans (hr 0 _ rfl)
      have k1 := (hb.cell (p := ⟨g, off + k * 4 + 1, none⟩) hg).trans (hr 1 _ rfl)
      have k2 := (hb.cell (p := ⟨g, off + k * 4 + 2, none⟩) hg).trans (hr 2 _ rfl)
      have k3 := (hb.cell (p := ⟨g, off + k * 4 + 3, none⟩) hg).trans (hr 3 _ rfl)
      rw [Nat.add_zero] at k0
      obtain ⟨s1, z1, g1, m1⟩ := x
      dsimp only at k0 k1 k2 k3 hfx hsm
      obtain ⟨d, hd⟩ : ∃ d : Nat, d = mx1 m1 := ⟨_, rfl⟩
      rw [← hd] at hfx hsm
      rw [hsm] at hbd
      have Hsm := Lib.hid hsm.symm
      have hfx2 : ∀ w, Calls Tryz.prog 37 #[.agg #[.string s1, .int .i64 z1, .bool g1, .int .i64 m1]] w fun e w' => e = .returned (.int .i64 (d : Int)) ∧ Below w.heap.size w w' := hfx
      have Hfx := Lib.hid hfx2
      have hw3 : IntKind.i64.wrap ((s : Int) + (d : Int)) = (s : Int) + (d : Int) := IntWalk.i64_in _ (by omega)
      clear hx hr hfx hfx2 hsm hd hz hm hxL
      go_wp2_with fail
      go_fit (Hfx.out _)
      rintro e w2 ⟨rfl, hbx⟩
      have hb5 := bnx hb hbx
      clear k0 k1 k2 k3 hbx hb
      go_wp2
      go_roundw
      case rel => exact ⟨k + 1, s + d, by omega, by go_num, by go_num, Hsm, by omega, hb5⟩
      case measure => simp [intOf]; omega
    · obtain rfl : k = n := by omega
      have he : s = cntS L := by rw [Hs.out, List.take_of_length_le (by rw [Hll.out]; exact Nat.le_refl _)]
      have He := Lib.hid he
      have hbf := bnx hb1 hb
      clear he
      go_wp2
      go_ret
      exact ⟨by rw [← He.out]; rfl, hbf⟩
set_option maxRecDepth 10000 in
set_option maxHeartbeats 4000000 in
theorem qwidth_any (id : Int) (w : World) : Calls Tryz.prog 30 #[.int .i64 id] w fun e w' => e = .returned (.int .i64 (wdS (frm id).2 : Int)) ∧ Below w.heap.size w w' := by
  have hp := qparts_any id w
  have hq := frm_n id
  generalize (frm id).2 = L at *
  have Hp := Lib.hid hp
  have Hq := Lib.hid hq
  have Hbd := Lib.hid (fun k => wd_bd L hq k)
  have Hsn := Lib.hid (fun (l : List PtT) (p : PtT) => wdS_snoc p l)
  clear hp hq
  go_enter Tryz.func30, Tryz.ntmps30
  go_wp2_with fail
  go_fit Hp.out
  rintro e w1 ⟨A, n, c, rfl, h, hb1⟩
  have Hll := Lib.hid h.len
  have hn : n ≤ 100 := by rw [← h.len]; exact Hq.out.2.1
  have hmx := h.2.2.2.1
  have hle := h.2.2.1
  unfold maxLen at hmx
  go_wp2_with fail
  go_loopw [3, 5] (fun a i wr => ∃ k s : Nat, k ≤ n ∧ i = .int .i64 k ∧ a = .int .i64 (s : Int) ∧ Hid (s = wdS (L.take k)) ∧ s ≤ 8000 * 1000 ∧ Below w1.heap.size w1 wr) (fun _ i _ => n - (intOf i).toNat)
  case atStart => exact ⟨0, 0, by omega, rfl, rfl, Lib.hid rfl, by omega, Below.refl _ _⟩
  case round =>
    obtain ⟨k, s, hk, rfl, rfl, Hs, hs8, hb⟩ := hrel
    by_cases hlt : k < n
    · have hlt' : (k : Int) < (n : Int) := by omega
      obtain ⟨g, off, x, rfl, hg, hx, hr⟩ := RdP.at_ h hlt
      have hxL := List.mem_of_getElem? hx
      have hz := Hq.out.1 x hxL
      have hm := Hq.out.2.2 x hxL
      have hfx := fun w => qnumbers_any x w
      have hsm := Hsn.out (L.take k) x
      rw [← take_succ hx, ← Hs.out] at hsm
      have hbd := Hbd.out (k + 1)
      obtain ⟨s1, z1, g1, m1⟩ := x
      have hz : szQ z1 := hz
      have hm : mx1 m1 ≤ 100 := hm
      dsimp only at hsm
      obtain ⟨zn, hzn⟩ : ∃ zn : Nat, z1 = zn := ⟨z1.toNat, by rcases hz with rfl | rfl | rfl | rfl <;> rfl⟩
      have hz8 : zn ≤ 8 := by rcases hz with h | h | h | h <;> omega
      subst hzn
      rw [show ((zn : Int)).toNat = zn from rfl] at hsm
      obtain ⟨mm, hmm⟩ : ∃ v, v = mx1 m1 := ⟨_, rfl⟩
      have hfx2 : ∀ w, Calls Tryz.prog 37 #[.agg (ptC ⟨s1, (zn : Int), g1, m1⟩).toArray] w fun e w' => e = .returned (.int .i64 (mm : Int)) ∧ Below w.heap.size w w' := fun w => by rw [hmm]; exact hfx w
      have Hfx := Lib.hid hfx2
      rw [← hmm] at hm hsm
      have hmul : zn * mm ≤ 800 := Nat.le_trans (Nat.mul_le_mul hz8 hm) (by omega)
      rw [hsm] at hbd
      have hww : IntKind.i64.wrap ((zn : Int) * (mm : Int)) = ((zn * mm : Nat) : Int) := by
        rw [← Int.natCast_mul]
        generalize zn * mm = d at *
        exact IntWalk.i64_in _ (by omega)
      obtain ⟨d, hd⟩ : ∃ d : Nat, d = zn * mm := ⟨_, rfl⟩
      rw [← hd] at hsm hmul hww hbd
      have hw3 : IntKind.i64.wrap ((s : Int) + (d : Int)) = (s : Int) + (d : Int) := IntWalk.i64_in _ (by omega)
      have Hww := Lib.hid hww
      have Hw3 := Lib.hid hw3
      have Hsm := Lib.hid hsm.symm
      have Hr := Lib.hid (show ∀ wq, Below w1.heap.size w1 wq → wq.rangeAt g (off + k * 4) (ptC ⟨s1, (zn : Int), g1, m1⟩) from fun wq hbq j v hv => (hbq.cell (p := ⟨g, off + k * 4 + j, none⟩) hg).trans (hr j v hv))
      have Hz1 := Lib.hid (show ∀ wq, Below w1.heap.size w1 wq → wq.cell? ⟨g, off + k * 4 + 1, none⟩ = some (.int .i64 (zn : Int)) from fun wq hbq => Hr.out wq hbq 1 _ rfl)
      have hd8 : s + d ≤ 8000 * 1000 := by omega
      clear hx hr hfx hfx2 hsm hd hmm hww hw3 hz hz8 hm hmul hxL hbd
      go_wp2_with fail
      refine Ord.region_ (fun w' => Below w1.heap.size w1 w') false [] (by kernel_rfl) (by kernel_rfl) hb.drew ?_
      replace hb := hb.drew
      generalize wr.drew = wd at *
      ((with_reducible refine Ord.e_p (v := ?_) ?_ ?_ ?_ ?_); rotate_left; (· exact rfl); (· kernel_rfl); (· intro w2; go_simp; try with_reducible rfl))
      (try simp only [Act.put, List.setIfInBounds_toArray, List.set_cons_zero, List.set_cons_succ])
      ((with_reducible refine Ord.e_p (v := ?_) ?_ ?_ ?_ ?_); rotate_left; (· exact rfl); (· kernel_rfl); (· intro w2; go_simp; try with_reducible rfl))
      (try simp only [Act.put, List.setIfInBounds_toArray, List.set_cons_zero, List.set_cons_succ])
      ((with_reducible refine Ord.e_p (v := ?_) ?_ ?_ ?_ ?_); rotate_left; (· exact rfl); (· kernel_rfl); (· intro w2; go_simp; try with_reducible rfl))
      (try simp only [Act.put, List.setIfInBounds_toArray, List.set_cons_zero, List.set_cons_succ])
      ((with_reducible refine Ord.e_p (v := ?_) ?_ ?_ ?_ ?_); rotate_left; (· exact rfl); (· kernel_rfl); (· intro w2; go_simp; try with_reducible rfl))
      (try simp only [Act.put, List.setIfInBounds_toArray, List.set_cons_zero, List.set_cons_succ])
      ((with_reducible refine Ord.e_p (v := ?_) ?_ ?_ ?_ ?_); rotate_left; (· exact rfl); (· kernel_rfl); (· intro w2; go_simp; try with_reducible rfl))
      (try simp only [Act.put, List.setIfInBounds_toArray, List.set_cons_zero, List.set_cons_succ])
      refine Ord.e_loadS (ad := ⟨g, off + k * 4 + 1, none⟩) Tryz.underlying3 rfl (fun w' hS => Hz1.out w' hS) hb rfl (by kernel_rfl) ?_
      (try simp only [Act.put, List.setIfInBounds_toArray, List.set_cons_zero, List.set_cons_succ])
      ((with_reducible refine Ord.e_p (v := ?_) ?_ ?_ ?_ ?_); rotate_left; (· exact rfl); (· kernel_rfl); (· intro w2; go_simp; try with_reducible rfl))
      (try simp only [Act.put, List.setIfInBounds_toArray, List.set_cons_zero, List.set_cons_succ])
      ((with_reducible refine Ord.e_p (v := ?_) ?_ ?_ ?_ ?_); rotate_left; (· exact rfl); (· kernel_rfl); (· intro w2; go_simp; try with_reducible rfl))
      (try simp only [Act.put, List.setIfInBounds_toArray, List.set_cons_zero, List.set_cons_succ])
      ((with_reducible refine Ord.e_p (v := ?_) ?_ ?_ ?_ ?_); rotate_left; (· exact rfl); (· kernel_rfl); (· intro w2; go_simp; try with_reducible rfl))
      (try simp only [Act.put, List.setIfInBounds_toArray, List.set_cons_zero, List.set_cons_succ])
      refine Ord.e_rowS (cs := ptC ⟨s1, (zn : Int), g1, m1⟩) (b := g) (o := off + k * 4) Tryz.underlying71 rfl (by kernel_rfl) rfl (by simp [ptC]) (fun w' hS => Hr.out w' hS) hb (by kernel_rfl) ?_
      (try simp only [Act.put, List.setIfInBounds_toArray, List.set_cons_zero, List.set_cons_succ])
      refine Ord.e_x rfl (by kernel_rfl) ?_
      go_wp2_with fail
      go_fit (Hfx.out wd)
      rintro e w2 ⟨rfl, hbx⟩
      replace hb := bnx hb hbx
      go_wp2_with fail
      refine Ord.Seg.go hb (fun h => by cases h) ?_
      (try simp only [Act.put, List.setIfInBounds_toArray, List.set_cons_zero, List.set_cons_succ])
      refine Ord.e_p (v := .int .i64 ((d : Nat) : Int)) rfl (by kernel_rfl) (fun w2 => by have hww := Hww.out; go_simp) ?_
      (try simp only [Act.put, List.setIfInBounds_toArray, List.set_cons_zero, List.set_cons_succ])
      refine Ord.e_p (v := .int .i64 ((s : Int) + (d : Int))) rfl (by kernel_rfl) (fun w2 => by have hw3 := Hw3.out; go_simp) ?_
      (try simp only [Act.put, List.setIfInBounds_toArray, List.set_cons_zero, List.set_cons_succ])
      ((with_reducible refine Ord.e_p (v := ?_) ?_ ?_ ?_ ?_); rotate_left; (· exact rfl); (· kernel_rfl); (· intro w2; go_simp; try with_reducible rfl))
      (try simp only [Act.put, List.setIfInBounds_toArray, List.set_cons_zero, List.set_cons_succ])
      refine Ord.e_nil ?_
      go_wp2
      go_roundw
      case rel => exact ⟨k + 1, s + d, by omega, by go_num, by go_num, Hsm, hd8, hb⟩
      case measure => simp [intOf]; omega
    · obtain rfl : k = n := by omega
      have he : s = wdS L := by rw [Hs.out, List.take_of_length_le (by rw [Hll.out]; exact Nat.le_refl _)]
      have He := Lib.hid he
      have hbf := bnx hb1 hb
      clear he
      go_wp2
      go_ret
      exact ⟨by rw [← He.out]; rfl, hbf⟩

end Go.Proofs.YtonejdjhdjckjaaGreat

/-
  words of a part's type walked (printed by gen_sch6.py).
-/
set_option linter.unusedSimpArgs false
set_option linter.unusedVariables false
namespace Go.Proofs.YtonejdjhdjckjaaGreat
open Go.RowKit NumLaw
attribute [local go_sem] Addr.add_mid
attribute [-go_sem] run_eql_struct run_neq_struct

/-- The word of a part's type. -/
def wordS (z : Int) (g : Bool) : ByteArray := if g = true then (if z = 8 then ⟨#[105, 110, 116, 54, 52, 95, 116]⟩ else if z = 4 then ⟨#[105, 110, 116, 51, 50, 95, 116]⟩ else if z = 2 then ⟨#[105, 110, 116, 49, 54, 95, 116]⟩ else ⟨#[105, 110, 116, 56, 95, 116]⟩) else (if z = 8 then ⟨#[117, 105, 110, 116, 54, 52, 95, 116]⟩ else if z = 4 then ⟨#[117, 105, 110, 116, 51, 50, 95, 116]⟩ else if z = 2 then ⟨#[117, 105, 110, 116, 49, 54, 95, 116]⟩ else ⟨#[117, 105, 110, 116, 56, 95, 116]⟩)
set_option maxRecDepth 10000 in
set_option maxHeartbeats 4000000 in
theorem digits64_any (w : World) : Calls Tryz.prog 96 #[.int .i64 64, .int .i64 1] w fun e w' => e = .returned (.string ⟨#[54, 52]⟩) ∧ Below w.heap.size w w' := by
  go_enter Tryz.func96, Tryz.ntmps96
  go_wp2_with fail
  go_loopw [0, 5] (fun n s wr => (∃ k : Nat, k ≤ 2 ∧ n = .int .i64 (([64, 6, 0] : List Int).getD k 0) ∧ s = .string (([⟨#[]⟩, ⟨#[52]⟩, ⟨#[54, 52]⟩] : List ByteArray).getD k default)) ∧ Below w.heap.size w wr) (fun n _ _ => (intOf n).toNat)
  case atStart => exact ⟨⟨0, by omega, rfl, rfl⟩, Below.refl _ _⟩
  case round =>
    obtain ⟨⟨k, hk, rfl, rfl⟩, hb⟩ := hrel
    rcases (show k = 0 ∨ k = 1 ∨ k = 2 by omega) with rfl | rfl | rfl
    · have hs : (([⟨#[]⟩, ⟨#[52]⟩, ⟨#[54, 52]⟩] : List ByteArray).getD 0 default) = ⟨#[]⟩ := rfl
      have hi : (([64, 6, 0] : List Int).getD 0 0) = 64 := rfl
      rw [hs, hi]
      have hrd : Rd (wr.alloc (.cells #[.int .u8 52] 5)) (wr.heap.size + 1) 1 (some ⟨wr.heap.size, 0, none⟩) 1 1 (bv [52]) := rd_const wr _ [52] (0, 0) (by simp [maxLen])
      have v1 := run_str _ 22 9 5 Tryz.underlying22 Tryz.underlying5 Tryz.underlying9 hrd
      have hbn : Below w.heap.size w (wr.alloc (.cells #[.int .u8 52] 5)) := hb.alloc hb.size _
      clear hrd hb
      go_wp2
      go_roundw
      case rel => exact ⟨⟨1, by omega, rfl, rfl⟩, hbn⟩
      case measure => simp [intOf]
    · have hs : (([⟨#[]⟩, ⟨#[52]⟩, ⟨#[54, 52]⟩] : List ByteArray).getD 1 default) = ⟨#[52]⟩ := rfl
      have hi : (([64, 6, 0] : List Int).getD 1 0) = 6 := rfl
      rw [hs, hi]
      have hrd : Rd (wr.alloc (.cells #[.int .u8 54] 5)) (wr.heap.size + 1) 1 (some ⟨wr.heap.size, 0, none⟩) 1 1 (bv [54]) := rd_const wr _ [54] (0, 0) (by simp [maxLen])
      have v1 := run_str _ 22 9 5 Tryz.underlying22 Tryz.underlying5 Tryz.underlying9 hrd
      have hbn : Below w.heap.size w (wr.alloc (.cells #[.int .u8 54] 5)) := hb.alloc hb.size _
      clear hrd hb
      go_wp2
      go_roundw
      case rel => exact ⟨⟨2, by omega, rfl, rfl⟩, hbn⟩
      case measure => simp [intOf]
    · have hs : (([⟨#[]⟩, ⟨#[52]⟩, ⟨#[54, 52]⟩] : List ByteArray).getD 2 default) = ⟨#[54, 52]⟩ := rfl
      have hi : (([64, 6, 0] : List Int).getD 2 0) = 0 := rfl
      rw [hs, hi]
      go_wp2
      go_ret
      exact ⟨rfl, hb⟩
set_option maxRecDepth 10000 in
set_option maxHeartbeats 4000000 in
theorem digits32_any (w : World) : Calls Tryz.prog 96 #[.int .i64 32, .int .i64 1] w fun e w' => e = .returned (.string ⟨#[51, 50]⟩) ∧ Below w.heap.size w w' := by
  go_enter Tryz.func96, Tryz.ntmps96
  go_wp2_with fail
  go_loopw [0, 5] (fun n s wr => (∃ k : Nat, k ≤ 2 ∧ n = .int .i64 (([32, 3, 0] : List Int).getD k 0) ∧ s = .string (([⟨#[]⟩, ⟨#[50]⟩, ⟨#[51, 50]⟩] : List ByteArray).getD k default)) ∧ Below w.heap.size w wr) (fun n _ _ => (intOf n).toNat)
  case atStart => exact ⟨⟨0, by omega, rfl, rfl⟩, Below.refl _ _⟩
  case round =>
    obtain ⟨⟨k, hk, rfl, rfl⟩, hb⟩ := hrel
    rcases (show k = 0 ∨ k = 1 ∨ k = 2 by omega) with rfl | rfl | rfl
    · have hs : (([⟨#[]⟩, ⟨#[50]⟩, ⟨#[51, 50]⟩] : List ByteArray).getD 0 default) = ⟨#[]⟩ := rfl
      have hi : (([32, 3, 0] : List Int).getD 0 0) = 32 := rfl
      rw [hs, hi]
      have hrd : Rd (wr.alloc (.cells #[.int .u8 50] 5)) (wr.heap.size + 1) 1 (some ⟨wr.heap.size, 0, none⟩) 1 1 (bv [50]) := rd_const wr _ [50] (0, 0) (by simp [maxLen])
      have v1 := run_str _ 22 9 5 Tryz.underlying22 Tryz.underlying5 Tryz.underlying9 hrd
      have hbn : Below w.heap.size w (wr.alloc (.cells #[.int .u8 50] 5)) := hb.alloc hb.size _
      clear hrd hb
      go_wp2
      go_roundw
      case rel => exact ⟨⟨1, by omega, rfl, rfl⟩, hbn⟩
      case measure => simp [intOf]
    · have hs : (([⟨#[]⟩, ⟨#[50]⟩, ⟨#[51, 50]⟩] : List ByteArray).getD 1 default) = ⟨#[50]⟩ := rfl
      have hi : (([32, 3, 0] : List Int).getD 1 0) = 3 := rfl
      rw [hs, hi]
      have hrd : Rd (wr.alloc (.cells #[.int .u8 51] 5)) (wr.heap.size + 1) 1 (some ⟨wr.heap.size, 0, none⟩) 1 1 (bv [51]) := rd_const wr _ [51] (0, 0) (by simp [maxLen])
      have v1 := run_str _ 22 9 5 Tryz.underlying22 Tryz.underlying5 Tryz.underlying9 hrd
      have hbn : Below w.heap.size w (wr.alloc (.cells #[.int .u8 51] 5)) := hb.alloc hb.size _
      clear hrd hb
      go_wp2
      go_roundw
      case rel => exact ⟨⟨2, by omega, rfl, rfl⟩, hbn⟩
      case measure => simp [intOf]
    · have hs : (([⟨#[]⟩, ⟨#[50]⟩, ⟨#[51, 50]⟩] : List ByteArray).getD 2 default) = ⟨#[51, 50]⟩ := rfl
      have hi : (([32, 3, 0] : List Int).getD 2 0) = 0 := rfl
      rw [hs, hi]
      go_wp2
      go_ret
      exact ⟨rfl, hb⟩
set_option maxRecDepth 10000 in
set_option maxHeartbeats 4000000 in
theorem digits16_any (w : World) : Calls Tryz.prog 96 #[.int .i64 16, .int .i64 1] w fun e w' => e = .returned (.string ⟨#[49, 54]⟩) ∧ Below w.heap.size w w' := by
  go_enter Tryz.func96, Tryz.ntmps96
  go_wp2_with fail
  go_loopw [0, 5] (fun n s wr => (∃ k : Nat, k ≤ 2 ∧ n = .int .i64 (([16, 1, 0] : List Int).getD k 0) ∧ s = .string (([⟨#[]⟩, ⟨#[54]⟩, ⟨#[49, 54]⟩] : List ByteArray).getD k default)) ∧ Below w.heap.size w wr) (fun n _ _ => (intOf n).toNat)
  case atStart => exact ⟨⟨0, by omega, rfl, rfl⟩, Below.refl _ _⟩
  case round =>
    obtain ⟨⟨k, hk, rfl, rfl⟩, hb⟩ := hrel
    rcases (show k = 0 ∨ k = 1 ∨ k = 2 by omega) with rfl | rfl | rfl
    · have hs : (([⟨#[]⟩, ⟨#[54]⟩, ⟨#[49, 54]⟩] : List ByteArray).getD 0 default) = ⟨#[]⟩ := rfl
      have hi : (([16, 1, 0] : List Int).getD 0 0) = 16 := rfl
      rw [hs, hi]
      have hrd : Rd (wr.alloc (.cells #[.int .u8 54] 5)) (wr.heap.size + 1) 1 (some ⟨wr.heap.size, 0, none⟩) 1 1 (bv [54]) := rd_const wr _ [54] (0, 0) (by simp [maxLen])
      have v1 := run_str _ 22 9 5 Tryz.underlying22 Tryz.underlying5 Tryz.underlying9 hrd
      have hbn : Below w.heap.size w (wr.alloc (.cells #[.int .u8 54] 5)) := hb.alloc hb.size _
      clear hrd hb
      go_wp2
      go_roundw
      case rel => exact ⟨⟨1, by omega, rfl, rfl⟩, hbn⟩
      case measure => simp [intOf]
    · have hs : (([⟨#[]⟩, ⟨#[54]⟩, ⟨#[49, 54]⟩] : List ByteArray).getD 1 default) = ⟨#[54]⟩ := rfl
      have hi : (([16, 1, 0] : List Int).getD 1 0) = 1 := rfl
      rw [hs, hi]
      have hrd : Rd (wr.alloc (.cells #[.int .u8 49] 5)) (wr.heap.size + 1) 1 (some ⟨wr.heap.size, 0, none⟩) 1 1 (bv [49]) := rd_const wr _ [49] (0, 0) (by simp [maxLen])
      have v1 := run_str _ 22 9 5 Tryz.underlying22 Tryz.underlying5 Tryz.underlying9 hrd
      have hbn : Below w.heap.size w (wr.alloc (.cells #[.int .u8 49] 5)) := hb.alloc hb.size _
      clear hrd hb
      go_wp2
      go_roundw
      case rel => exact ⟨⟨2, by omega, rfl, rfl⟩, hbn⟩
      case measure => simp [intOf]
    · have hs : (([⟨#[]⟩, ⟨#[54]⟩, ⟨#[49, 54]⟩] : List ByteArray).getD 2 default) = ⟨#[49, 54]⟩ := rfl
      have hi : (([16, 1, 0] : List Int).getD 2 0) = 0 := rfl
      rw [hs, hi]
      go_wp2
      go_ret
      exact ⟨rfl, hb⟩
set_option maxRecDepth 10000 in
set_option maxHeartbeats 4000000 in
theorem digits8_any (w : World) : Calls Tryz.prog 96 #[.int .i64 8, .int .i64 1] w fun e w' => e = .returned (.string ⟨#[56]⟩) ∧ Below w.heap.size w w' := by
  go_enter Tryz.func96, Tryz.ntmps96
  go_wp2_with fail
  go_loopw [0, 5] (fun n s wr => (∃ k : Nat, k ≤ 1 ∧ n = .int .i64 (([8, 0] : List Int).getD k 0) ∧ s = .string (([⟨#[]⟩, ⟨#[56]⟩] : List ByteArray).getD k default)) ∧ Below w.heap.size w wr) (fun n _ _ => (intOf n).toNat)
  case atStart => exact ⟨⟨0, by omega, rfl, rfl⟩, Below.refl _ _⟩
  case round =>
    obtain ⟨⟨k, hk, rfl, rfl⟩, hb⟩ := hrel
    rcases (show k = 0 ∨ k = 1 by omega) with rfl | rfl
    · have hs : (([⟨#[]⟩, ⟨#[56]⟩] : List ByteArray).getD 0 default) = ⟨#[]⟩ := rfl
      have hi : (([8, 0] : List Int).getD 0 0) = 8 := rfl
      rw [hs, hi]
      have hrd : Rd (wr.alloc (.cells #[.int .u8 56] 5)) (wr.heap.size + 1) 1 (some ⟨wr.heap.size, 0, none⟩) 1 1 (bv [56]) := rd_const wr _ [56] (0, 0) (by simp [maxLen])
      have v1 := run_str _ 22 9 5 Tryz.underlying22 Tryz.underlying5 Tryz.underlying9 hrd
      have hbn : Below w.heap.size w (wr.alloc (.cells #[.int .u8 56] 5)) := hb.alloc hb.size _
      clear hrd hb
      go_wp2
      go_roundw
      case rel => exact ⟨⟨1, by omega, rfl, rfl⟩, hbn⟩
      case measure => simp [intOf]
    · have hs : (([⟨#[]⟩, ⟨#[56]⟩] : List ByteArray).getD 1 default) = ⟨#[56]⟩ := rfl
      have hi : (([8, 0] : List Int).getD 1 0) = 0 := rfl
      rw [hs, hi]
      go_wp2
      go_ret
      exact ⟨rfl, hb⟩
set_option maxRecDepth 10000 in
set_option maxHeartbeats 4000000 in
theorem word_any (p : PtT) (hz : szQ p.sz) (w : World) : Calls Tryz.prog 48 #[.agg (ptC p).toArray] w fun e w' => e = .returned (.string (wordS p.sz p.sg)) ∧ Below w.heap.size w w' := by
  obtain ⟨s, z, g, m⟩ := p
  have hz : szQ z := hz
  show Calls _ _ #[.agg #[.string s, .int .i64 z, .bool g, .int .i64 m]] _ (fun e w' => e = .returned (.string (wordS z g)) ∧ Below w.heap.size w w')
  rcases hz with rfl | rfl | rfl | rfl <;> cases g
  all_goals
    go_enter Tryz.func48, Tryz.ntmps48
    go_wp2
    go_ret
    exact ⟨rfl, ((Below.refl _ _).alloc (Nat.le_refl _) _).alloc (by simp) _⟩
set_option maxRecDepth 10000 in
set_option maxHeartbeats 4000000 in
theorem qword_any (p : PtT) (hz : szQ p.sz) (w : World) : Calls Tryz.prog 66 #[.agg (ptC p).toArray] w fun e w' => e = .returned (.string (wordS p.sz p.sg)) ∧ Below w.heap.size w w' := by
  obtain ⟨s, z, g, m⟩ := p
  have hz : szQ z := hz
  show Calls _ _ #[.agg #[.string s, .int .i64 z, .bool g, .int .i64 m]] _ (fun e w' => e = .returned (.string (wordS z g)) ∧ Below w.heap.size w w')
  rcases hz with rfl | rfl | rfl | rfl <;> cases g
  · have hb := (Below.refl w.heap.size w).alloc (Nat.le_refl _) (.cells #[.string s, .int .i64 8, .bool false, .int .i64 m] 71)
    have a0 := heap_alloc_new w (.cells #[.string s, .int .i64 8, .bool false, .int .i64 m] 71)
    have k2 := blk_cell (i := 2) (v := .bool false) a0 rfl
    have hlt := blk_lt a0
    go_enter Tryz.func66, Tryz.ntmps66
    go_wp2_with fail
    go_fit (digits64_any _)
    rintro e w1 ⟨rfl, hbx⟩
    have hb1 := bnx hb hbx
    have q2 := (hbx.cell (p := ⟨w.heap.size, 2, none⟩) hlt).trans k2
    go_wp2
    go_ret
    exact ⟨rfl, hb1⟩
  · have hb := (Below.refl w.heap.size w).alloc (Nat.le_refl _) (.cells #[.string s, .int .i64 8, .bool true, .int .i64 m] 71)
    have a0 := heap_alloc_new w (.cells #[.string s, .int .i64 8, .bool true, .int .i64 m] 71)
    have k2 := blk_cell (i := 2) (v := .bool true) a0 rfl
    have hlt := blk_lt a0
    go_enter Tryz.func66, Tryz.ntmps66
    go_wp2_with fail
    go_fit (digits64_any _)
    rintro e w1 ⟨rfl, hbx⟩
    have hb1 := bnx hb hbx
    have q2 := (hbx.cell (p := ⟨w.heap.size, 2, none⟩) hlt).trans k2
    go_wp2
    go_ret
    exact ⟨rfl, hb1⟩
  · have hb := (Below.refl w.heap.size w).alloc (Nat.le_refl _) (.cells #[.string s, .int .i64 4, .bool false, .int .i64 m] 71)
    have a0 := heap_alloc_new w (.cells #[.string s, .int .i64 4, .bool false, .int .i64 m] 71)
    have k2 := blk_cell (i := 2) (v := .bool false) a0 rfl
    have hlt := blk_lt a0
    go_enter Tryz.func66, Tryz.ntmps66
    go_wp2_with fail
    go_fit (digits32_any _)
    rintro e w1 ⟨rfl, hbx⟩
    have hb1 := bnx hb hbx
    have q2 := (hbx.cell (p := ⟨w.heap.size, 2, none⟩) hlt).trans k2
    go_wp2
    go_ret
    exact ⟨rfl, hb1⟩
  · have hb := (Below.refl w.heap.size w).alloc (Nat.le_refl _) (.cells #[.string s, .int .i64 4, .bool true, .int .i64 m] 71)
    have a0 := heap_alloc_new w (.cells #[.string s, .int .i64 4, .bool true, .int .i64 m] 71)
    have k2 := blk_cell (i := 2) (v := .bool true) a0 rfl
    have hlt := blk_lt a0
    go_enter Tryz.func66, Tryz.ntmps66
    go_wp2_with fail
    go_fit (digits32_any _)
    rintro e w1 ⟨rfl, hbx⟩
    have hb1 := bnx hb hbx
    have q2 := (hbx.cell (p := ⟨w.heap.size, 2, none⟩) hlt).trans k2
    go_wp2
    go_ret
    exact ⟨rfl, hb1⟩
  · have hb := (Below.refl w.heap.size w).alloc (Nat.le_refl _) (.cells #[.string s, .int .i64 2, .bool false, .int .i64 m] 71)
    have a0 := heap_alloc_new w (.cells #[.string s, .int .i64 2, .bool false, .int .i64 m] 71)
    have k2 := blk_cell (i := 2) (v := .bool false) a0 rfl
    have hlt := blk_lt a0
    go_enter Tryz.func66, Tryz.ntmps66
    go_wp2_with fail
    go_fit (digits16_any _)
    rintro e w1 ⟨rfl, hbx⟩
    have hb1 := bnx hb hbx
    have q2 := (hbx.cell (p := ⟨w.heap.size, 2, none⟩) hlt).trans k2
    go_wp2
    go_ret
    exact ⟨rfl, hb1⟩
  · have hb := (Below.refl w.heap.size w).alloc (Nat.le_refl _) (.cells #[.string s, .int .i64 2, .bool true, .int .i64 m] 71)
    have a0 := heap_alloc_new w (.cells #[.string s, .int .i64 2, .bool true, .int .i64 m] 71)
    have k2 := blk_cell (i := 2) (v := .bool true) a0 rfl
    have hlt := blk_lt a0
    go_enter Tryz.func66, Tryz.ntmps66
    go_wp2_with fail
    go_fit (digits16_any _)
    rintro e w1 ⟨rfl, hbx⟩
    have hb1 := bnx hb hbx
    have q2 := (hbx.cell (p := ⟨w.heap.size, 2, none⟩) hlt).trans k2
    go_wp2
    go_ret
    exact ⟨rfl, hb1⟩
  · have hb := (Below.refl w.heap.size w).alloc (Nat.le_refl _) (.cells #[.string s, .int .i64 1, .bool false, .int .i64 m] 71)
    have a0 := heap_alloc_new w (.cells #[.string s, .int .i64 1, .bool false, .int .i64 m] 71)
    have k2 := blk_cell (i := 2) (v := .bool false) a0 rfl
    have hlt := blk_lt a0
    go_enter Tryz.func66, Tryz.ntmps66
    go_wp2_with fail
    go_fit (digits8_any _)
    rintro e w1 ⟨rfl, hbx⟩
    have hb1 := bnx hb hbx
    have q2 := (hbx.cell (p := ⟨w.heap.size, 2, none⟩) hlt).trans k2
    go_wp2
    go_ret
    exact ⟨rfl, hb1⟩
  · have hb := (Below.refl w.heap.size w).alloc (Nat.le_refl _) (.cells #[.string s, .int .i64 1, .bool true, .int .i64 m] 71)
    have a0 := heap_alloc_new w (.cells #[.string s, .int .i64 1, .bool true, .int .i64 m] 71)
    have k2 := blk_cell (i := 2) (v := .bool true) a0 rfl
    have hlt := blk_lt a0
    go_enter Tryz.func66, Tryz.ntmps66
    go_wp2_with fail
    go_fit (digits8_any _)
    rintro e w1 ⟨rfl, hbx⟩
    have hb1 := bnx hb hbx
    have q2 := (hbx.cell (p := ⟨w.heap.size, 2, none⟩) hlt).trans k2
    go_wp2
    go_ret
    exact ⟨rfl, hb1⟩

end Go.Proofs.YtonejdjhdjckjaaGreat

/-
  Extra: the plain law, bytes of a string walked (printed by gen_sch6.py).
-/
set_option linter.unusedSimpArgs false
set_option linter.unusedVariables false
namespace Go.Proofs.YtonejdjhdjckjaaGreat
open Go.RowKit NumLaw
attribute [local go_sem] Addr.add_mid
attribute [-go_sem] run_eql_struct run_neq_struct

open CrcLaw
/-- The bytes of a string. -/
def sbL (s : ByteArray) : List UInt8 := s.data.toList
theorem sb_app (a b : ByteArray) : sbL (a ++ b) = sbL a ++ sbL b := by simp [sbL, ByteArray.data_append]
theorem rd_bytes (w : World) (e : TypeId) (s : ByteArray) (hm : s.size ≤ maxLen) : Rd (Lib.bytesWorld w e s) (w.heap.size + 1) 1 (some ⟨w.heap.size, 0, none⟩) s.size (grownCap w s.size 0 e) (bv (sbL s)) := by
  refine ⟨by rw [bv_len, Nat.mul_one]; exact Array.length_toList, grownCap_ge _ _ _ _, grownCap_le_maxLen _ _ _ _ hm, fun _ => ⟨_, rfl, Nat.lt_succ_self _, fun j u hu => ?_⟩⟩
  have e1 : (⟨w.heap.size, 0, none⟩ : Addr).add j = ⟨w.heap.size, j, none⟩ := by unfold Addr.add; split <;> simp_all
  have hj : j < s.data.toList.length := by have := (List.getElem?_eq_some_iff.1 hu).1; simpa [bv, sbL] using this
  rw [e1, Lib.bytesWorld_cell w e s j (by rw [Array.length_toList] at hj; exact hj)]
  unfold bv sbL at hu
  rw [List.getElem?_map, List.getElem?_eq_getElem hj] at hu
  injection hu with hu
  rw [← hu, List.getD_eq_getElem?_getD, List.getElem?_eq_getElem hj]
  rfl
theorem below_bytes (w : World) (e : TypeId) (s : ByteArray) : Below w.heap.size w (Lib.bytesWorld w e s) := ⟨rfl, rfl, rfl, by rw [Lib.bytesWorld_size]; omega, fun k hk => Lib.bytesWorld_at_old w e s k hk⟩
/-- What a part tells, and what a message tells. -/
def emS (x : PtT) : ByteArray := wordS x.sz x.sg ++ ⟨#[32]⟩ ++ x.nm ++ ⟨#[32]⟩
def emL (x : PtT) : List UInt8 := sbL (emS x) ++ if 0 < x.mn then [UInt8.ofNat x.mn.toNat] else []
def exB (p : FmT) : List UInt8 := sbL (p.1 ++ ⟨#[32]⟩) ++ (stb PtT.sz p.2).flatMap emL
def exS (p : FmT) : Int := if p.1.toList.isEmpty = true then 0 else ((moreN 65535 (exB p) % 256) ^^^ (moreN 65535 (exB p) / 256) : Nat)
theorem word_le {z : Int} (h : szQ z) (g : Bool) : (wordS z g).size ≤ 8 := by rcases h with rfl | rfl | rfl | rfl <;> cases g <;> decide
theorem emS_le {x : PtT} (h : szQ x.sz) (hn : x.nm.size ≤ 100) : (emS x).size ≤ 200 := by
  have := word_le h x.sg
  unfold emS
  rw [ByteArray.size_append, ByteArray.size_append, ByteArray.size_append]
  have : (⟨#[32]⟩ : ByteArray).size = 1 := rfl
  omega
def NmQ (p : FmT) : Prop := p.1.size ≤ 100 ∧ (∀ x ∈ p.2, x.nm.size ≤ 100) ∧ (p.1.toList.isEmpty = p.2.isEmpty)
theorem frm_nm (id : Int) : NmQ (frm id) := by
  have hN : ∀ p : FmT, p.1.size ≤ 100 → (p.2.all fun x => decide (x.nm.size ≤ 100)) = true → p.1.toList.isEmpty = p.2.isEmpty → NmQ p := fun p h1 h2 h3 => by
    rw [List.all_eq_true] at h2
    exact ⟨h1, fun x hx => of_decide_eq_true (h2 x hx), h3⟩
  rcases frm_at id with ⟨_, hf⟩ | ⟨_, hf⟩ | ⟨_, hf⟩ | ⟨_, hf⟩ | ⟨_, hf⟩ | ⟨_, hf⟩ | ⟨_, hf⟩ | ⟨_, hf⟩ | ⟨_, hf⟩ | ⟨_, hf⟩ | ⟨_, hf⟩ | ⟨_, hf⟩ | ⟨_, hf⟩ | ⟨_, hf⟩ | ⟨_, hf⟩ | ⟨_, hf⟩ | ⟨_, hf⟩ | ⟨_, hf⟩ | ⟨_, hf⟩ | ⟨_, hf⟩ | ⟨_, hf⟩ | ⟨_, hf⟩ | ⟨hf, _⟩
  · rw [hf]
    exact hN _ (by decide) (by decide) (ba_full (by intro h2; exact absurd (congrArg (fun b : ByteArray => b.data.size) h2) (by decide)))
  · rw [hf]
    exact hN _ (by decide) (by decide) (ba_full (by intro h2; exact absurd (congrArg (fun b : ByteArray => b.data.size) h2) (by decide)))
  · rw [hf]
    exact hN _ (by decide) (by decide) (ba_full (by intro h2; exact absurd (congrArg (fun b : ByteArray => b.data.size) h2) (by decide)))
  · rw [hf]
    exact hN _ (by decide) (by decide) (ba_full (by intro h2; exact absurd (congrArg (fun b : ByteArray => b.data.size) h2) (by decide)))
  · rw [hf]
    exact hN _ (by decide) (by decide) (ba_full (by intro h2; exact absurd (congrArg (fun b : ByteArray => b.data.size) h2) (by decide)))
  · rw [hf]
    exact hN _ (by decide) (by decide) (ba_full (by intro h2; exact absurd (congrArg (fun b : ByteArray => b.data.size) h2) (by decide)))
  · rw [hf]
    exact hN _ (by decide) (by decide) (ba_full (by intro h2; exact absurd (congrArg (fun b : ByteArray => b.data.size) h2) (by decide)))
  · rw [hf]
    exact hN _ (by decide) (by decide) (ba_full (by intro h2; exact absurd (congrArg (fun b : ByteArray => b.data.size) h2) (by decide)))
  · rw [hf]
    exact hN _ (by decide) (by decide) (ba_full (by intro h2; exact absurd (congrArg (fun b : ByteArray => b.data.size) h2) (by decide)))
  · rw [hf]
    exact hN _ (by decide) (by decide) (ba_full (by intro h2; exact absurd (congrArg (fun b : ByteArray => b.data.size) h2) (by decide)))
  · rw [hf]
    exact hN _ (by decide) (by decide) (ba_full (by intro h2; exact absurd (congrArg (fun b : ByteArray => b.data.size) h2) (by decide)))
  · rw [hf]
    exact hN _ (by decide) (by decide) (ba_full (by intro h2; exact absurd (congrArg (fun b : ByteArray => b.data.size) h2) (by decide)))
  · rw [hf]
    exact hN _ (by decide) (by decide) (ba_full (by intro h2; exact absurd (congrArg (fun b : ByteArray => b.data.size) h2) (by decide)))
  · rw [hf]
    exact hN _ (by decide) (by decide) (ba_full (by intro h2; exact absurd (congrArg (fun b : ByteArray => b.data.size) h2) (by decide)))
  · rw [hf]
    exact hN _ (by decide) (by decide) (ba_full (by intro h2; exact absurd (congrArg (fun b : ByteArray => b.data.size) h2) (by decide)))
  · rw [hf]
    exact hN _ (by decide) (by decide) (ba_full (by intro h2; exact absurd (congrArg (fun b : ByteArray => b.data.size) h2) (by decide)))
  · rw [hf]
    exact hN _ (by decide) (by decide) (ba_full (by intro h2; exact absurd (congrArg (fun b : ByteArray => b.data.size) h2) (by decide)))
  · rw [hf]
    exact hN _ (by decide) (by decide) (ba_full (by intro h2; exact absurd (congrArg (fun b : ByteArray => b.data.size) h2) (by decide)))
  · rw [hf]
    exact hN _ (by decide) (by decide) (ba_full (by intro h2; exact absurd (congrArg (fun b : ByteArray => b.data.size) h2) (by decide)))
  · rw [hf]
    exact hN _ (by decide) (by decide) (ba_full (by intro h2; exact absurd (congrArg (fun b : ByteArray => b.data.size) h2) (by decide)))
  · rw [hf]
    exact hN _ (by decide) (by decide) (ba_full (by intro h2; exact absurd (congrArg (fun b : ByteArray => b.data.size) h2) (by decide)))
  · rw [hf]
    exact hN _ (by decide) (by decide) (ba_full (by intro h2; exact absurd (congrArg (fun b : ByteArray => b.data.size) h2) (by decide)))
  · rw [hf]
    exact hN _ (by decide) (by decide) (ba_empty rfl)

end Go.Proofs.YtonejdjhdjckjaaGreat

/-
  schema.Put walked (printed by gen_sch6.py).
-/
set_option linter.unusedSimpArgs false
set_option linter.unusedVariables false
namespace Go.Proofs.YtonejdjhdjckjaaGreat
open Go.RowKit NumLaw
attribute [local go_sem] Addr.add_mid
attribute [-go_sem] run_eql_struct run_neq_struct

/-- What Put and Take of a message tell. -/
def sPE (p : FmT) (v : List Int) : Nat := if p.1.toList.isEmpty = true then 6 else putSE p.2 v
def sPB (p : FmT) (v : List Int) : List UInt8 := if p.1.toList.isEmpty = true then [] else putSB p.2 v
def sTE (p : FmT) (b : List UInt8) : Nat := if p.1.toList.isEmpty = true then 6 else takSE p.2 b
def sTV (p : FmT) (b : List UInt8) : List Int := if p.1.toList.isEmpty = true then [] else takSV p.2 b
theorem sl_at {Z : List SlT} {w : World} {B : Nat} {A : Option Addr} {n c : Nat} (h : RdR w B 3 A n c (Z.map slC)) {k : Nat} (hk : k < n) : ∃ g off x, A = some ⟨g, off, none⟩ ∧ g < B ∧ Z[k]? = some x ∧ w.rangeAt g (off + k * 3) (slC x) := by
  obtain ⟨g, off, r, h1, h2, h3, h4, h5⟩ := RdR.at_ h hk
  rw [List.getElem?_map] at h3
  cases hz : Z[k]? with
  | none => rw [hz] at h3; cases h3
  | some x =>
    rw [hz] at h3
    injection h3 with h3
    subst h3
    exact ⟨g, off, x, h1, h2, rfl, h5⟩
theorem set_take {α : Type} {cur V : List α} {k n : Nat} {x : α} (hl : cur.length = n) (hk : k < n) (ht : cur.take k = V.take k) (hx : V[k]? = some x) : (cur.set k x).take (k + 1) = V.take (k + 1) := by
  rw [take_succ hx, ← ht]
  have h1 : (cur.set k x)[k]? = some x := by rw [List.getElem?_set_self (by omega)]
  rw [take_succ h1, List.take_set_of_le (Nat.le_refl _)]
set_option maxRecDepth 20000 in
set_option maxHeartbeats 8000000 in
theorem put31_any (id : Int) (A' : Option Addr) (n' c' : Nat) (v : List Int) (w : World) (h : Rd w w.heap.size 1 A' n' c' (v.map (Value.int .i64))) (hvb : ∀ x ∈ v, -9223372036854775808 ≤ x ∧ x ≤ 9223372036854775807) :
    Calls Tryz.prog 20 #[.int .i64 id, .slice A' n' c'] w (RetPS w (sPB (frm id) v) (sPE (frm id) v)) := by
  have hf := find_any id w
  have hN := frm_n id
  have hM := frm_nm id
  have hC := frm_cnt id
  have hlv : v.length = n' := by have := h.len; simpa using this
  have hmx := h.max
  have hle := h.le
  unfold maxLen at hmx
  generalize frm id = p at *
  obtain ⟨nm, L⟩ := p
  obtain ⟨m, hm⟩ : ∃ m, m = cntS L := ⟨_, rfl⟩
  have hs := fun A n c w h => slots_any nm A n c L w h hN (Nat.le_trans hC (by omega))
  have hC' : m ≤ 300 := by rw [hm]; exact hC
  rw [← hm] at hs
  have Hf := Lib.hid hf
  have Hs := Lib.hid hs
  have HN := Lib.hid hN
  have HM := Lib.hid hM
  have Hm := Lib.hid hm
  have Hwl : Hid ((wireS L).length = m) := Lib.hid (by rw [wire_len, hm])
  have Hat := Lib.hid (fun s (hs : s ∈ wireS L) => (show s.2.2 < m by rw [hm]; exact (ats_mem L s.2.2).1 (List.mem_map.2 ⟨s, hs, rfl⟩)))
  clear hf hs hC hm
  cases hem : nm.toList.isEmpty with
  | true =>
    have hv : sPB (nm, L) v = [] ∧ sPE (nm, L) v = 6 := by unfold sPB sPE; rw [if_pos hem, if_pos hem]; exact ⟨rfl, rfl⟩
    have Hv := Lib.hid hv
    clear hv hN hM hlv
    go_enter Tryz.func20, Tryz.ntmps20
    go_wp2_with fail
    go_fit Hf.out
    unfold RetFm
    rintro e w1 ⟨A, n, c, rfl, hr, hb⟩
    have a0 := heap_alloc_new w1 (.cells #[.string nm, .slice A n c] 57)
    have k0 := blk_cell (i := 0) (v := .string nm) a0 rfl
    have k1 := blk_cell (i := 1) (v := .slice A n c) a0 rfl
    have hba : Below w1.heap.size w1 (w1.alloc (.cells #[.string nm, .slice A n c] 57)) := (Below.refl _ _).alloc (Nat.le_refl _) _
    have hb2 := bnx hb hba
    have hlt := blk_lt a0
    have hr2 := RdR.more (RdR.up hr hba) hba.size
    clear hr hb hba a0
    go_wp2_with fail
    generalize (w1.alloc (.cells #[.string nm, .slice A n c] 57)) = w2 at *
    go_fit (Hs.out A n c w2 hr2)
    rintro e w3 ⟨A1, c1, A2, c2, rfl, hr3, hf3, hbx⟩
    have hb3 := bnx hb2 hbx
    have q0 := (hbx.cell (p := ⟨w1.heap.size, 0, none⟩) hlt).trans k0
    clear k0 k1 hbx hb2
    go_wp2
    go_ret2
    rw [Hv.out.1, Hv.out.2]
    exact ⟨none, 0, 0, rfl, World.ownsRow_nil _ _ _ _, hb3⟩
  | false =>
    have hv : sPB (nm, L) v = putSB L v ∧ sPE (nm, L) v = putSE L v := by unfold sPB sPE; rw [if_neg (by rw [hem]; exact Bool.false_ne_true), if_neg (by rw [hem]; exact Bool.false_ne_true)]; exact ⟨rfl, rfl⟩
    have Hv := Lib.hid hv
    clear hv hN hM
    by_cases hnm : n' = m
    case neg =>
      have hv2 : putSB L v = [] ∧ putSE L v = 1 := by
        have : ¬ v.length = cntS L := by rw [hlv, ← Hm.out]; exact hnm
        unfold putSB putSE; rw [if_neg this, if_neg this]; exact ⟨rfl, rfl⟩
      have Hv2 := Lib.hid hv2
      have hnq : ((n' : Int) != (m : Int)) = true := by simp; omega
      clear hv2 hlv
      go_enter Tryz.func20, Tryz.ntmps20
      go_wp2_with fail
      go_fit Hf.out
      unfold RetFm
      rintro e w1 ⟨A, n, c, rfl, hr, hb⟩
      have a0 := heap_alloc_new w1 (.cells #[.string nm, .slice A n c] 57)
      have k0 := blk_cell (i := 0) (v := .string nm) a0 rfl
      have k1 := blk_cell (i := 1) (v := .slice A n c) a0 rfl
      have hba : Below w1.heap.size w1 (w1.alloc (.cells #[.string nm, .slice A n c] 57)) := (Below.refl _ _).alloc (Nat.le_refl _) _
      have hb2 := bnx hb hba
      have hlt := blk_lt a0
      have hr2 := RdR.more (RdR.up hr hba) hba.size
      clear hr hb hba a0
      go_wp2_with fail
      generalize (w1.alloc (.cells #[.string nm, .slice A n c] 57)) = w2 at *
      go_fit (Hs.out A n c w2 hr2)
      rintro e w3 ⟨A1, c1, A2, c2, rfl, hr3, hf3, hbx⟩
      have hb3 := bnx hb2 hbx
      have q0 := (hbx.cell (p := ⟨w1.heap.size, 0, none⟩) hlt).trans k0
      clear k0 k1 hbx hb2
      go_wp2
      go_ret2
      rw [Hv.out.1, Hv.out.2, Hv2.out.1, Hv2.out.2]
      exact ⟨none, 0, 0, rfl, World.ownsRow_nil _ _ _ _, hb3⟩
    have hnq : ((n' : Int) != (m : Int)) = false := by simp; omega
    have hv2 : putSB L v = shP ((wireS L).map fldOf) ((wireS L).map (valOf v)) ∧ putSE L v = shE ((wireS L).map fldOf) ((wireS L).map (valOf v)) := by
      have : v.length = cntS L := by rw [hlv, ← Hm.out]; exact hnm
      unfold putSB putSE; rw [if_pos this, if_pos this]; exact ⟨rfl, rfl⟩
    have Hv2 := Lib.hid hv2
    have Hval := Lib.hid (fun (k : Nat) (s : SlT) (x : Int) (hs : (wireS L)[k]? = some s) (hx : v[s.2.2]? = some x) => (show ((wireS L).map (valOf v))[k]? = some x by rw [List.getElem?_map, hs]; show some (v.getD s.2.2 0) = _; rw [List.getD_eq_getElem?_getD, hx]; rfl))
    have Hvb2 : Hid (∀ x ∈ (wireS L).map (valOf v), -9223372036854775808 ≤ x ∧ x ≤ 9223372036854775807) := Lib.hid (fun x hx => by
      obtain ⟨s, hs, rfl⟩ := List.mem_map.1 hx
      show -9223372036854775808 ≤ v.getD s.2.2 0 ∧ v.getD s.2.2 0 ≤ 9223372036854775807
      rw [List.getD_eq_getElem?_getD]
      cases hg : v[s.2.2]? with
      | none => exact ⟨by decide, by decide⟩
      | some y => exact hvb y (List.mem_of_getElem? hg))
    have Hvl : Hid (((wireS L).map (valOf v)).length = m) := Lib.hid (by rw [List.length_map, Hwl.out])
    have hmk := run_make_row' (P := Tryz.prog) 24 2 (.int .i64 0) 8 Tryz.underlying24 i64_info rfl .i64 .i64 m (by omega) (by omega)
    rw [made_rep'] at hmk
    obtain ⟨z, hz⟩ : ∃ z, z = List.replicate m (Value.int .i64 0) := ⟨_, rfl⟩
    rw [← hz] at hmk
    have hzl : z.length = m := by rw [hz]; simp
    have Hzl := Lib.hid hzl
    have Hlv := Lib.hid hlv
    clear hzl hz hv2 hlv hvb
    go_enter Tryz.func20, Tryz.ntmps20
    go_wp2_with fail
    go_fit Hf.out
    unfold RetFm
    rintro e w1 ⟨A, n, c, rfl, hr, hb⟩
    have a0 := heap_alloc_new w1 (.cells #[.string nm, .slice A n c] 57)
    have k0 := blk_cell (i := 0) (v := .string nm) a0 rfl
    have k1 := blk_cell (i := 1) (v := .slice A n c) a0 rfl
    have hba : Below w1.heap.size w1 (w1.alloc (.cells #[.string nm, .slice A n c] 57)) := (Below.refl _ _).alloc (Nat.le_refl _) _
    have hb2 := bnx hb hba
    have hlt := blk_lt a0
    have hr2 := RdR.more (RdR.up hr hba) hba.size
    clear hr hb hba a0
    go_wp2_with fail
    generalize (w1.alloc (.cells #[.string nm, .slice A n c] 57)) = w2 at *
    go_fit (Hs.out A n c w2 hr2)
    rintro e w3 ⟨A1, c1, A2, c2, rfl, hr3, hf3, hbx⟩
    have hb3 := bnx hb2 hbx
    have q0 := (hbx.cell (p := ⟨w1.heap.size, 0, none⟩) hlt).trans k0
    have hmx3 := hr3.2.2.2.1
    have hle3 := hr3.2.2.1
    unfold maxLen at hmx3
    have hb4 : Below w3.heap.size w3 (w3.alloc (.cells z.toArray 2)) := (Below.refl _ _).alloc (Nat.le_refl _) _
    have hgm := heap_alloc_new w3 (.cells z.toArray 2)
    generalize wireS L = Z at *
    generalize Z.map (valOf v) = V at *
    clear k0 k1 hbx hb2 hr2 hlt Hs Hf HN HM
    go_wp2_with fail
    generalize (w3.alloc (.cells z.toArray 2)) = w4 at *
    obtain ⟨gm, hgg⟩ : ∃ gm, gm = w3.heap.size := ⟨_, rfl⟩
    have Hgg := Lib.hid hgg
    rw [← hgg] at hgm ⊢
    clear hgg q0 hmk
    go_loopw [34] (fun i wr => ∃ (k : Nat) (cur : List Value), k ≤ m ∧ i = .int .i64 k ∧ Below w3.heap.size w3 wr ∧ wr.heap[gm]? = some (.cells cur.toArray 2) ∧ Hid (cur.length = m) ∧ Hid (cur.take k = (V.map (Value.int .i64)).take k)) (fun i _ => m - (intOf i).toNat)
    case atStart => exact ⟨0, z, by omega, rfl, hb4, hgm, Hzl, Lib.hid rfl⟩
    case round =>
      clear hb4 hgm w4
      obtain ⟨k, cur, hk, rfl, hb, hgm, Hcl, Hct⟩ := hrel
      have hgml := blk_lt hgm
      by_cases hlt : k < m
      · have hlt' : (k : Int) < (m : Int) := by omega
        obtain ⟨g, off, x, rfl, hg, hx, hr⟩ := sl_at hr3 hlt
        have k0 := (hb.cell (p := ⟨g, off + k * 3 + 0, none⟩) hg).trans (hr 0 _ rfl)
        have k1 := (hb.cell (p := ⟨g, off + k * 3 + 1, none⟩) hg).trans (hr 1 _ rfl)
        have k2 := (hb.cell (p := ⟨g, off + k * 3 + 2, none⟩) hg).trans (hr 2 _ rfl)
        rw [Nat.add_zero] at k0
        have hat := Hat.out x (List.mem_of_getElem? hx)
        obtain ⟨ad, y, rfl, hy, hcy, hady⟩ := num_at h (show x.2.2 < n' by omega)
        have hxy := Hval.out k x y hx hy
        obtain ⟨z1, g1, at1⟩ := x
        dsimp only at k0 k1 k2 hat hcy
        have hat' : (at1 : Int) < (n' : Int) := by omega
        have hbw := bnx hb3 hb
        have hcu : cur[k]? = some (cur[k]'(by rw [Hcl.out]; exact hlt)) := List.getElem?_eq_getElem _
        generalize (cur[k]'(by rw [Hcl.out]; exact hlt)) = uo at hcu
        have e1 := blk_cell (i := k) (v := uo) hgm (by rw [List.getElem?_toArray]; exact hcu)
        have e2 := blk_free (i := k) hgm
        have hgms := blk_set (i := k) hgm (.int .i64 y)
        rw [List.setIfInBounds_toArray] at hgms
        have hbs := hb.setCell (p := ⟨gm, k, none⟩) (by rw [Hgg.out]; exact Nat.le_refl _) (.int .i64 y)
        have ky := (hbw.cell (p := ad.add at1) (by rw [blk_add]; exact hady)).trans hcy
        have a0 := heap_alloc_new wr (.cells #[.int .i64 z1, .bool g1, .int .i64 (at1 : Int)] 65)
        have d2 := blk_cell (i := 2) (v := .int .i64 (at1 : Int)) a0 rfl
        have hbn : Below wr.heap.size wr (wr.alloc (.cells #[.int .i64 z1, .bool g1, .int .i64 (at1 : Int)] 65)) := (Below.refl _ _).alloc (Nat.le_refl _) _
        have ky2 := (hbn.cell (p := ad.add at1) (by rw [blk_add]; have := hbw.size; omega)).trans ky
        have e3 := (hbn.cell (p := ⟨gm, k, none⟩) hgml).trans e1
        have hbn2 : Below (wr.setCell ⟨gm, k, none⟩ (.int .i64 y)).heap.size (wr.setCell ⟨gm, k, none⟩ (.int .i64 y)) ((wr.setCell ⟨gm, k, none⟩ (.int .i64 y)).alloc (.cells #[.int .i64 z1, .bool g1, .int .i64 (at1 : Int)] 65)) := (Below.refl _ _).alloc (Nat.le_refl _) _
        have hb5 := bnx hbs hbn2
        have hgm5 := (heap_alloc_old (wr.setCell ⟨gm, k, none⟩ (.int .i64 y)) (.cells #[.int .i64 z1, .bool g1, .int .i64 (at1 : Int)] 65) (blk_lt hgms)).trans hgms
        have Hcl5 : Hid ((cur.set k (.int .i64 y)).length = m) := Lib.hid (by rw [List.length_set]; exact Hcl.out)
        have Hct5 : Hid ((cur.set k (.int .i64 y)).take (k + 1) = (V.map (Value.int .i64)).take (k + 1)) := Lib.hid (set_take Hcl.out hlt Hct.out (by rw [List.getElem?_map, hxy]; rfl))
        clear hx hr hy hcy hxy hbn hbn2 a0 hbw hgm hgms hbs hcu hb
        go_wp2
        go_roundw
        case rel => exact ⟨k + 1, _, by omega, by go_num, hb5, hgm5, Hcl5, Hct5⟩
        case measure => simp [intOf]; omega
      · obtain rfl : k = m := by omega
        have hcv : cur = V.map (Value.int .i64) := by
          have h1 := Hct.out
          rwa [List.take_of_length_le (by rw [Hcl.out]; exact Nat.le_refl _), List.take_of_length_le (by rw [List.length_map, Hvl.out]; exact Nat.le_refl _)] at h1
        subst hcv
        have hrd := Rd.own (own_blkAll' (base := 0) hgm (Nat.zero_le _) Hcl.out (by unfold maxLen; omega))
        have hrf := RdF.up hf3 hb
        have hbf := bnx hb3 hb
        have hsz := hb.size
        clear hgm hb hf3 hr3 hb3
        go_wp2_with fail
        go_fit (shPut_any A2 k c2 w3.heap.size _ _ k k _ V wr hrf hsz hrd (Nat.le_refl _) (by omega) Hvb2.out)
        rintro e w5 ⟨A5, n5, c5, rfl, own5, hbx⟩
        have hbz := bnx hbf hbx
        have own6 := own_mono own5 hbf.size
        clear hbx hbf own5 hrd hrf
        go_wp2
        go_ret2
        rw [Hv.out.1, Hv.out.2, Hv2.out.1, Hv2.out.2]
        exact ⟨A5, n5, c5, rfl, own6, hbz⟩

end Go.Proofs.YtonejdjhdjckjaaGreat

/-
  schema.Take walked (printed by gen_sch6.py).
-/
set_option linter.unusedSimpArgs false
set_option linter.unusedVariables false
namespace Go.Proofs.YtonejdjhdjckjaaGreat
open Go.RowKit NumLaw
attribute [local go_sem] Addr.add_mid
attribute [-go_sem] run_eql_struct run_neq_struct

/-- The first k numbers laid at their places. -/
theorem scat_succ {Z : List SlT} {V : List Int} {k : Nat} {s : SlT} {x : Int} (o : List Int) (hs : Z[k]? = some s) (hx : V[k]? = some x) : scat o (((Z.map fun s => s.2.2).zip V).take (k + 1)) = (scat o (((Z.map fun s => s.2.2).zip V).take k)).set s.2.2 x := by
  have h1 : ((Z.map fun s => s.2.2).zip V)[k]? = some (s.2.2, x) := by rw [List.getElem?_zip_eq_some, List.getElem?_map, hs]; exact ⟨rfl, hx⟩
  rw [take_succ h1, scat_app]
  rfl
theorem shT_len {l : List FieldV} {b : List UInt8} (h : shTE l b = 0) : (shT l b).length = l.length := by
  unfold shT
  rw [if_pos h]
  exact takeV_len l b
set_option maxRecDepth 20000 in
set_option maxHeartbeats 8000000 in
theorem take31_any (id : Int) (A' : Option Addr) (n' c' : Nat) (b : List UInt8) (w : World) (h : Rd w w.heap.size 1 A' n' c' (bv b)) (hn' : n' ≤ 1000000000) :
    Calls Tryz.prog 14 #[.int .i64 id, .slice A' n' c'] w (RetTS w (sTV (frm id) b) (sTE (frm id) b)) := by
  have hf := find_any id w
  have hN := frm_n id
  have hM := frm_nm id
  have hC := frm_cnt id
  have hmx := h.max
  have hle := h.le
  unfold maxLen at hmx
  generalize frm id = p at *
  obtain ⟨nm, L⟩ := p
  obtain ⟨m, hm⟩ : ∃ m, m = cntS L := ⟨_, rfl⟩
  have hs := fun A n c w h => slots_any nm A n c L w h hN (Nat.le_trans hC (by omega))
  have hC' : m ≤ 300 := by rw [hm]; exact hC
  rw [← hm] at hs
  have Hf := Lib.hid hf
  have Hs := Lib.hid hs
  have HN := Lib.hid hN
  have HM := Lib.hid hM
  have Hm := Lib.hid hm
  have Hwl : Hid ((wireS L).length = m) := Lib.hid (by rw [wire_len, hm])
  have Hat := Lib.hid (fun s (hs : s ∈ wireS L) => (show s.2.2 < m by rw [hm]; exact (ats_mem L s.2.2).1 (List.mem_map.2 ⟨s, hs, rfl⟩)))
  clear hf hs hC hm
  cases hem : nm.toList.isEmpty with
  | true =>
    have hv : sTV (nm, L) b = [] ∧ sTE (nm, L) b = 6 := by unfold sTV sTE; rw [if_pos hem, if_pos hem]; exact ⟨rfl, rfl⟩
    have Hv := Lib.hid hv
    clear hv hN hM
    go_enter Tryz.func14, Tryz.ntmps14
    go_wp2_with fail
    go_fit Hf.out
    unfold RetFm
    rintro e w1 ⟨A, n, c, rfl, hr, hb⟩
    have a0 := heap_alloc_new w1 (.cells #[.string nm, .slice A n c] 57)
    have k0 := blk_cell (i := 0) (v := .string nm) a0 rfl
    have k1 := blk_cell (i := 1) (v := .slice A n c) a0 rfl
    have hba : Below w1.heap.size w1 (w1.alloc (.cells #[.string nm, .slice A n c] 57)) := (Below.refl _ _).alloc (Nat.le_refl _) _
    have hb2 := bnx hb hba
    have hlt := blk_lt a0
    have hr2 := RdR.more (RdR.up hr hba) hba.size
    clear hr hb hba a0
    clear hr2
    go_wp2
    go_ret2
    rw [Hv.out.1, Hv.out.2]
    exact ⟨none, 0, 0, rfl, World.ownsRow_nil _ _ _ _, hb2⟩
  | false =>
    have hv : sTV (nm, L) b = takSV L b ∧ sTE (nm, L) b = takSE L b := by unfold sTV sTE; rw [if_neg (by rw [hem]; exact Bool.false_ne_true), if_neg (by rw [hem]; exact Bool.false_ne_true)]; exact ⟨rfl, rfl⟩
    have Hv := Lib.hid hv
    clear hv hN hM
    have hfm : takSE L b = shTE ((wireS L).map fldOf) b := rfl
    have Hfm := Lib.hid hfm
    have hvl : ((wireS L).map fldOf).length = m := by rw [List.length_map, Hwl.out]
    have Hfl := Lib.hid hvl
    have hsv : shTE ((wireS L).map fldOf) b = 0 → takSV L b = scat (List.replicate m 0) (((wireS L).map fun s => s.2.2).zip (shT ((wireS L).map fldOf) b)) := fun h0 => by
      unfold takSV
      rw [if_pos (by rw [hfm]; exact h0), ← Hm.out]
      unfold atsS shT
      rw [if_pos h0]
    have hsv0 : ¬ shTE ((wireS L).map fldOf) b = 0 → takSV L b = [] := fun h0 => by
      unfold takSV
      rw [if_neg (by rw [hfm]; exact h0)]
    have Hsv := Lib.hid hsv
    have Hsv0 := Lib.hid hsv0
    clear hfm hvl hsv hsv0
    cases herr : shTE ((wireS L).map fldOf) b with
    | succ er =>
      have hev := Hsv0.out (by omega)
      have Hev := Lib.hid hev
      have heq : ((er + 1 : Nat) : Int) ≠ 0 := by omega
      have hbq : (((er + 1 : Nat) : Int) != 0) = true := by simp; omega
      obtain ⟨ee, hee⟩ : ∃ ee : Nat, ee = er + 1 := ⟨_, rfl⟩
      rw [← hee] at heq hbq herr
      have Herr := Lib.hid herr
      clear hev herr hee
      go_enter Tryz.func14, Tryz.ntmps14
      go_wp2_with fail
      go_fit Hf.out
      unfold RetFm
      rintro e w1 ⟨A, n, c, rfl, hr, hb⟩
      have a0 := heap_alloc_new w1 (.cells #[.string nm, .slice A n c] 57)
      have k0 := blk_cell (i := 0) (v := .string nm) a0 rfl
      have k1 := blk_cell (i := 1) (v := .slice A n c) a0 rfl
      have hba : Below w1.heap.size w1 (w1.alloc (.cells #[.string nm, .slice A n c] 57)) := (Below.refl _ _).alloc (Nat.le_refl _) _
      have hb2 := bnx hb hba
      have hlt := blk_lt a0
      have hr2 := RdR.more (RdR.up hr hba) hba.size
      clear hr hb hba a0
      go_wp2_with fail
      generalize (w1.alloc (.cells #[.string nm, .slice A n c] 57)) = w2 at *
      go_fit (Hs.out A n c w2 hr2)
      rintro e w3 ⟨A1, c1, A2, c2, rfl, hr3, hf3, hbx⟩
      have hb3 := bnx hb2 hbx
      clear k0 k1 hbx hb2 hr2 hlt
      go_wp2_with fail
      go_fit (shTake_any A2 m c2 w3.heap.size _ A' n' c' w.heap.size b w3 hf3 (Nat.le_refl _) (h.up hb3) hb3.size (by omega) hn')
      rintro e w4 ⟨A5, n5, c5, rfl, own5, hbx⟩
      have hb4 := bnx hb3 hbx
      rw [Herr.out]
      clear hbx hb3 own5 hr3 hf3
      go_wp2
      go_ret2
      rw [Hv.out.1, Hv.out.2, Hev.out, Hfm.out, Herr.out]
      exact ⟨none, 0, 0, rfl, World.ownsRow_nil _ _ _ _, hb4⟩
    | zero =>
      have hev := Hsv.out herr
      have Hev := Lib.hid hev
      have Herr := Lib.hid herr
      have Hvl := Lib.hid (shT_len herr)
      clear hev herr Hsv Hsv0
      have hmk := run_make_row' (P := Tryz.prog) 24 2 (.int .i64 0) 8 Tryz.underlying24 i64_info rfl .i64 .i64 m (by omega) (by omega)
      rw [made_rep'] at hmk
      obtain ⟨z, hz⟩ : ∃ z, z = List.replicate m (Value.int .i64 0) := ⟨_, rfl⟩
      rw [← hz] at hmk
      have hz2 : z = (List.replicate m (0 : Int)).map (Value.int .i64) := by rw [hz, List.map_replicate]
      have Hz := Lib.hid hz2
      clear hz hz2
      go_enter Tryz.func14, Tryz.ntmps14
      go_wp2_with fail
      go_fit Hf.out
      unfold RetFm
      rintro e w1 ⟨A, n, c, rfl, hr, hb⟩
      have a0 := heap_alloc_new w1 (.cells #[.string nm, .slice A n c] 57)
      have k0 := blk_cell (i := 0) (v := .string nm) a0 rfl
      have k1 := blk_cell (i := 1) (v := .slice A n c) a0 rfl
      have hba : Below w1.heap.size w1 (w1.alloc (.cells #[.string nm, .slice A n c] 57)) := (Below.refl _ _).alloc (Nat.le_refl _) _
      have hb2 := bnx hb hba
      have hlt := blk_lt a0
      have hr2 := RdR.more (RdR.up hr hba) hba.size
      clear hr hb hba a0
      go_wp2_with fail
      generalize (w1.alloc (.cells #[.string nm, .slice A n c] 57)) = w2 at *
      go_fit (Hs.out A n c w2 hr2)
      rintro e w3 ⟨A1, c1, A2, c2, rfl, hr3, hf3, hbx⟩
      have hb3 := bnx hb2 hbx
      have hmx3 := hr3.2.2.2.1
      have hle3 := hr3.2.2.1
      unfold maxLen at hmx3
      clear k0 k1 hbx hb2 hr2 hlt
      go_wp2_with fail
      go_fit (shTake_any A2 m c2 w3.heap.size _ A' n' c' w.heap.size b w3 hf3 (Nat.le_refl _) (h.up hb3) hb3.size (by omega) hn')
      rintro e w5 ⟨A5, n5, c5, rfl, own5, hbx⟩
      have hb5 := bnx hb3 hbx
      rw [Herr.out]
      have hrV := Rd.own own5
      have hr5 := RdR.more (RdR.up hr3 hbx) hbx.size
      have hn5 : n5 = m := by have := hrV.len; rw [List.length_map, Hvl.out, Hfl.out] at this; omega
      subst hn5
      have hmx5 := hrV.max
      have hle5 := hrV.le
      unfold maxLen at hmx5
      clear hbx hb3 own5 hr3 hf3
      have hb6 : Below w5.heap.size w5 (w5.alloc (.cells z.toArray 2)) := (Below.refl _ _).alloc (Nat.le_refl _) _
      have hgm : (w5.alloc (.cells z.toArray 2)).heap[w5.heap.size]? = some (.cells ((List.replicate n5 (0 : Int)).map (Value.int .i64)).toArray 2) := by rw [← Hz.out]; exact heap_alloc_new w5 (.cells z.toArray 2)
      generalize shT ((wireS L).map fldOf) b = V at *
      generalize wireS L = Z at *
      clear Hs Hf HN HM
      go_wp2_with fail
      generalize (w5.alloc (.cells z.toArray 2)) = w6 at *
      obtain ⟨gm, hgg⟩ : ∃ gm, gm = w5.heap.size := ⟨_, rfl⟩
      have Hgg := Lib.hid hgg
      rw [← hgg] at hgm ⊢
      clear hgg hmk
      go_loopw [38] (fun i wr => ∃ (k : Nat) (o : List Int), k ≤ n5 ∧ i = .int .i64 k ∧ Below w5.heap.size w5 wr ∧ wr.heap[gm]? = some (.cells (o.map (Value.int .i64)).toArray 2) ∧ Hid (o.length = n5) ∧ Hid (o = scat (List.replicate n5 0) (((Z.map fun s => s.2.2).zip V).take k))) (fun i _ => n5 - (intOf i).toNat)
      case atStart => exact ⟨0, List.replicate n5 0, by omega, rfl, hb6, hgm, Lib.hid (List.length_replicate ..), Lib.hid rfl⟩
      case round =>
        clear hb6 hgm w6
        obtain ⟨k, o, hk, rfl, hb, hgm, Hol, Ho⟩ := hrel
        have hgml := blk_lt hgm
        by_cases hlt : k < n5
        · have hlt' : (k : Int) < (n5 : Int) := by omega
          obtain ⟨g, off, x, rfl, hg, hx, hr⟩ := sl_at hr5 hlt
          have k0 := (hb.cell (p := ⟨g, off + k * 3 + 0, none⟩) hg).trans (hr 0 _ rfl)
          have k1 := (hb.cell (p := ⟨g, off + k * 3 + 1, none⟩) hg).trans (hr 1 _ rfl)
          have k2 := (hb.cell (p := ⟨g, off + k * 3 + 2, none⟩) hg).trans (hr 2 _ rfl)
          rw [Nat.add_zero] at k0
          have hat := Hat.out x (List.mem_of_getElem? hx)
          obtain ⟨ad, y, rfl, hy, hcy, hady⟩ := num_at hrV hlt
          have hsc := scat_succ (List.replicate n5 0) hx hy
          rw [← Ho.out] at hsc
          obtain ⟨z1, g1, at1⟩ := x
          dsimp only at k0 k1 k2 hat hsc
          have hat' : (at1 : Int) < (n5 : Int) := by omega
          have Hsc := Lib.hid hsc
          have hbn : Below wr.heap.size wr (wr.alloc (.cells #[.int .i64 z1, .bool g1, .int .i64 (at1 : Int)] 65)) := (Below.refl _ _).alloc (Nat.le_refl _) _
          have a0 := heap_alloc_new wr (.cells #[.int .i64 z1, .bool g1, .int .i64 (at1 : Int)] 65)
          have d2 := blk_cell (i := 2) (v := .int .i64 (at1 : Int)) a0 rfl
          have hb7 := bnx hb hbn
          have ky := (hb7.cell (p := ad.add k) (by rw [blk_add]; exact hady)).trans hcy
          have hgm7 := (heap_alloc_old wr (.cells #[.int .i64 z1, .bool g1, .int .i64 (at1 : Int)] 65) hgml).trans hgm
          obtain ⟨g0, hg0⟩ : ∃ g0, g0 = wr.heap.size := ⟨_, rfl⟩
          rw [← hg0] at d2
          have Hg0 := Lib.hid hg0
          clear hx hr hy hcy hsc hbn a0 hb hgm hgml hg0
          go_wp2_with fail
          rw [← Hg0.out]
          refine Ord.region_ (fun _ => True) false [45, 49] (by kernel_rfl) (by kernel_rfl) trivial ?_
          replace hgm7 : (wr.alloc (.cells #[.int .i64 z1, .bool g1, .int .i64 (at1 : Int)] 65)).drew.heap[gm]? = _ := hgm7
          replace hb7 := hb7.drew
          replace ky : (wr.alloc (.cells #[.int .i64 z1, .bool g1, .int .i64 (at1 : Int)] 65)).drew.cell? _ = _ := ky
          replace d2 : (wr.alloc (.cells #[.int .i64 z1, .bool g1, .int .i64 (at1 : Int)] 65)).drew.cell? _ = _ := d2
          generalize (wr.alloc (.cells #[.int .i64 z1, .bool g1, .int .i64 (at1 : Int)] 65)).drew = w7 at *
          clear k0 k1 k2
          have hou : (o.map (Value.int .i64))[at1]? = some (.int .i64 (o.getD at1 0)) := by rw [List.getElem?_map, List.getD_eq_getElem?_getD, List.getElem?_eq_getElem (by rw [Hol.out]; exact hat)]; rfl
          have e1 := blk_cell (i := at1) (v := .int .i64 (o.getD at1 0)) hgm7 (by rw [List.getElem?_toArray]; exact hou)
          have e2 := blk_free (i := at1) hgm7
          have hgm8 := blk_set (i := at1) hgm7 (.int .i64 y)
          rw [List.setIfInBounds_toArray, show ((o.map (Value.int .i64)).set at1 (.int .i64 y)) = (o.set at1 y).map (Value.int .i64) from (List.map_set ..).symm] at hgm8
          have hb8 := hb7.setCell (p := ⟨gm, at1, none⟩) (by rw [Hgg.out]; exact Nat.le_refl _) (.int .i64 y)
          have Hol8 : Hid ((o.set at1 y).length = n5) := Lib.hid (by rw [List.length_set]; exact Hol.out)
          ((with_reducible refine Ord.e_p (v := ?_) ?_ ?_ ?_ ?_); rotate_left; (· exact rfl); (· kernel_rfl); (· intro w2; go_simp; try with_reducible rfl))
          (try simp only [Act.put, List.setIfInBounds_toArray, List.set_cons_zero, List.set_cons_succ])
          ((with_reducible refine Ord.e_p (v := ?_) ?_ ?_ ?_ ?_); rotate_left; (· exact rfl); (· kernel_rfl); (· intro w2; go_simp; try with_reducible rfl))
          (try simp only [Act.put, List.setIfInBounds_toArray, List.set_cons_zero, List.set_cons_succ])
          refine Ord.e_load Tryz.underlying3 rfl d2 rfl (by kernel_rfl) (by kernel_rfl) ?_
          (try simp only [Act.put, List.setIfInBounds_toArray, List.set_cons_zero, List.set_cons_succ])
          ((with_reducible refine Ord.e_p (v := ?_) ?_ ?_ ?_ ?_); rotate_left; (· exact rfl); (· kernel_rfl); (· intro w2; go_simp; try with_reducible rfl))
          (try simp only [Act.put, List.setIfInBounds_toArray, List.set_cons_zero, List.set_cons_succ])
          ((with_reducible refine Ord.e_p (v := ?_) ?_ ?_ ?_ ?_); rotate_left; (· exact rfl); (· kernel_rfl); (· intro w2; go_simp; try with_reducible rfl))
          (try simp only [Act.put, List.setIfInBounds_toArray, List.set_cons_zero, List.set_cons_succ])
          ((with_reducible refine Ord.e_p (v := ?_) ?_ ?_ ?_ ?_); rotate_left; (· exact rfl); (· kernel_rfl); (· intro w2; go_simp; try with_reducible rfl))
          (try simp only [Act.put, List.setIfInBounds_toArray, List.set_cons_zero, List.set_cons_succ])
          refine Ord.e_load Tryz.underlying2 rfl ky rfl (by kernel_rfl) (by kernel_rfl) ?_
          (try simp only [Act.put, List.setIfInBounds_toArray, List.set_cons_zero, List.set_cons_succ])
          ((with_reducible refine Ord.e_p (v := ?_) ?_ ?_ ?_ ?_); rotate_left; (· exact rfl); (· kernel_rfl); (· intro w2; go_simp; try with_reducible rfl))
          (try simp only [Act.put, List.setIfInBounds_toArray, List.set_cons_zero, List.set_cons_succ])
          refine Ord.e_x rfl (by kernel_rfl) ?_
          go_wp2
          refine Ord.Seg.go trivial (fun h => by cases h) ?_
          (try simp only [Act.put, List.setIfInBounds_toArray, List.set_cons_zero, List.set_cons_succ])
          refine Ord.e_nil ?_
          generalize (w7.setCell ⟨gm, at1, none⟩ (.int .i64 y)) = w8 at *
          clear hgm7 hb7 ky d2 hou e1 e2
          go_wp2
          go_roundw
          case rel => exact ⟨k + 1, o.set at1 y, by omega, by go_num, hb8, hgm8, Hol8, Lib.hid Hsc.out.symm⟩
          case measure => simp [intOf]; omega
        · obtain rfl : k = n5 := by omega
          have htk : ((Z.map fun s => s.2.2).zip V).take k = (Z.map fun s => s.2.2).zip V := List.take_of_length_le (by rw [List.length_zip, List.length_map, Hwl.out]; omega)
          rw [htk] at Ho
          have hbf := bnx hb5 hb
          have own := own_blkAll' (base := w.heap.size) (n := k) hgm (by rw [Hgg.out]; exact hb5.size) (by rw [List.length_map]; exact Hol.out) (by unfold maxLen; omega)
          clear hgm hb hb5 htk hr5 hrV
          go_wp2
          go_ret2
          rw [Hv.out.1, Hv.out.2, Hev.out, Hfm.out, Herr.out, ← Ho.out]
          exact ⟨_, _, _, rfl, own, hbf⟩

end Go.Proofs.YtonejdjhdjckjaaGreat

/-
  The plain law of the document's Put and Take of schema: part by part.
-/
set_option linter.unusedSimpArgs false
set_option linter.unusedVariables false
namespace Go.Proofs.YtonejdjhdjckjaaGreat
open Go.RowKit NumLaw

def fldsP (p : PtT) : List FieldV := List.replicate (mx1 p.mn) (anyF p.sz p.sg)
theorem slP_fld (p : PtT × Nat) : (slP p).map fldOf = fldsP p.1 := by
  unfold slP fldsP
  rw [List.map_map]
  show (List.range _).map (fun _ => anyF p.1.sz p.1.sg) = _
  rw [List.map_const', List.length_range]
theorem slP_at (p : PtT × Nat) : (slP p).map (fun s => s.2.2) = (List.range (mx1 p.1.mn)).map fun j => p.2 + j := by
  unfold slP
  rw [List.map_map]
  rfl
theorem slP_val {v : List Int} {p : PtT × Nat} (h : p.2 + mx1 p.1.mn ≤ v.length) : (slP p).map (valOf v) = (v.drop p.2).take (mx1 p.1.mn) := by
  unfold slP
  rw [List.map_map]
  refine List.ext_getElem? fun i => ?_
  by_cases hi : i < mx1 p.1.mn
  · rw [List.getElem?_map, List.getElem?_range hi, List.getElem?_take_of_lt hi, List.getElem?_drop]
    show some (v.getD (p.2 + i) 0) = _
    rw [List.getD_eq_getElem?_getD, List.getElem?_eq_getElem (by omega)]
    rfl
  · rw [List.getElem?_eq_none (by simp; omega), List.getElem?_eq_none (by simp; omega)]
theorem offs_at : ∀ (l : List PtT) (n k : Nat) (p : PtT), l[k]? = some p → (offs n l)[k]? = some (p, n + cntS (l.take k))
  | [], _, _, _, h => by simp at h
  | q :: l, n, 0, p, h => by
    simp at h
    subst h
    rfl
  | q :: l, n, k + 1, p, h => by
    show (offs (n + mx1 q.mn) l)[k]? = _
    rw [offs_at l _ k p (by simpa using h), List.take_succ_cons, cntS_cons, Nat.add_assoc]
theorem offs_len : ∀ (l : List PtT) (n : Nat), (offs n l).length = l.length
  | [], _ => rfl
  | q :: l, n => by
    show (offs (n + mx1 q.mn) l).length + 1 = _
    rw [offs_len l]
    rfl
theorem cnt_take_le {L : List PtT} {n : Nat} {p : PtT} (h : L[n]? = some p) : cntS (L.take n) + mx1 p.mn ≤ cntS L := by
  have h1 : L = L.take n ++ (p :: L.drop (n + 1)) := by
    obtain ⟨hn, rfl⟩ := List.getElem?_eq_some_iff.1 h
    rw [List.getElem_cons_drop, List.take_append_drop]
  have h2 : cntS L = cntS (L.take n) + cntS (p :: L.drop (n + 1)) := by
    have e : ∀ a b : List PtT, cntS (a ++ b) = cntS a + cntS b := fun a b => by
      unfold cntS
      rw [List.map_append, List.foldl_append, foldl_add0]
    rw [← e, ← h1]
  rw [h2, cntS_cons]
  omega
theorem offs_ord (L : List PtT) : ((List.range L.length).map fun k => (L.getD k ptD, cntS (L.take k))) = offs 0 L := by
  refine List.ext_getElem? fun i => ?_
  by_cases hi : i < L.length
  · have h1 : L[i]? = some L[i] := List.getElem?_eq_getElem hi
    rw [offs_at L 0 i _ h1, List.getElem?_map, List.getElem?_range hi]
    show some (L.getD i ptD, cntS (L.take i)) = _
    rw [List.getD_eq_getElem?_getD, h1, Nat.zero_add]
    rfl
  · rw [List.getElem?_eq_none (by simp; omega), List.getElem?_eq_none (by rw [offs_len]; omega)]
theorem wireP_ord (L : List PtT) : wireP L = (ordS L).map fun k => (L.getD k ptD, cntS (L.take k)) := by
  unfold wireP ordS szK
  rw [← offs_ord]
  exact (stb_map (fun p : PtT × Nat => p.1.sz) (fun k : Nat => (L.getD k ptD, cntS (L.take k))) (List.range L.length)).symm
theorem wireP_at {L : List PtT} {k n : Nat} {p : PtT} (h : (ordS L)[k]? = some n) (hp : L[n]? = some p) : (wireP L)[k]? = some (p, cntS (L.take n)) := by
  rw [wireP_ord, List.getElem?_map, h]
  show some (L.getD n ptD, _) = _
  rw [List.getD_eq_getElem?_getD, hp]
  rfl
theorem wireP_len (L : List PtT) : (wireP L).length = L.length := by rw [wireP_ord, List.length_map, ord_len]
theorem fldsP_right {p : PtT} (h : szQ p.sz) : rightL (fldsP p) = true := by
  unfold rightL fldsP
  rw [List.all_eq_true]
  intro f hf
  rw [List.mem_replicate] at hf
  rw [hf.2]
  exact (any_right h _).1
theorem fldsP_len (p : PtT) : (fldsP p).length = mx1 p.mn := List.length_replicate ..
theorem sumL_rep (f : FieldV) : ∀ n, sumL (List.replicate n f) = f.size.toNat * n
  | 0 => rfl
  | n + 1 => by rw [List.replicate_succ, sumL_cons, sumL_rep f n, Nat.mul_succ, Nat.add_comm]
theorem fldsP_sum {p : PtT} (h : szQ p.sz) : sumL (fldsP p) = p.sz.toNat * mx1 p.mn := by
  unfold fldsP
  rw [sumL_rep, (any_right h _).2]
/-- One part, as the document puts it. -/
theorem put_part {v : List Int} {p : PtT} {a : Nat} (hq : szQ p.sz) (h : a + mx1 p.mn ≤ v.length) :
    shE (fldsP p) ((v.drop a).take (mx1 p.mn)) = (if okP v (p, a) = true then 0 else 5) ∧ (okP v (p, a) = true → shP (fldsP p) ((v.drop a).take (mx1 p.mn)) = byP v (p, a)) := by
  have hl : ((v.drop a).take (mx1 p.mn)).length = (fldsP p).length := by rw [fldsP_len, List.length_take, List.length_drop]; omega
  have h1 : shE (fldsP p) ((v.drop a).take (mx1 p.mn)) = if okP v (p, a) = true then 0 else 5 := by
    unfold shE okP
    rw [if_pos ⟨fldsP_right hq, hl⟩, slP_fld, slP_val h]
  refine ⟨h1, fun ho => ?_⟩
  unfold shP byP
  rw [h1, if_pos ho, if_pos rfl, slP_fld, slP_val h]
theorem all_not {α : Type} {f : α → Bool} {l : List α} {k : Nat} {x : α} (h : l[k]? = some x) (hx : f x = false) : ¬ l.all f = true := fun hh => by
  rw [List.all_eq_true] at hh
  have := hh x (List.mem_of_getElem? h)
  rw [hx] at this
  exact Bool.false_ne_true this

/-! ### take -/
def fPs (X : List (PtT × Nat)) : List FieldV := (X.flatMap slP).map fldOf
def aPs (X : List (PtT × Nat)) : List Nat := (X.flatMap slP).map fun s => s.2.2
theorem fPs_snoc (X : List (PtT × Nat)) (p : PtT × Nat) : fPs (X ++ [p]) = fPs X ++ fldsP p.1 := by
  unfold fPs
  rw [List.flatMap_append, List.map_append]
  simp [slP_fld]
theorem aPs_snoc (X : List (PtT × Nat)) (p : PtT × Nat) : aPs (X ++ [p]) = aPs X ++ (List.range (mx1 p.1.mn)).map fun j => p.2 + j := by
  unfold aPs
  rw [List.flatMap_append, List.map_append]
  simp [slP_at]
theorem sumL_app (A B : List FieldV) : sumL (A ++ B) = sumL A + sumL B := by
  unfold sumL
  rw [List.map_append, List.foldl_append, foldl_add0]
theorem takeV_app : ∀ (A B : List FieldV) (b : List UInt8), takeV (A ++ B) b = takeV A b ++ takeV B (b.drop (sumL A))
  | [], B, b => rfl
  | f :: A, B, b => by
    show fieldV f _ :: takeV (A ++ B) _ = fieldV f _ :: (takeV A _ ++ _)
    rw [takeV_app A, List.drop_drop, sumL_cons]
theorem takeV_take : ∀ (A : List FieldV) (b : List UInt8) (n : Nat), sumL A ≤ n → takeV A (b.take n) = takeV A b
  | [], _, _, _ => rfl
  | f :: A, b, n, h => by
    rw [sumL_cons] at h
    show fieldV f _ :: takeV A _ = fieldV f _ :: takeV A _
    rw [List.take_take, Nat.min_eq_left (by omega), List.drop_take, takeV_take A _ _ (by omega)]
theorem aPs_len (X : List (PtT × Nat)) : (aPs X).length = (fPs X).length := by unfold aPs fPs; rw [List.length_map, List.length_map]
/-- The numbers of some parts, laid at their places. -/
def layT (n : Nat) (X : List (PtT × Nat)) (b : List UInt8) : List Int := scat (List.replicate n 0) ((aPs X).zip (takeV (fPs X) b))
def okT (X : List (PtT × Nat)) (b : List UInt8) : Bool := inAll (fPs X) (takeV (fPs X) b)
theorem layT_snoc (n : Nat) (X : List (PtT × Nat)) (p : PtT × Nat) (b : List UInt8) : layT n (X ++ [p]) b = scat (layT n X b) (((List.range (mx1 p.1.mn)).map fun j => p.2 + j).zip (takeV (fldsP p.1) (b.drop (sumL (fPs X))))) := by
  unfold layT
  rw [fPs_snoc, aPs_snoc, takeV_app, List.zip_append (by rw [takeV_len, aPs_len]), scat_app]
theorem okT_snoc (X : List (PtT × Nat)) (p : PtT × Nat) (b : List UInt8) : okT (X ++ [p]) b = (okT X b && inAll (fldsP p.1) (takeV (fldsP p.1) (b.drop (sumL (fPs X))))) := by
  unfold okT
  rw [fPs_snoc, takeV_app, inAll_app (by rw [takeV_len])]
theorem okT_more (X Y : List (PtT × Nat)) (b : List UInt8) (h : okT (X ++ Y) b = true) : okT X b = true := by
  unfold okT fPs at h ⊢
  rw [List.flatMap_append, List.map_append, takeV_app, inAll_app (by rw [takeV_len]), Bool.and_eq_true] at h
  exact h.1
theorem sum_more (X Y : List (PtT × Nat)) : sumL (fPs X) ≤ sumL (fPs (X ++ Y)) := by
  unfold fPs
  rw [List.flatMap_append, List.map_append, sumL_app]
  omega
/-- One part, as the document takes it. -/
theorem take_part {b : List UInt8} {p : PtT} {D : Nat} (hq : szQ p.sz) (h : D + p.sz.toNat * mx1 p.mn ≤ b.length) :
    shTE (fldsP p) ((b.drop D).take (p.sz.toNat * mx1 p.mn)) = (if inAll (fldsP p) (takeV (fldsP p) (b.drop D)) = true then 0 else 5) ∧ (inAll (fldsP p) (takeV (fldsP p) (b.drop D)) = true → shT (fldsP p) ((b.drop D).take (p.sz.toNat * mx1 p.mn)) = takeV (fldsP p) (b.drop D)) := by
  have hs := fldsP_sum hq
  have hl : ((b.drop D).take (p.sz.toNat * mx1 p.mn)).length = p.sz.toNat * mx1 p.mn := by rw [List.length_take, List.length_drop]; omega
  have h1 : shTE (fldsP p) ((b.drop D).take (p.sz.toNat * mx1 p.mn)) = if inAll (fldsP p) (takeV (fldsP p) (b.drop D)) = true then 0 else 5 := by
    unfold shTE
    rw [if_pos (fldsP_right hq), hl, hs, if_neg (Nat.lt_irrefl _), if_neg (Nat.lt_irrefl _), takeV_take _ _ _ (by rw [hs]; exact Nat.le_refl _)]
  refine ⟨h1, fun ho => ?_⟩
  unfold shT
  rw [h1, if_pos ho, if_pos rfl, takeV_take _ _ _ (by rw [hs]; exact Nat.le_refl _)]
theorem take_all {l : List PtT} {b : List UInt8} (hq : PtQ l) (hb : b.length = wdS l) : takSE l b = (if okT (wireP l) b = true then 0 else 5) ∧ takSV l b = (if okT (wireP l) b = true then layT (cntS l) (wireP l) b else []) := by
  have hw := wire_wd hq
  have h1 : takSE l b = if okT (wireP l) b = true then 0 else 5 := by
    unfold takSE shTE okT fPs
    rw [if_pos (rightL_map (wire_q hq)), hw, hb, if_neg (Nat.lt_irrefl _), if_neg (Nat.lt_irrefl _), wire_flat hq]
  refine ⟨h1, ?_⟩
  unfold takSV
  rw [h1]
  by_cases ho : okT (wireP l) b = true
  · rw [if_pos ho, if_pos ho, if_pos rfl]
    unfold layT fPs aPs atsS
    rw [wire_flat hq]
  · rw [if_neg ho, if_neg ho, if_neg (by omega)]
theorem take_short {l : List PtT} {b : List UInt8} (hq : PtQ l) (hb : b.length < wdS l) : takSE l b = 2 ∧ takSV l b = [] := by
  have hw := wire_wd hq
  have h1 : takSE l b = 2 := by
    unfold takSE shTE
    rw [if_pos (rightL_map (wire_q hq)), hw, if_pos hb]
  exact ⟨h1, by unfold takSV; rw [h1]; exact if_neg (by omega)⟩
theorem take_long {l : List PtT} {b : List UInt8} (hq : PtQ l) (hb : wdS l < b.length) : takSE l b = 7 ∧ takSV l b = [] := by
  have hw := wire_wd hq
  have h1 : takSE l b = 7 := by
    unfold takSE shTE
    rw [if_pos (rightL_map (wire_q hq)), hw, if_neg (by omega), if_pos hb]
  exact ⟨h1, by unfold takSV; rw [h1]; exact if_neg (by omega)⟩
/-- The parts fill the bytes. -/
theorem wire_sum {l : List PtT} (hq : PtQ l) : sumL (fPs (wireP l)) = wdS l := by
  have := wire_wd hq
  rwa [wire_flat hq] at this

end Go.Proofs.YtonejdjhdjckjaaGreat

/-
  the document's fields and from walked (printed by gen_sch6.py).
-/
set_option linter.unusedSimpArgs false
set_option linter.unusedVariables false
namespace Go.Proofs.YtonejdjhdjckjaaGreat
open Go.RowKit NumLaw
attribute [local go_sem] Addr.add_mid
attribute [-go_sem] run_eql_struct run_neq_struct

theorem fld_rep (p : PtT) (h : szQ p.sz) : FB (fldsP p) := fun f hf => by
  unfold fldsP at hf
  rw [List.mem_replicate] at hf
  rw [hf.2]
  exact any_fb h _
theorem rep_snoc (f : FieldV) (k : Nat) : fcs (List.replicate k f) ++ fcs [f] = fcs (List.replicate (k + 1) f) := by rw [List.replicate_succ', fcs_app]
set_option maxRecDepth 20000 in
set_option maxHeartbeats 8000000 in
theorem qfields_any (p : PtT) (w : World) (hq : szQ p.sz) (hm : mx1 p.mn ≤ 100) :
    Calls Tryz.prog 39 #[.agg (ptC p).toArray] w fun e w' => ∃ (A : Option Addr) (c : Nat), e = .returned (.slice A (mx1 p.mn) c) ∧ RdF w' w'.heap.size A (mx1 p.mn) c (fldsP p) ∧ Below w.heap.size w w' := by
  obtain ⟨i2, hi2⟩ := info_parts field_info
  have Hi2 := Lib.hid hi2
  have Hfb := Lib.hid (fld_rep p hq)
  have hfx := fun w => qnumbers_any p w
  have hany := fun w => qAny14_any p.sz p.sg w
  have hfp : fldsP p = List.replicate (mx1 p.mn) (anyF p.sz p.sg) := rfl
  generalize fldsP p = FL at *
  obtain ⟨s, z, g, m⟩ := p
  dsimp only at hq hm hany hfp
  generalize anyF z g = f at *
  obtain ⟨d, hd⟩ : ∃ d, d = mx1 m := ⟨_, rfl⟩
  have hfx2 : ∀ w, Calls Tryz.prog 37 #[.agg #[.string s, .int .i64 z, .bool g, .int .i64 m]] w fun e w' => e = .returned (.int .i64 (d : Int)) ∧ Below w.heap.size w w' := by rw [hd]; exact hfx
  obtain ⟨fs, fg, flo, fhi⟩ := f
  have hany2 : ∀ w, Calls Tryz.prog 70 #[.int .i64 z, .bool g] w fun e w' => e = .returned (.agg #[.int .i64 fs, .bool fg, .int .i64 flo, .int .i64 fhi]) ∧ Below w.heap.size w w' := hany
  show Calls _ _ #[.agg #[.string s, .int .i64 z, .bool g, .int .i64 m]] _ _
  dsimp only
  rw [← hd] at hm hfp ⊢
  have Hfp := Lib.hid hfp
  have Hfx := Lib.hid hfx2
  have Hany := Lib.hid hany2
  have a0 := heap_alloc_new w (.cells #[.string s, .int .i64 z, .bool g, .int .i64 m] 71)
  have hba : Below w.heap.size w (w.alloc (.cells #[.string s, .int .i64 z, .bool g, .int .i64 m] 71)) := (Below.refl _ _).alloc (Nat.le_refl _) _
  have hlt0 := blk_lt a0
  clear hfx hfx2 hany hany2 hi2 hd hq hfp
  go_enter Tryz.func39, Tryz.ntmps39
  go_wp2_with fail
  obtain ⟨b0, hb0⟩ : ∃ b0, b0 = w.heap.size := ⟨_, rfl⟩
  rw [← hb0] at a0 hlt0 ⊢
  generalize (w.alloc (.cells #[.string s, .int .i64 z, .bool g, .int .i64 m] 71)) = w1 at *
  clear hb0
  go_loopw [3, 4] (fun o i wr => ∃ (k c3 : Nat) (A3 : Option Addr), k ≤ d ∧ i = .int .i64 k ∧ o = .slice A3 k c3 ∧ Below w1.heap.size w1 wr ∧ wr.ownsRow w1.heap.size 85 4 (.slice A3 k c3) k (fcs (List.replicate k ⟨fs, fg, flo, fhi⟩))) (fun _ i _ => d - (intOf i).toNat)
  case atStart => exact ⟨0, 0, none, by omega, rfl, rfl, Below.refl _ _, World.ownsRow_nil _ _ _ _⟩
  case round =>
    obtain ⟨k, c3, A3, hk, rfl, rfl, hb, own3⟩ := hrel
    have d0 := blk_cell (i := 0) (v := .string s) (blk_old a0 hb hlt0) rfl
    have d1 := blk_cell (i := 1) (v := .int .i64 z) (blk_old a0 hb hlt0) rfl
    have d2 := blk_cell (i := 2) (v := .bool g) (blk_old a0 hb hlt0) rfl
    have d3 := blk_cell (i := 3) (v := .int .i64 m) (blk_old a0 hb hlt0) rfl
    go_wp2_with fail
    go_fit (Hfx.out _)
    rintro e w2 ⟨rfl, hbx⟩
    have hb2 := bnx hb hbx
    have own4 := own_up own3 hbx (Nat.le_refl _)
    clear d0 d1 d2 d3 hb hbx own3
    by_cases hlt : k < d
    · have hlt' : (k : Int) < (d : Int) := by omega
      have d1 := blk_cell (i := 1) (v := .int .i64 z) (blk_old a0 hb2 hlt0) rfl
      have d2 := blk_cell (i := 2) (v := .bool g) (blk_old a0 hb2 hlt0) rfl
      go_wp2_with fail
      go_fit (Hany.out _)
      rintro e w5 ⟨rfl, hbx⟩
      have hb5 := bnx hb2 hbx
      have own5 := own_up own4 hbx (Nat.le_refl _)
      have hbn : Below w5.heap.size w5 (w5.alloc (.cells #[.int .i64 fs, .bool fg, .int .i64 flo, .int .i64 fhi] 85)) := (Below.refl _ _).alloc (Nat.le_refl _) _
      have hrd : Rd (w5.alloc (.cells #[.int .i64 fs, .bool fg, .int .i64 flo, .int .i64 fhi] 85)) (w5.heap.size + 1) 4 (some ⟨w5.heap.size, 0, none⟩) 1 1 (fcs [⟨fs, fg, flo, fhi⟩]) := rd_litF w5 85 [⟨fs, fg, flo, fhi⟩] _ rfl (by simp [maxLen])
      have hb6 := bnx hb5 hbn
      have own6 := own_up own5 hbn (Nat.le_refl _)
      clear d1 d2 hbx hb2 own4 hb5 own5 hbn
      go_wp2_with (at_builtin; refine stop_ ?_)
      generalize (w5.alloc (.cells #[.int .i64 fs, .bool fg, .int .i64 flo, .int .i64 fhi] 85)) = w6 at *
      refine go_ (wpList_appG (base := w1.heap.size) (n := k) Tryz.underlying60 Hi2.out rfl (by omega) own6 rfl hrd rfl (fcs_one _) (k := k + 1) rfl (rep_snoc _ _) (by unfold maxLen; omega) (by omega) hb6.size ?_)
      intro A8 c8 w8 own8 hgr hob
      have hb8 := Below.grown hb6 hgr hb6.size (fun j hj => (own_blk own6 hj).1)
      clear hgr hob own6 hrd hb6
      go_wp2
      go_roundw
      case rel => exact ⟨k + 1, c8, A8, by omega, by go_num, rfl, hb8, own8⟩
      case measure => simp [intOf]; omega
    · obtain rfl : k = d := by omega
      have hbf := bnx hba hb2
      rw [← Hfp.out] at own4
      have hrf := rdF_own own4 Hfb.out
      clear own4 hb2 hlt
      go_wp2
      go_ret
      exact ⟨A3, c3, rfl, hrf, hbf⟩
def fromL (L : List PtT) : List Nat := (List.range L.length).map fun k => cntS (L.take k)
theorem fromL_len (L : List PtT) : (fromL L).length = L.length := by unfold fromL; rw [List.length_map, List.length_range]
theorem fromL_at {L : List PtT} {n : Nat} (h : n < L.length) : (fromL L)[n]? = some (cntS (L.take n)) := by unfold fromL; rw [List.getElem?_map, List.getElem?_range h]; rfl
theorem from_snoc {L : List PtT} {k : Nat} {x : PtT} (h : L[k]? = some x) : fromL (L.take (k + 1)) = fromL (L.take k) ++ [cntS (L.take k)] := by
  have hk : k < L.length := (List.getElem?_eq_some_iff.1 h).1
  unfold fromL
  rw [List.length_take, List.length_take, Nat.min_eq_left (by omega), Nat.min_eq_left (by omega), List.range_succ, List.map_append]
  congr 1
  · refine List.map_congr_left fun j hj => ?_
    have := List.mem_range.1 hj
    rw [List.take_take, List.take_take, Nat.min_eq_left (by omega), Nat.min_eq_left (by omega)]
  · simp [List.take_take]
theorem iv_snoc (L : List Nat) (k : Nat) : (ivR L).flatten ++ [Value.int .i64 (k : Int)] = (ivR (L ++ [k])).flatten := by rw [iv_flat, iv_flat, List.map_append]; rfl
set_option maxRecDepth 20000 in
set_option maxHeartbeats 8000000 in
theorem from31_own (A : Option Addr) (n c : Nat) (L : List PtT) (w : World) (h : RdP w w.heap.size A n c L) (hq : PtN L) :
    Calls Tryz.prog 36 #[.slice A n c] w fun e w' => ∃ (A' : Option Addr) (c' : Nat), e = .returned (.slice A' n c') ∧ RdN w' w'.heap.size A' n c' (fromL L) ∧ w'.ownsRow w.heap.size 3 1 (.slice A' n c') n (ivR (fromL L)).flatten ∧ Below w.heap.size w w' := by
  have hll := h.len
  have hn : n ≤ 100 := by rw [← hll]; exact hq.2.1
  have hmx := h.2.2.2.1
  have hle := h.2.2.1
  unfold maxLen at hmx
  obtain ⟨i1, hi1⟩ := info_parts int_info31
  have Hi1 := Lib.hid hi1
  have Hll := Lib.hid hll
  have Hbd := Lib.hid (fun k => cnt_bd L hq k)
  have Hsn := Lib.hid (fun (l : List PtT) (p : PtT) => cntS_snoc p l)
  have Hq := Lib.hid hq
  clear hi1 hll hq
  go_enter Tryz.func36, Tryz.ntmps36
  go_wp2_with fail
  go_loopw [3, 4, 5] (fun o a i wr => ∃ (k s c3 : Nat) (A3 : Option Addr), k ≤ n ∧ i = .int .i64 k ∧ a = .int .i64 (s : Int) ∧ Hid (s = cntS (L.take k)) ∧ s ≤ 8000 * 100 ∧ o = .slice A3 k c3 ∧ Below w.heap.size w wr ∧ wr.ownsRow w.heap.size 3 1 (.slice A3 k c3) k (ivR (fromL (L.take k))).flatten) (fun _ _ i _ => n - (intOf i).toNat)
  case atStart => exact ⟨0, 0, 0, none, by omega, rfl, rfl, Lib.hid rfl, by omega, rfl, Below.refl _ _, World.ownsRow_nil _ _ _ _⟩
  case round =>
    obtain ⟨k, s, c3, A3, hk, rfl, rfl, Hs, hs, rfl, hb, own3⟩ := hrel
    by_cases hlt : k < n
    · have hlt' : (k : Int) < (n : Int) := by omega
      obtain ⟨g, off, x, rfl, hg, hx, hr⟩ := RdP.at_ h hlt
      have hbn : Below wr.heap.size wr (wr.alloc (.cells #[.int .i64 (s : Int)] 3)) := (Below.refl _ _).alloc (Nat.le_refl _) _
      have hrd : Rd _ _ 1 _ 1 1 [Value.int .i64 (s : Int)] := RdR.rd (RdR.lit (size := 1) (e := 3) wr [[Value.int .i64 (s : Int)]] #[.int .i64 (s : Int)] rfl (by intro r hr; rw [List.mem_singleton.1 hr]; rfl) (by simp [maxLen]) 1 rfl) (by omega)
      have hb4 := bnx hb hbn
      have own4 := own_up own3 hbn (Nat.le_refl _)
      have hfl := from_snoc hx
      rw [← Hs.out] at hfl
      have Hfl := Lib.hid (show (ivR (fromL (L.take k))).flatten ++ [Value.int .i64 (s : Int)] = (ivR (fromL (L.take (k + 1)))).flatten by rw [hfl, iv_snoc])
      have hd100 := Hq.out.2.2 x (List.mem_of_getElem? hx)
      have hfx := fun w => qnumbers_any x w
      have hsm := Hsn.out (L.take k) x
      rw [← take_succ hx, ← Hs.out] at hsm
      have hbd := Hbd.out (k + 1)
      rw [hsm] at hbd
      have Hsm := Lib.hid hsm.symm
      obtain ⟨s1, z1, g1, m1⟩ := x
      obtain ⟨d, hd⟩ : ∃ d : Nat, d = mx1 m1 := ⟨_, rfl⟩
      dsimp only at Hsm hbd hd100
      rw [← hd] at Hsm hbd hd100
      have hfx2 : ∀ w, Calls Tryz.prog 37 #[.agg #[.string s1, .int .i64 z1, .bool g1, .int .i64 m1]] w fun e w' => e = .returned (.int .i64 (d : Int)) ∧ Below w.heap.size w w' := by rw [hd]; exact hfx
      have Hfx := Lib.hid hfx2
      have Hr := Lib.hid (show ∀ wq, Below w.heap.size w wq → wq.rangeAt g (off + k * 4) (ptC ⟨s1, z1, g1, m1⟩) from fun wq hbq j v hv => (hbq.cell (p := ⟨g, off + k * 4 + j, none⟩) hg).trans (hr j v hv))
      clear hx hr hfx hfx2 hsm hd hb own3 hbn hfl
      go_wp2_with (at_builtin; refine stop_ ?_)
      generalize (wr.alloc (.cells #[.int .i64 (s : Int)] 3)) = w4 at *
      refine go_ (wpList_appG (base := w.heap.size) (n := k) Tryz.underlying68 Hi1.out rfl (by omega) own4 rfl hrd rfl (by simp [Value.oneCell']) (k := k + 1) rfl Hfl.out (by unfold maxLen; omega) (by omega) hb4.size ?_)
      intro A5 c5 w5 own5 hgr hob
      have hb5 := Below.grown hb4 hgr hb4.size (fun j hj => (own_blk own4 hj).1)
      clear hgr hob own4 hrd hb4
      have hrr := Hr.out _ hb5
      have k0 : w5.cell? ⟨g, off + k * 4 + 0, none⟩ = some (.string s1) := hrr 0 _ rfl
      have k1 : w5.cell? ⟨g, off + k * 4 + 1, none⟩ = some (.int .i64 z1) := hrr 1 _ rfl
      have k2 : w5.cell? ⟨g, off + k * 4 + 2, none⟩ = some (.bool g1) := hrr 2 _ rfl
      have k3 : w5.cell? ⟨g, off + k * 4 + 3, none⟩ = some (.int .i64 m1) := hrr 3 _ rfl
      rw [Nat.add_zero] at k0
      clear hrr
      go_wp2_with fail
      go_fit (Hfx.out _)
      rintro e w6 ⟨rfl, hbx⟩
      have hb6 := bnx hb5 hbx
      have own6 := own_up own5 hbx (Nat.le_refl _)
      clear k0 k1 k2 k3 hbx hb5 own5
      go_wp2
      go_roundw
      case rel => exact ⟨k + 1, s + d, c5, A5, by omega, by go_num, by go_num, Lib.hid Hsm.out, hbd, rfl, hb6, own6⟩
      case measure => simp [intOf]; omega
    · obtain rfl : k = n := by omega
      have htk : L.take k = L := List.take_of_length_le (by rw [Hll.out]; exact Nat.le_refl _)
      rw [htk] at own3
      have hrn : RdN wr wr.heap.size A3 k c3 (fromL L) := RdR.own (ls := ivR (fromL L)) own3 (by unfold ivR; rw [List.length_map, fromL_len]; exact Hll.out) (iv_row _)
      have hown := own3
      clear own3 htk
      go_wp2
      go_ret
      exact ⟨A3, c3, rfl, hrn, hown, hb⟩
theorem from31_any (A : Option Addr) (n c : Nat) (L : List PtT) (w : World) (h : RdP w w.heap.size A n c L) (hq : PtN L) :
    Calls Tryz.prog 36 #[.slice A n c] w fun e w' => ∃ (A' : Option Addr) (c' : Nat), e = .returned (.slice A' n c') ∧ RdN w' w'.heap.size A' n c' (fromL L) ∧ Below w.heap.size w w' :=
  (from31_own A n c L w h hq).mono fun e w' ⟨A', c', h1, h2, _, h4⟩ => ⟨A', c', h1, h2, h4⟩

end Go.Proofs.YtonejdjhdjckjaaGreat

/-
  the document's Put walked (printed by gen_sch6.py).
-/
set_option linter.unusedSimpArgs false
set_option linter.unusedVariables false
namespace Go.Proofs.YtonejdjhdjckjaaGreat
open Go.RowKit NumLaw
attribute [local go_sem] Addr.add_mid
attribute [-go_sem] run_eql_struct run_neq_struct

theorem part_bytes {v : List Int} {p : PtT} {a : Nat} (hq : szQ p.sz) (hm : mx1 p.mn ≤ 100) (h : a + mx1 p.mn ≤ v.length) (ho : okP v (p, a) = true) : (byP v (p, a)).length ≤ 800 := by
  obtain ⟨h1, h2⟩ := put_part hq h
  rw [if_pos ho] at h1
  have h3 := (shape_there h1).2.2
  rw [h2 ho] at h3
  rw [h3]
  unfold widthL
  rw [if_pos (fldsP_right hq), fldsP_sum hq]
  exact Nat.le_trans (Nat.mul_le_mul (szQ_le hq) hm) (by omega)
end Go.Proofs.YtonejdjhdjckjaaGreat
