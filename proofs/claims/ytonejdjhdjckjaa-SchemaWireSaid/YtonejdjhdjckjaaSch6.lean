/-
  Same, sized, numbers, Width's step walked (printed by gen_sch6.py).
-/
import Derived.Test.YtonejdjhdjckjaaSch5
import Derived.Test.YtonejdjhdjckjaaSchSame
import Derived.Test.YtonejdjhdjckjaaStbP
set_option linter.unusedSimpArgs false
set_option linter.unusedVariables false
namespace Go.Proofs.Ytonejdjhdjckjaa
open Go.RowKit NumLaw
attribute [local go_sem] Addr.add_mid
attribute [-go_sem] run_eql_struct run_neq_struct

theorem takeP_ne {α : Type} {L L' : List α} {k : Nat} {x y : α} (hx : L[k]? = some x) (hy : L'[k]? = some y) (h : ¬ x = y) : ¬ L = L' := fun e => h (by rw [e, hy] at hx; injection hx with hx; exact hx.symm)
set_option maxRecDepth 10000 in
set_option maxHeartbeats 4000000 in
theorem qsame31_any (A : Option Addr) (n c : Nat) (A' : Option Addr) (n' c' : Nat) (L L' : List PtT) (w : World) (h : RdP w w.heap.size A n c L) (h' : RdP w w.heap.size A' n' c' L') :
    Calls Try.prog 13 #[.slice A n c, .slice A' n' c'] w fun e w' => e = .returned (.bool (decide (L = L'))) ∧ Below w.heap.size w w' := by
  have hl := h.len
  have hl' := h'.len
  have hmx := h.2.2.2.1
  have hle := h.2.2.1
  have hmx' := h'.2.2.2.1
  have hle' := h'.2.2.1
  unfold maxLen at hmx hmx'
  have Hl := Lib.hid hl
  have Hl' := Lib.hid hl'
  clear hl hl'
  by_cases hn : n = n'
  case neg =>
    have hd : decide (L = L') = false := decide_eq_false (fun e => hn (by rw [← Hl.out, ← Hl'.out, e]))
    have Hd := Lib.hid hd
    have hn' : ¬ (n : Int) = (n' : Int) := by omega
    have hnq : ((n : Int) != (n' : Int)) = true := by simp; omega
    clear hd
    go_enter Try.func13, Try.ntmps13
    go_wp2
    go_ret
    exact ⟨by rw [Hd.out]; rfl, Below.refl _ _⟩
  subst hn
  have hnn : ((n : Int) != (n : Int)) = false := by simp
  have qg := pt_guard
  go_enter Try.func13, Try.ntmps13
  go_wp2_with fail
  go_loopw [5] (fun i wr => ∃ k : Nat, k ≤ n ∧ i = .int .i64 k ∧ Below w.heap.size w wr ∧ Hid (L.take k = L'.take k)) (fun i _ => n - (intOf i).toNat)
  case atStart => exact ⟨0, by omega, rfl, Below.refl _ _, Lib.hid rfl⟩
  case round =>
    obtain ⟨k, hk, rfl, hb, ht⟩ := hrel
    by_cases hlt : k < n
    · have hlt' : (k : Int) < (n : Int) := by omega
      obtain ⟨g, off, x, rfl, hg, hx, hr⟩ := RdP.at_ h hlt
      obtain ⟨g', off', y, rfl, hg', hy, hr'⟩ := RdP.at_ h' hlt
      have Hr := Lib.hid (show ∀ wq, Below w.heap.size w wq → wq.rangeAt g (off + k * 4) (ptC x) from fun wq hbq j v hv => (hbq.cell (p := ⟨g, off + k * 4 + j, none⟩) hg).trans (hr j v hv))
      have Hr' := Lib.hid (show ∀ wq, Below w.heap.size w wq → wq.rangeAt g' (off' + k * 4) (ptC y) from fun wq hbq j v hv => (hbq.cell (p := ⟨g', off' + k * 4 + j, none⟩) hg').trans (hr' j v hv))
      have hq := fun w => pt_neq x y w
      have Hne := Lib.hid (takeP_ne hx hy)
      have Htx := Lib.hid (take_succ hx)
      have Hty := Lib.hid (take_succ hy)
      clear hx hy hr hr'
      go_wp2_with fail
      refine Ord.region_ (fun w' => Below w.heap.size w w') false [] (by kernel_rfl) (by kernel_rfl) hb.drew ?_
      replace hb := hb.drew
      generalize wr.drew = wd at *
      ((with_reducible refine Ord.e_p (v := ?_) ?_ ?_ ?_ ?_); rotate_left; (· exact rfl); (· kernel_rfl); (· intro w2; go_simp; try with_reducible rfl))
      (try simp only [Act.put, List.setIfInBounds_toArray, List.set_cons_zero, List.set_cons_succ])
      ((with_reducible refine Ord.e_p (v := ?_) ?_ ?_ ?_ ?_); rotate_left; (· exact rfl); (· kernel_rfl); (· intro w2; go_simp; try with_reducible rfl))
      (try simp only [Act.put, List.setIfInBounds_toArray, List.set_cons_zero, List.set_cons_succ])
      ((with_reducible refine Ord.e_p (v := ?_) ?_ ?_ ?_ ?_); rotate_left; (· exact rfl); (· kernel_rfl); (· intro w2; go_simp; try with_reducible rfl))
      (try simp only [Act.put, List.setIfInBounds_toArray, List.set_cons_zero, List.set_cons_succ])
      refine Ord.e_rowS (cs := ptC x) (b := g) (o := off + k * 4) Try.underlying28 rfl (by kernel_rfl) rfl (by simp [ptC]) (fun w' hS => Hr.out w' hS) hb (by kernel_rfl) ?_
      (try simp only [Act.put, List.setIfInBounds_toArray, List.set_cons_zero, List.set_cons_succ])
      ((with_reducible refine Ord.e_p (v := ?_) ?_ ?_ ?_ ?_); rotate_left; (· exact rfl); (· kernel_rfl); (· intro w2; go_simp; try with_reducible rfl))
      (try simp only [Act.put, List.setIfInBounds_toArray, List.set_cons_zero, List.set_cons_succ])
      ((with_reducible refine Ord.e_p (v := ?_) ?_ ?_ ?_ ?_); rotate_left; (· exact rfl); (· kernel_rfl); (· intro w2; go_simp; try with_reducible rfl))
      (try simp only [Act.put, List.setIfInBounds_toArray, List.set_cons_zero, List.set_cons_succ])
      ((with_reducible refine Ord.e_p (v := ?_) ?_ ?_ ?_ ?_); rotate_left; (· exact rfl); (· kernel_rfl); (· intro w2; go_simp; try with_reducible rfl))
      (try simp only [Act.put, List.setIfInBounds_toArray, List.set_cons_zero, List.set_cons_succ])
      refine Ord.e_rowS (cs := ptC y) (b := g') (o := off' + k * 4) Try.underlying28 rfl (by kernel_rfl) rfl (by simp [ptC]) (fun w' hS => Hr'.out w' hS) hb (by kernel_rfl) ?_
      (try simp only [Act.put, List.setIfInBounds_toArray, List.set_cons_zero, List.set_cons_succ])
      ((with_reducible refine Ord.e_p (v := ?_) ?_ ?_ ?_ ?_); rotate_left; (· exact rfl); (· kernel_rfl); (· intro w2; go_simp; try with_reducible rfl))
      (try simp only [Act.put, List.setIfInBounds_toArray, List.set_cons_zero, List.set_cons_succ])
      refine Ord.e_nil ?_
      by_cases hxy : x = y
      · subst hxy
        rw [show (!decide (x = x)) = false by simp]
        have Ht2 : Hid (L.take (k + 1) = L'.take (k + 1)) := Lib.hid (by rw [Htx.out, Hty.out, ht.out])
        clear hq
        go_wp2
        go_roundw
        case rel => exact ⟨k + 1, by omega, by go_num, hb, Ht2⟩
        case measure => simp [intOf]; omega
      · have hd : decide (L = L') = false := decide_eq_false (Hne.out hxy)
        have Hd := Lib.hid hd
        rw [show (!decide (x = y)) = true by simp [hxy]]
        clear hd hq hxy
        go_wp2
        go_ret
        exact ⟨by rw [Hd.out]; rfl, hb⟩
    · obtain rfl : k = n := by omega
      have hd : decide (L = L') = true := decide_eq_true (by
        have := ht.out
        rwa [List.take_of_length_le (by rw [Hl.out]; exact Nat.le_refl _), List.take_of_length_le (by rw [Hl'.out]; exact Nat.le_refl _)] at this)
      have Hd := Lib.hid hd
      clear hd
      go_wp2
      go_ret
      exact ⟨by rw [Hd.out]; rfl, hb⟩
set_option maxRecDepth 10000 in
set_option maxHeartbeats 4000000 in
theorem sized_any (A : Option Addr) (n c : Nat) (L : List PtT) (z : Int) (w : World) (h : RdP w w.heap.size A n c L) (hn : n ≤ 1000) :
    Calls Try.prog 14 #[.slice A n c, .int .i64 z] w (RetPt (byS PtT.sz z L) w) := by
  have hll := h.len
  have hmx := h.2.2.2.1
  have hle := h.2.2.1
  unfold maxLen at hmx
  obtain ⟨i1, hi1⟩ := info_parts pt_info
  have Hi1 := Lib.hid hi1
  have Hll := Lib.hid hll
  have Hsn := Lib.hid (fun l (x : PtT) => byS_snoc PtT.sz z l x)
  clear hll hi1
  go_enter Try.func14, Try.ntmps14
  go_wp2_with fail
  go_loopw [5, 6] (fun o i wr => ∃ (k n3 c3 : Nat) (A3 : Option Addr), k ≤ n ∧ n3 ≤ k ∧ i = .int .i64 k ∧ o = .slice A3 n3 c3 ∧ Below w.heap.size w wr ∧ wr.ownsRow w.heap.size 28 4 (.slice A3 n3 c3) n3 ((byS PtT.sz z (L.take k)).map ptC).flatten ∧ Hid ((byS PtT.sz z (L.take k)).length = n3)) (fun _ i _ => n - (intOf i).toNat)
  case atStart => exact ⟨0, 0, 0, none, by omega, by omega, rfl, rfl, Below.refl _ _, World.ownsRow_nil _ _ _ _, Lib.hid rfl⟩
  case round =>
    obtain ⟨k, n3, c3, A3, hk, hn3, rfl, rfl, hb, own3, Hl3⟩ := hrel
    by_cases hlt : k < n
    · have hlt' : (k : Int) < (n : Int) := by omega
      obtain ⟨g, off, x, rfl, hg, hx, hr⟩ := RdP.at_ h hlt
      have k0 := (hb.cell (p := ⟨g, off + k * 4 + 0, none⟩) hg).trans (hr 0 _ rfl)
      have k1 := (hb.cell (p := ⟨g, off + k * 4 + 1, none⟩) hg).trans (hr 1 _ rfl)
      have k2 := (hb.cell (p := ⟨g, off + k * 4 + 2, none⟩) hg).trans (hr 2 _ rfl)
      have k3 := (hb.cell (p := ⟨g, off + k * 4 + 3, none⟩) hg).trans (hr 3 _ rfl)
      rw [Nat.add_zero] at k0
      have Hts := Lib.hid (take_succ hx)
      obtain ⟨s, z1, g1, m1⟩ := x
      dsimp only at k0 k1 k2 k3
      clear hx hr
      by_cases hz : z1 = z
      · subst hz
        have hbn : Below wr.heap.size wr (wr.alloc (.cells #[.string s, .int .i64 z1, .bool g1, .int .i64 m1] 28)) := (Below.refl _ _).alloc (Nat.le_refl _) _
        have hrd : Rd _ _ 4 _ 1 1 (ptC ⟨s, z1, g1, m1⟩) := RdR.rd (RdR.lit (size := 4) (e := 28) wr [ptC ⟨s, z1, g1, m1⟩] #[.string s, .int .i64 z1, .bool g1, .int .i64 m1] rfl (by intro r hr; rw [List.mem_singleton.1 hr]; rfl) (by simp [maxLen]) 1 rfl) (by omega)
        have hb4 := bnx hb hbn
        have own4 := own_up own3 hbn (Nat.le_refl _)
        have Hfl := Lib.hid (show ((byS PtT.sz z1 (L.take k)).map ptC).flatten ++ ptC ⟨s, z1, g1, m1⟩ = ((byS PtT.sz z1 (L.take (k + 1))).map ptC).flatten by rw [Hts.out, Hsn.out, if_pos rfl]; exact pt_flat _ _)
        have Hl4 := Lib.hid (show (byS PtT.sz z1 (L.take (k + 1))).length = n3 + 1 by rw [Hts.out, Hsn.out, if_pos rfl, List.length_append, Hl3.out]; rfl)
        clear hb own3 hbn
        go_wp2_with (at_builtin; refine stop_ ?_)
        generalize (wr.alloc (.cells #[.string s, .int .i64 z1, .bool g1, .int .i64 m1] 28)) = w4 at *
        refine go_ (wpList_appG (base := w.heap.size) (n := n3) Try.underlying22 Hi1.out rfl (by omega) own4 rfl hrd rfl (ptC_one _) (k := n3 + 1) rfl Hfl.out (by unfold maxLen; omega) (by omega) hb4.size ?_)
        clear k0 k1 k2 k3
        intro A5 c5 w5 own5 hgr hob
        have hb5 := Below.grown hb4 hgr hb4.size (fun j hj => (own_blk own4 hj).1)
        clear hgr hob own4 hrd hb4
        go_wp2
        go_roundw
        case rel => exact ⟨k + 1, n3 + 1, c5, A5, by omega, by omega, by go_num, rfl, hb5, own5, Hl4⟩
        case measure => simp [intOf]; omega
      · have hzq : (z1 == z) = false := by rw [beq_eq_false_iff_ne]; exact hz
        have He := Lib.hid (show byS PtT.sz z (L.take (k + 1)) = byS PtT.sz z (L.take k) by rw [Hts.out, Hsn.out, if_neg hz])
        rw [← He.out] at own3
        have Hl4 := Lib.hid (show (byS PtT.sz z (L.take (k + 1))).length = n3 by rw [He.out]; exact Hl3.out)
        go_wp2
        go_roundw
        case rel => exact ⟨k + 1, n3, c3, A3, by omega, by omega, by go_num, rfl, hb, own3, Hl4⟩
        case measure => simp [intOf]; omega
    · obtain rfl : k = n := by omega
      have htk : L.take k = L := List.take_of_length_le (by rw [Hll.out]; exact Nat.le_refl _)
      rw [htk] at own3 Hl3
      have hrp := RdP.own own3 Hl3.out
      clear own3 htk
      go_wp2
      go_ret
      exact ⟨A3, n3, c3, rfl, hrp, hb⟩
theorem mx1_int (m : Int) : (if 1 > m then (1 : Int) else m) = (mx1 m : Int) := by
  unfold mx1
  by_cases h : m < 1
  · rw [if_pos h, if_pos (show 1 > m from h)]; rfl
  · rw [if_neg h, if_neg (show ¬ 1 > m from h)]; omega
theorem numbers_any (p : PtT) (w : World) : Calls Try.prog 50 #[.agg (ptC p).toArray] w fun e w' => e = .returned (.int .i64 (mx1 p.mn : Int)) ∧ Below w.heap.size w w' := by
  obtain ⟨s, z, g, m⟩ := p
  have hb := (Below.refl w.heap.size w).alloc (Nat.le_refl _) (.cells #[.string s, .int .i64 z, .bool g, .int .i64 m] 28)
  have a0 := heap_alloc_new w (.cells #[.string s, .int .i64 z, .bool g, .int .i64 m] 28)
  have k0 := blk_cell (i := 3) (v := .int .i64 m) a0 rfl
  have hm := mx1_int m
  show Calls _ _ #[.agg #[.string s, .int .i64 z, .bool g, .int .i64 m]] _ _
  have Hm := Lib.hid hm
  clear hm
  by_cases hc : m < 1
  · have hv : (mx1 m : Int) = 1 := by rw [← Hm.out, if_pos (show 1 > m from hc)]
    have Hv := Lib.hid hv
    clear hv
    go_enter Try.func50, Try.ntmps50
    go_wp2
    go_ret
    exact ⟨by show _ = Ending.returned (.int .i64 (mx1 m : Int)); rw [Hv.out]; rfl, hb⟩
  · have hv : (mx1 m : Int) = m := by rw [← Hm.out, if_neg (show ¬ 1 > m from hc)]
    have Hv := Lib.hid hv
    clear hv
    go_enter Try.func50, Try.ntmps50
    go_wp2
    go_ret
    exact ⟨by show _ = Ending.returned (.int .i64 (mx1 m : Int)); rw [Hv.out]; rfl, hb⟩
set_option maxRecDepth 10000 in
theorem width1_any (p : PtT) (hq : szQ p.sz) (hm : mx1 p.mn ≤ 1000) (w : World) : Calls Try.prog 52 #[.agg (ptC p).toArray] w fun e w' => e = .returned (.int .i64 ((p.sz.toNat * mx1 p.mn : Nat) : Int)) ∧ Below w.heap.size w w' := by
  have hnum := fun w => numbers_any p w
  obtain ⟨s, z, g, m⟩ := p
  have hq : szQ z := hq
  have hm : mx1 m ≤ 1000 := hm
  obtain ⟨zn, hzn⟩ : ∃ zn : Nat, z = zn := ⟨z.toNat, by rcases hq with rfl | rfl | rfl | rfl <;> rfl⟩
  have hz8 : zn ≤ 8 := by rcases hq with h | h | h | h <;> omega
  subst hzn
  obtain ⟨mm, hmm⟩ : ∃ v, v = mx1 m := ⟨_, rfl⟩
  have hnum2 : ∀ w, Calls Try.prog 50 #[.agg (ptC ⟨s, (zn : Int), g, m⟩).toArray] w fun e w' => e = .returned (.int .i64 (mm : Int)) ∧ Below w.heap.size w w' := fun w => by rw [hmm]; exact hnum w
  show Calls _ _ #[.agg #[.string s, .int .i64 (zn : Int), .bool g, .int .i64 m]] _ (fun e w' => e = .returned (.int .i64 ((zn * mx1 m : Nat) : Int)) ∧ Below w.heap.size w w')
  rw [← hmm] at hm ⊢
  have hmul : zn * mm ≤ 8000 := Nat.le_trans (Nat.mul_le_mul hz8 hm) (by omega)
  have Hnum := Lib.hid hnum2
  have hb := (Below.refl w.heap.size w).alloc (Nat.le_refl _) (.cells #[.string s, .int .i64 (zn : Int), .bool g, .int .i64 m] 28)
  have a0 := heap_alloc_new w (.cells #[.string s, .int .i64 (zn : Int), .bool g, .int .i64 m] 28)
  have hww : IntKind.i64.wrap ((zn : Int) * (mm : Int)) = ((zn * mm : Nat) : Int) := by
    rw [← Int.natCast_mul]
    generalize zn * mm = d at *
    exact IntWalk.i64_in _ (by omega)
  have Hww := Lib.hid hww
  clear hnum hnum2 hmm hq hmul hww
  go_enter Try.func52, Try.ntmps52
  go_wp2_with fail
  generalize (w.alloc (.cells #[.string s, .int .i64 (zn : Int), .bool g, .int .i64 m] 28)) = w1 at *
  have hlt := blk_lt a0
  refine Ord.region_ (fun w' => Below w1.heap.size w1 w') false [] (by kernel_rfl) (by kernel_rfl) (Below.refl _ _).drew ?_
  have hS : Below w1.heap.size w1 w1.drew := (Below.refl _ _).drew
  generalize w1.drew = wd at *
  have hrow : w1.rangeAt w.heap.size 0 (ptC ⟨s, (zn : Int), g, m⟩) := fun j v hv => blk_cell (i := 0 + j) a0 (by rw [Nat.zero_add]; simpa [ptC] using hv)
  have hat : ∀ w', Below w1.heap.size w1 w' → w'.rangeAt w.heap.size 0 (ptC ⟨s, (zn : Int), g, m⟩) := fun w' hb' j v hv => (hb'.cell (p := ⟨w.heap.size, 0 + j, none⟩) hlt).trans (hrow j v hv)
  have hat1 : ∀ w', Below w1.heap.size w1 w' → w'.cell? ⟨w.heap.size, 1, none⟩ = some (.int .i64 (zn : Int)) := fun w' hb' => hat w' hb' 1 _ rfl
  ((with_reducible refine Ord.e_p (v := ?_) ?_ ?_ ?_ ?_); rotate_left; (· exact rfl); (· kernel_rfl); (· intro w2; go_simp; try with_reducible rfl))
  (try simp only [Act.put, List.setIfInBounds_toArray, List.set_cons_zero, List.set_cons_succ])
  refine Ord.e_loadS (ad := ⟨w.heap.size, 1, none⟩) (v := .int .i64 (zn : Int)) Try.underlying3 rfl (fun w' hS => hat1 w' hS) hS rfl (by kernel_rfl) ?_
  (try simp only [Act.put, List.setIfInBounds_toArray, List.set_cons_zero, List.set_cons_succ])
  refine Ord.e_rowS (cs := ptC ⟨s, (zn : Int), g, m⟩) (b := w.heap.size) (o := 0) Try.underlying28 rfl (by kernel_rfl) rfl (by simp [ptC]) (fun w' hS => hat w' hS) hS (by kernel_rfl) ?_
  (try simp only [Act.put, List.setIfInBounds_toArray, List.set_cons_zero, List.set_cons_succ])
  refine Ord.e_x rfl (by kernel_rfl) ?_
  go_wp2_with fail
  go_fit (Hnum.out wd)
  rintro e w2 ⟨rfl, hbx⟩
  replace hS := bnx hS hbx
  go_wp2_with fail
  refine Ord.Seg.go hS (fun h => by cases h) ?_
  (try simp only [Act.put, List.setIfInBounds_toArray, List.set_cons_zero, List.set_cons_succ])
  have hww := Hww.out
  refine Ord.e_p (v := .int .i64 ((zn * mm : Nat) : Int)) rfl (by kernel_rfl) (fun w2 => by go_simp) ?_
  (try simp only [Act.put, List.setIfInBounds_toArray, List.set_cons_zero, List.set_cons_succ])
  clear hww
  ((with_reducible refine Ord.e_p (v := ?_) ?_ ?_ ?_ ?_); rotate_left; (· exact rfl); (· kernel_rfl); (· intro w2; go_simp; try with_reducible rfl))
  (try simp only [Act.put, List.setIfInBounds_toArray, List.set_cons_zero, List.set_cons_succ])
  refine Ord.e_nil ?_
  have hbf := bnx hb hS
  go_wp2
  go_ret
  exact ⟨rfl, hbf⟩

end Go.Proofs.Ytonejdjhdjckjaa
