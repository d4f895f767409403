/-
  stable at parts, greater, Wire walked (printed by gen_stb.py).
-/
import Derived.Test.YtonejdjhdjckjaaGreatSch1
import Derived.Test.YtonejdjhdjckjaaGreatStbW
import Derived.Test.YtonejdjhdjckjaaGreatOrder
import Derived.Test.YtonejdjhdjckjaaGreatCells
set_option linter.unusedSimpArgs false
set_option linter.unusedVariables false
namespace Go.Proofs.YtonejdjhdjckjaaGreat
open Go.RowKit NumLaw
attribute [local go_sem] Addr.add_mid

theorem swap_rows {α : Type} (p s r : List α) (x y : α) (q j : Nat) (hq : q = j + 1) (hj : p.length = j) : (((p ++ [y]) ++ x :: s ++ r).set q y).set j x = p ++ x :: (y :: s) ++ r := by
  subst hq
  rw [show p ++ [y] ++ x :: s ++ r = p ++ (y :: x :: (s ++ r)) by simp, List.set_append_right (h := by omega), hj, show j + 1 - j = 1 by omega, List.set_append_right (h := by omega), hj, Nat.sub_self]
  simp
theorem RW.drew {w : World} {g : Nat} {t : TypeId} {rows : List (List Value)} (h : RW w g t rows) : RW w.drew g t rows := h
theorem h4set {size : Nat} {rows : List (List Value)} (ha : ∀ r ∈ rows, r.length = size) {k : Nat} {r' : List Value} (hr : r'.length = size) : ∀ r ∈ rows.set k r', r.length = size := fun r h => by
  rcases List.mem_or_eq_of_mem_set h with h | rfl
  · exact ha r h
  · exact hr
theorem greater_any (a b : PtT) (w : World) : Calls Tryz.prog 75 #[.agg (ptC a).toArray, .agg (ptC b).toArray] w fun e w' => e = .returned (.bool (decide (b.sz < a.sz))) ∧ Below w.heap.size w w' := by
  obtain ⟨s1, z1, g1, m1⟩ := a
  obtain ⟨s2, z2, g2, m2⟩ := b
  obtain ⟨a0, a1, hs, hb⟩ := al2 w (.cells #[.string s1, .int .i64 z1, .bool g1, .int .i64 m1] 71) (.cells #[.string s2, .int .i64 z2, .bool g2, .int .i64 m2] 71)
  have k0 := blk_cell (i := 1) (v := .int .i64 z1) a0 rfl
  have k1 := blk_cell (i := 1) (v := .int .i64 z2) a1 rfl
  show Calls _ _ #[.agg #[.string s1, .int .i64 z1, .bool g1, .int .i64 m1], .agg #[.string s2, .int .i64 z2, .bool g2, .int .i64 m2]] _ _
  go_enter Tryz.func75, Tryz.ntmps75
  go_wp2
  go_ret
  exact ⟨rfl, hb⟩
set_option maxRecDepth 20000 in
set_option maxHeartbeats 16000000 in
theorem stableP_any (A : Option Addr) (n c : Nat) (L : List PtT) (w : World) (h : RdR w w.heap.size 4 A n c (L.map ptC)) (hn : n ≤ 1000) :
    Calls Tryz.prog 74 #[.slice A n c, .func (.func 75) #[] #[]] w fun e w' => ∃ (A' : Option Addr) (c' : Nat), e = .returned (.slice A' n c') ∧ RdR w' w'.heap.size 4 A' n c' ((stb PtT.sz L).map ptC) ∧ Below w.heap.size w w' := by
  have hll : L.length = n := by have := h.1; rwa [List.length_map] at this
  have hmx := h.2.2.2.1
  have hle := h.2.2.1
  unfold maxLen at hmx
  obtain ⟨i1, hi1⟩ := info_parts pt_info
  have Hi1 := Lib.hid hi1
  have Hll := Lib.hid hll
  have Hha := Lib.hid greater_any
  have h4 : ∀ (M : List PtT), ∀ r ∈ M.map ptC, r.length = 4 := fun M r hr => by obtain ⟨p, _, rfl⟩ := List.mem_map.1 hr; rfl
  have H4 := Lib.hid h4
  have hone : ∀ u ∈ (L.map ptC).flatten, u.oneCell' = true := fun u hu => by
    obtain ⟨r, hr, hu⟩ := List.mem_flatten.1 hu
    obtain ⟨p, _, rfl⟩ := List.mem_map.1 hr
    exact ptC_one p u hu
  have Hone := Lib.hid hone
  have Hsl := Lib.hid (stb_len PtT.sz)
  clear hll hi1 h4 hone
  go_enter Tryz.func74, Tryz.ntmps74
  go_wp2_with (with_reducible refine stop_makeR ?_)
  refine go_ (wpList_make_full w rfl _ _ _ rfl w.heap.size 71 i1 (.agg #[.string ⟨#[]⟩, .int .i64 0, .bool false, .int .i64 0]) 4 Tryz.underlying55 Hi1.out.1 Hi1.out.2.1 Hi1.out.2.2.1 .i64 .i64 _ _ n rfl rfl rfl rfl (by rw [Hi1.out.2.2.2]; omega) (by unfold maxLen; omega) (Nat.le_refl _) ?_)
  intro w1 own1 hgr
  have hb1 : Below w.heap.size w w1 := Below.grown (Below.refl _ _) hgr (Nat.le_refl _) (fun j hj => by cases hj)
  obtain ⟨cur, hg1, hcs, _⟩ := own_full own1
  have hr1 := RdR.up h hb1
  clear own1 hgr
  go_wp2_with (with_reducible refine stop_copyR ?_)
  obtain ⟨w2, hrun, hrw, hbq⟩ := run_copy_RW (P := Tryz.prog) (ty := 3) (dT := 55) (sT := 55) (dCap := n) Tryz.underlying55 Hi1.out.1 Hi1.out.2.2.1 (by omega) hg1 hcs hr1 Hone.out
  have hb2 := hbq _ _ hb1 (Nat.le_refl _)
  refine go_ (wpList_copy_run' rfl rfl hrun ?_)
  obtain ⟨g, hgg⟩ : ∃ g, g = w.heap.size := ⟨_, rfl⟩
  have Hg := Lib.hid hgg
  rw [← hgg] at hrw ⊢
  clear hrun hbq hg1 hcs hr1 hb1 hgg w1
  go_wp2_with fail
  go_loopw [16] (fun t wr => ∃ i : Nat, i ≤ n ∧ t = .int .i64 i ∧ Hid (RW wr g 71 ((stb PtT.sz (L.take i) ++ L.drop i).map ptC)) ∧ Below w.heap.size w wr) (fun t _ => n - (intOf t).toNat)
  case atStart => exact ⟨0, by omega, rfl, Lib.hid (by simpa [stb_nil] using hrw), hb2⟩
  case round =>
    clear hrw hb2 w2
    obtain ⟨i, hi, rfl, hrw, hb⟩ := hrel
    by_cases hlt : i < n
    · have hlt' : (i : Int) < (n : Int) := by omega
      obtain ⟨x, hx⟩ : ∃ x, L[i]? = some x := ⟨_, List.getElem?_eq_getElem (by rw [Hll.out]; exact hlt)⟩
      have hdr : L.drop i = x :: L.drop (i + 1) := by
        have h1 := List.drop_eq_getElem_cons (l := L) (i := i) (by rw [Hll.out]; exact hlt)
        rw [List.getElem?_eq_getElem (by rw [Hll.out]; exact hlt)] at hx
        injection hx with hx
        rw [h1, hx]
      have Htx := Lib.hid (take_succ hx)
      have hrw0 := hrw.out
      rw [hdr] at hrw0
      have Hrw0 := Lib.hid hrw0
      have hsl0 : (stb PtT.sz (L.take i)).length = i := by rw [Hsl.out, List.length_take, Hll.out]; omega
      have Hsl0 := Lib.hid hsl0
      clear hx hdr hrw hrw0 hsl0
      go_wp2_with fail
      go_loopw [7] (fun k wr => ∃ (q : Nat) (p s : List PtT), q ≤ i ∧ k = .int .i64 q ∧ Hid (p.length = q) ∧ Hid (stb PtT.sz (L.take i) = p ++ s ∧ ∀ y ∈ s, PtT.sz y < PtT.sz x) ∧ Hid (RW wr g 71 ((p ++ x :: s ++ L.drop (i + 1)).map ptC)) ∧ Below w.heap.size w wr) (fun k _ => (intOf k).toNat)
      case atStart => exact ⟨i, stb PtT.sz (L.take i), [], by omega, rfl, Hsl0, Lib.hid ⟨by simp, by simp⟩, Lib.hid (by simpa using Hrw0.out), hb⟩
      case round =>
        clear hb Hrw0
        obtain ⟨q, p, s, hq, rfl, Hp, Hs, Hrw, hb⟩ := hrel
        have hgw : g < wr.heap.size := blk_lt Hrw.out
        by_cases hq0 : q = 0
        · subst hq0
          have hp0 : p = [] := List.eq_nil_of_length_eq_zero Hp.out
          have hst := stb_at PtT.sz Hs.out.1 Hs.out.2 (.inl hp0)
          have Hst := Lib.hid (show RW wr g 71 ((stb PtT.sz (L.take (i + 1)) ++ L.drop (i + 1)).map ptC) by rw [Htx.out, hst]; exact Hrw.out)
          clear hp0 hst
          rw [show ((0 : Nat) : Int) = 0 from rfl]
          go_wp2_with fail
          refine Ord.region_ (fun w' => Below wr.heap.size wr w') false [] (by kernel_rfl) (by kernel_rfl) (Below.refl _ _).drew ?_
          have hS : Below wr.heap.size wr wr.drew := (Below.refl _ _).drew
          generalize wr.drew = wd at *
          ((with_reducible refine Ord.e_p (v := ?_) ?_ ?_ ?_ ?_); rotate_left; (· exact rfl); (· kernel_rfl); (· intro w2; go_simp; try with_reducible rfl))
          (try simp only [Act.put, List.setIfInBounds_toArray, List.set_cons_zero, List.set_cons_succ])
          ((with_reducible refine Ord.e_p (v := ?_) ?_ ?_ ?_ ?_); rotate_left; (· exact rfl); (· kernel_rfl); (· intro w2; go_simp; try with_reducible rfl))
          (try simp only [Act.put, List.setIfInBounds_toArray, List.set_cons_zero, List.set_cons_succ])
          ((with_reducible refine Ord.e_p (v := ?_) ?_ ?_ ?_ ?_); rotate_left; (· exact rfl); (· kernel_rfl); (· intro w2; go_simp; try with_reducible rfl))
          (try simp only [Act.put, List.setIfInBounds_toArray, List.set_cons_zero, List.set_cons_succ])
          ((with_reducible refine Ord.e_u ?_ ?_); (· kernel_rfl))
          (try simp only [Act.put, List.setIfInBounds_toArray, List.set_cons_zero, List.set_cons_succ])
          ((with_reducible refine Ord.e_u ?_ ?_); (· kernel_rfl))
          (try simp only [Act.put, List.setIfInBounds_toArray, List.set_cons_zero, List.set_cons_succ])
          ((with_reducible refine Ord.e_u ?_ ?_); (· kernel_rfl))
          (try simp only [Act.put, List.setIfInBounds_toArray, List.set_cons_zero, List.set_cons_succ])
          ((with_reducible refine Ord.e_u ?_ ?_); (· kernel_rfl))
          (try simp only [Act.put, List.setIfInBounds_toArray, List.set_cons_zero, List.set_cons_succ])
          ((with_reducible refine Ord.e_u ?_ ?_); (· kernel_rfl))
          (try simp only [Act.put, List.setIfInBounds_toArray, List.set_cons_zero, List.set_cons_succ])
          ((with_reducible refine Ord.e_u ?_ ?_); (· kernel_rfl))
          (try simp only [Act.put, List.setIfInBounds_toArray, List.set_cons_zero, List.set_cons_succ])
          ((with_reducible refine Ord.e_u ?_ ?_); (· kernel_rfl))
          (try simp only [Act.put, List.setIfInBounds_toArray, List.set_cons_zero, List.set_cons_succ])
          ((with_reducible refine Ord.e_u ?_ ?_); (· kernel_rfl))
          (try simp only [Act.put, List.setIfInBounds_toArray, List.set_cons_zero, List.set_cons_succ])
          ((with_reducible refine Ord.e_u ?_ ?_); (· kernel_rfl))
          (try simp only [Act.put, List.setIfInBounds_toArray, List.set_cons_zero, List.set_cons_succ])
          ((with_reducible refine Ord.e_u ?_ ?_); (· kernel_rfl))
          (try simp only [Act.put, List.setIfInBounds_toArray, List.set_cons_zero, List.set_cons_succ])
          ((with_reducible refine Ord.e_u ?_ ?_); (· kernel_rfl))
          (try simp only [Act.put, List.setIfInBounds_toArray, List.set_cons_zero, List.set_cons_succ])
          ((with_reducible refine Ord.e_p (v := ?_) ?_ ?_ ?_ ?_); rotate_left; (· exact rfl); (· kernel_rfl); (· intro w2; go_simp; try with_reducible rfl))
          (try simp only [Act.put, List.setIfInBounds_toArray, List.set_cons_zero, List.set_cons_succ])
          refine Ord.e_nil ?_
          have hbf := bnx hb hS
          have Hst2 := Lib.hid (Hst.out.old hS hgw)
          clear Hst hb hS
          go_wp2
          go_roundw
          case rel => exact ⟨i + 1, by omega, by go_num, Hst2, hbf⟩
          case measure => simp [intOf]; omega
        · obtain ⟨j, hj⟩ : ∃ j, q = j + 1 := ⟨q - 1, by omega⟩
          have Hj := Lib.hid hj
          obtain ⟨y, hy⟩ : ∃ y, p[j]? = some y := ⟨_, List.getElem?_eq_getElem (by rw [Hp.out]; omega)⟩
          have hpy : p = p.take j ++ [y] := by
            have := take_succ hy
            rwa [List.take_of_length_le (by rw [Hp.out]; omega)] at this
          obtain ⟨p', hp'⟩ : ∃ p', p' = p.take j := ⟨_, rfl⟩
          rw [← hp'] at hpy
          have hpl' : p'.length = j := by have := Hp.out; rw [hpy, List.length_append] at this; simp at this; omega
          have hRW := Hrw.out
          rw [hpy] at hRW
          have hk1 : (((p' ++ [y]) ++ x :: s ++ L.drop (i + 1)).map ptC)[q]? = some (ptC x) := by
            rw [List.getElem?_map, List.append_assoc, List.getElem?_append_right (by rw [List.length_append, hpl']; simp; omega), List.length_append, hpl', hj]; simp
          have hk2 : (((p' ++ [y]) ++ x :: s ++ L.drop (i + 1)).map ptC)[j]? = some (ptC y) := by
            rw [List.getElem?_map, List.append_assoc, List.append_assoc, List.getElem?_append_right (by omega), hpl']; simp
          have hlen : q < (((p' ++ [y]) ++ x :: s ++ L.drop (i + 1)).map ptC).length := (List.getElem?_eq_some_iff.1 hk1).1
          have Hk := Lib.hid (And.intro hk1 hk2)
          have HRW := Lib.hid hRW
          have Hpp := Lib.hid (And.intro hpy hpl')
          have Hlen := Lib.hid hlen
          have hqn : (q : Int) < (n : Int) := by omega
          have hjn : (j : Int) < (n : Int) := by omega
          have h0q : (0 : Int) < (q : Int) := by omega
          have hdt : decide ((0 : Int) < (q : Int)) = true := decide_eq_true h0q
          have hdt2 : decide (0 < q) = true := decide_eq_true (by omega)
          have hw0 : IntKind.i64.wrap ((q : Int) - 1) = (j : Int) := by have := Hj.out; rw [IntWalk.i64_in _ (by omega)]; omega
          have Hrx := Lib.hid (show ∀ w', Below wr.heap.size wr w' → w'.rangeAt g (q * 4) (ptC x) from fun w' hb' => (HRW.out.old hb' hgw).at_ (H4.out _) hk1)
          have Hry := Lib.hid (show ∀ w', Below wr.heap.size wr w' → w'.rangeAt g (j * 4) (ptC y) from fun w' hb' => (HRW.out.old hb' hgw).at_ (H4.out _) hk2)
          have Hahc := Lib.hid (fun w => Hha.out x y w)
          clear hj hy hpy hp' hpl' hRW hk1 hk2 hlen hq0
          go_wp2_with fail
          refine Ord.region_ (fun w' => Below wr.heap.size wr w') false [] (by kernel_rfl) (by kernel_rfl) (Below.refl _ _).drew ?_
          have hS : Below wr.heap.size wr wr.drew := (Below.refl _ _).drew
          generalize wr.drew = wd at *
          ((with_reducible refine Ord.e_p (v := ?_) ?_ ?_ ?_ ?_); rotate_left; (· exact rfl); (· kernel_rfl); (· intro w2; go_simp; try with_reducible rfl))
          (try simp only [Act.put, List.setIfInBounds_toArray, List.set_cons_zero, List.set_cons_succ])
          ((with_reducible refine Ord.e_p (v := ?_) ?_ ?_ ?_ ?_); rotate_left; (· exact rfl); (· kernel_rfl); (· intro w2; go_simp; try with_reducible rfl))
          (try simp only [Act.put, List.setIfInBounds_toArray, List.set_cons_zero, List.set_cons_succ])
          ((with_reducible refine Ord.e_p (v := ?_) ?_ ?_ ?_ ?_); rotate_left; (· exact rfl); (· kernel_rfl); (· intro w2; go_simp; try with_reducible rfl))
          (try simp only [Act.put, List.setIfInBounds_toArray, List.set_cons_zero, List.set_cons_succ])
          ((with_reducible refine Ord.e_p (v := ?_) ?_ ?_ ?_ ?_); rotate_left; (· exact rfl); (· kernel_rfl); (· intro w2; go_simp; try with_reducible rfl))
          (try simp only [Act.put, List.setIfInBounds_toArray, List.set_cons_zero, List.set_cons_succ])
          ((with_reducible refine Ord.e_p (v := ?_) ?_ ?_ ?_ ?_); rotate_left; (· exact rfl); (· kernel_rfl); (· intro w2; go_simp; try with_reducible rfl))
          (try simp only [Act.put, List.setIfInBounds_toArray, List.set_cons_zero, List.set_cons_succ])
          ((with_reducible refine Ord.e_p (v := ?_) ?_ ?_ ?_ ?_); rotate_left; (· exact rfl); (· kernel_rfl); (· intro w2; go_simp; try with_reducible rfl))
          (try simp only [Act.put, List.setIfInBounds_toArray, List.set_cons_zero, List.set_cons_succ])
          ((with_reducible refine Ord.e_p (v := ?_) ?_ ?_ ?_ ?_); rotate_left; (· exact rfl); (· kernel_rfl); (· intro w2; go_simp; try with_reducible rfl))
          (try simp only [Act.put, List.setIfInBounds_toArray, List.set_cons_zero, List.set_cons_succ])
          refine Ord.e_rowS (cs := ptC x) (b := g) (o := q * 4) Tryz.underlying71 rfl (by kernel_rfl) rfl (by simp [ptC]) (fun w' hS => (Hrx.out w' hS)) hS (by kernel_rfl) ?_
          (try simp only [Act.put, List.setIfInBounds_toArray, List.set_cons_zero, List.set_cons_succ])
          ((with_reducible refine Ord.e_p (v := ?_) ?_ ?_ ?_ ?_); rotate_left; (· exact rfl); (· kernel_rfl); (· intro w2; go_simp; try with_reducible rfl))
          (try simp only [Act.put, List.setIfInBounds_toArray, List.set_cons_zero, List.set_cons_succ])
          ((with_reducible refine Ord.e_p (v := ?_) ?_ ?_ ?_ ?_); rotate_left; (· exact rfl); (· kernel_rfl); (· intro w2; go_simp; try with_reducible rfl))
          (try simp only [Act.put, List.setIfInBounds_toArray, List.set_cons_zero, List.set_cons_succ])
          ((with_reducible refine Ord.e_p (v := ?_) ?_ ?_ ?_ ?_); rotate_left; (· exact rfl); (· kernel_rfl); (· intro w2; go_simp; try with_reducible rfl))
          (try simp only [Act.put, List.setIfInBounds_toArray, List.set_cons_zero, List.set_cons_succ])
          ((with_reducible refine Ord.e_p (v := ?_) ?_ ?_ ?_ ?_); rotate_left; (· exact rfl); (· kernel_rfl); (· intro w2; go_simp; try with_reducible rfl))
          (try simp only [Act.put, List.setIfInBounds_toArray, List.set_cons_zero, List.set_cons_succ])
          refine Ord.e_rowS (cs := ptC y) (b := g) (o := j * 4) Tryz.underlying71 rfl (by kernel_rfl) rfl (by simp [ptC]) (fun w' hS => (Hry.out w' hS)) hS (by kernel_rfl) ?_
          (try simp only [Act.put, List.setIfInBounds_toArray, List.set_cons_zero, List.set_cons_succ])
          refine Ord.e_x rfl (by kernel_rfl) ?_
          go_wp2_with fail
          go_fit (Hahc.out wd)
          rintro e we ⟨rfl, hbx⟩
          replace hS := bnx hS hbx
          go_wp2_with fail
          refine Ord.Seg.go hS (fun h => by cases h) ?_
          (try simp only [Act.put, List.setIfInBounds_toArray, List.set_cons_zero, List.set_cons_succ])
          clear hbx Hahc
          have hbf := bnx hb hS
          have hgw2 : g < we.heap.size := Nat.lt_of_lt_of_le hgw hS.size
          have HRW2 := Lib.hid (HRW.out.old hS hgw)
          have hrx := Hrx.out we hS
          have hry := Hry.out we hS
          by_cases hyx : PtT.sz y < PtT.sz x
          · rw [decide_eq_true hyx]
            ((with_reducible refine Ord.e_p (v := ?_) ?_ ?_ ?_ ?_); rotate_left; (· exact rfl); (· kernel_rfl); (· intro w2; go_simp; try with_reducible rfl))
            (try simp only [Act.put, List.setIfInBounds_toArray, List.set_cons_zero, List.set_cons_succ])
            refine Ord.e_nil ?_
            have hoy := all_oneCell_toArray (ptC_one y)
            have hox := all_oneCell_toArray (ptC_one x)
            have hrws := HRW2.out
            clear hS hgw hgw2 HRW2
            go_wp2_with fail
            refine Ord.region_ (fun _ => True) false [46, 50] (by kernel_rfl) (by kernel_rfl) trivial ?_
            replace hrx : we.drew.rangeAt g (q * 4) (ptC x) := hrx
            replace hry : we.drew.rangeAt g (j * 4) (ptC y) := hry
            replace hrws := hrws.drew
            replace hbf : Below w.heap.size w we.drew := hbf.drew
            generalize we.drew = wf at *
            have hset1 := hrws.set (H4.out _) (k := q) (r' := ptC y) (by exact Hlen.out) rfl
            have hl2 := h4set (H4.out (((p' ++ [y]) ++ x :: s ++ L.drop (i + 1)))) (k := q) (r' := ptC y) rfl
            have hset2 := hset1.set hl2 (k := j) (r' := ptC x) (by rw [List.length_set]; have := Hlen.out; have := Hj.out; omega) rfl
            have hsw : ((((p' ++ [y]) ++ x :: s ++ L.drop (i + 1)).map ptC).set q (ptC y)).set j (ptC x) = ((p' ++ x :: (y :: s) ++ L.drop (i + 1)).map ptC) := by
              rw [← List.map_set, ← List.map_set, swap_rows p' s (L.drop (i + 1)) x y q j Hj.out Hpp.out.2]
            rw [hsw] at hset2
            have Hset := Lib.hid hset2
            have Hs2 := Lib.hid (show stb PtT.sz (L.take i) = p' ++ (y :: s) ∧ ∀ z ∈ (y :: s), PtT.sz z < PtT.sz x from ⟨by rw [Hs.out.1, Hpp.out.1]; simp, fun z hz => by
              rcases List.mem_cons.1 hz with rfl | hz
              · exact hyx
              · exact Hs.out.2 z hz⟩)
            have hth1 := hrws.there (H4.out _) Hk.out.1 (n := 4) rfl
            have hth2 := hset1.there hl2 (k := j) (r := ptC y) (by rw [List.getElem?_set_ne (by have := Hj.out; omega)]; exact Hk.out.2) (n := 4) rfl
            have hbs1 := below_setCells (g := g) (by rw [← Hg.out]; exact Nat.le_refl _) (ptC y) (q * 4) wf hbf
            have hbs2 := below_setCells (g := g) (by rw [← Hg.out]; exact Nat.le_refl _) (ptC x) (j * 4) _ hbs1
            clear hset2 hsw hl2 hset1
            ((with_reducible refine Ord.e_p (v := ?_) ?_ ?_ ?_ ?_); rotate_left; (· exact rfl); (· kernel_rfl); (· intro w2; go_simp; try with_reducible rfl))
            (try simp only [Act.put, List.setIfInBounds_toArray, List.set_cons_zero, List.set_cons_succ])
            ((with_reducible refine Ord.e_p (v := ?_) ?_ ?_ ?_ ?_); rotate_left; (· exact rfl); (· kernel_rfl); (· intro w2; go_simp; try with_reducible rfl))
            (try simp only [Act.put, List.setIfInBounds_toArray, List.set_cons_zero, List.set_cons_succ])
            ((with_reducible refine Ord.e_p (v := ?_) ?_ ?_ ?_ ?_); rotate_left; (· exact rfl); (· kernel_rfl); (· intro w2; go_simp; try with_reducible rfl))
            (try simp only [Act.put, List.setIfInBounds_toArray, List.set_cons_zero, List.set_cons_succ])
            ((with_reducible refine Ord.e_p (v := ?_) ?_ ?_ ?_ ?_); rotate_left; (· exact rfl); (· kernel_rfl); (· intro w2; go_simp; try with_reducible rfl))
            (try simp only [Act.put, List.setIfInBounds_toArray, List.set_cons_zero, List.set_cons_succ])
            ((with_reducible refine Ord.e_p (v := ?_) ?_ ?_ ?_ ?_); rotate_left; (· exact rfl); (· kernel_rfl); (· intro w2; go_simp; try with_reducible rfl))
            (try simp only [Act.put, List.setIfInBounds_toArray, List.set_cons_zero, List.set_cons_succ])
            ((with_reducible refine Ord.e_p (v := ?_) ?_ ?_ ?_ ?_); rotate_left; (· exact rfl); (· kernel_rfl); (· intro w2; go_simp; try with_reducible rfl))
            (try simp only [Act.put, List.setIfInBounds_toArray, List.set_cons_zero, List.set_cons_succ])
            ((with_reducible refine Ord.e_p (v := ?_) ?_ ?_ ?_ ?_); rotate_left; (· exact rfl); (· kernel_rfl); (· intro w2; go_simp; try with_reducible rfl))
            (try simp only [Act.put, List.setIfInBounds_toArray, List.set_cons_zero, List.set_cons_succ])
            ((with_reducible refine Ord.e_p (v := ?_) ?_ ?_ ?_ ?_); rotate_left; (· exact rfl); (· kernel_rfl); (· intro w2; go_simp; try with_reducible rfl))
            (try simp only [Act.put, List.setIfInBounds_toArray, List.set_cons_zero, List.set_cons_succ])
            ((with_reducible refine Ord.e_p (v := ?_) ?_ ?_ ?_ ?_); rotate_left; (· exact rfl); (· kernel_rfl); (· intro w2; go_simp; try with_reducible rfl))
            (try simp only [Act.put, List.setIfInBounds_toArray, List.set_cons_zero, List.set_cons_succ])
            refine Ord.e_row (cs := ptC y) (b := g) (o := j * 4) Tryz.underlying71 rfl (by kernel_rfl) rfl hry (by kernel_rfl) (by kernel_rfl) ?_
            (try simp only [Act.put, List.setIfInBounds_toArray, List.set_cons_zero, List.set_cons_succ])
            ((with_reducible refine Ord.e_p (v := ?_) ?_ ?_ ?_ ?_); rotate_left; (· exact rfl); (· kernel_rfl); (· intro w2; go_simp; try with_reducible rfl))
            (try simp only [Act.put, List.setIfInBounds_toArray, List.set_cons_zero, List.set_cons_succ])
            ((with_reducible refine Ord.e_p (v := ?_) ?_ ?_ ?_ ?_); rotate_left; (· exact rfl); (· kernel_rfl); (· intro w2; go_simp; try with_reducible rfl))
            (try simp only [Act.put, List.setIfInBounds_toArray, List.set_cons_zero, List.set_cons_succ])
            ((with_reducible refine Ord.e_p (v := ?_) ?_ ?_ ?_ ?_); rotate_left; (· exact rfl); (· kernel_rfl); (· intro w2; go_simp; try with_reducible rfl))
            (try simp only [Act.put, List.setIfInBounds_toArray, List.set_cons_zero, List.set_cons_succ])
            refine Ord.e_row (cs := ptC x) (b := g) (o := q * 4) Tryz.underlying71 rfl (by kernel_rfl) rfl hrx (by kernel_rfl) (by kernel_rfl) ?_
            (try simp only [Act.put, List.setIfInBounds_toArray, List.set_cons_zero, List.set_cons_succ])
            ((with_reducible refine Ord.e_p (v := ?_) ?_ ?_ ?_ ?_); rotate_left; (· exact rfl); (· kernel_rfl); (· intro w2; go_simp; try with_reducible rfl))
            (try simp only [Act.put, List.setIfInBounds_toArray, List.set_cons_zero, List.set_cons_succ])
            refine Ord.e_x rfl (by kernel_rfl) ?_
            refine wpList_store_mid rfl _ _ _ rfl g (q * 4) (ptC y).toArray rfl rfl hth1 (by kernel_rfl) hoy ?_
            go_wp2_with fail
            refine Ord.Seg.go trivial (fun h => by cases h) ?_
            (try simp only [Act.put, List.setIfInBounds_toArray, List.set_cons_zero, List.set_cons_succ])
            ((with_reducible refine Ord.e_p (v := ?_) ?_ ?_ ?_ ?_); rotate_left; (· exact rfl); (· kernel_rfl); (· intro w2; go_simp; try with_reducible rfl))
            (try simp only [Act.put, List.setIfInBounds_toArray, List.set_cons_zero, List.set_cons_succ])
            refine Ord.e_x rfl (by kernel_rfl) ?_
            refine wpList_store_mid rfl _ _ _ rfl g (j * 4) (ptC x).toArray rfl rfl hth2 (by kernel_rfl) hox ?_
            go_wp2_with fail
            refine Ord.Seg.go trivial (fun h => by cases h) ?_
            (try simp only [Act.put, List.setIfInBounds_toArray, List.set_cons_zero, List.set_cons_succ])
            refine Ord.e_nil ?_
            clear hrx hry hrws hth1 hth2 hbf hbs1
            go_wp2
            go_roundw
            case rel => exact ⟨j, p', y :: s, by have := Hj.out; omega, by go_num, Lib.hid Hpp.out.2, Hs2, Hset, hbs2⟩
            case measure => simp [intOf]; have := Hj.out; omega
          · rw [decide_eq_false hyx]
            ((with_reducible refine Ord.e_p (v := ?_) ?_ ?_ ?_ ?_); rotate_left; (· exact rfl); (· kernel_rfl); (· intro w2; go_simp; try with_reducible rfl))
            (try simp only [Act.put, List.setIfInBounds_toArray, List.set_cons_zero, List.set_cons_succ])
            refine Ord.e_nil ?_
            have hst := stb_at PtT.sz Hs.out.1 Hs.out.2 (.inr ⟨p', y, Hpp.out.1, hyx⟩)
            have Hst := Lib.hid (show RW we g 71 ((stb PtT.sz (L.take (i + 1)) ++ L.drop (i + 1)).map ptC) by rw [Htx.out, hst, Hpp.out.1]; exact HRW2.out)
            clear hst hrx hry hS
            go_wp2
            go_roundw
            case rel => exact ⟨i + 1, by omega, by go_num, Hst, hbf⟩
            case measure => simp [intOf]; omega
    · obtain rfl : i = n := by omega
      have hfin := hrw.out
      rw [List.take_of_length_le (by rw [Hll.out]; exact Nat.le_refl _), List.drop_eq_nil_of_le (by rw [Hll.out]; exact Nat.le_refl _), List.append_nil] at hfin
      have hrd := hfin.rd (n := i) (H4.out _) (by rw [List.length_map, Hsl.out]; exact Hll.out) (by unfold maxLen; omega)
      clear hfin
      go_wp2
      go_ret
      exact ⟨some ⟨g, 0, none⟩, i, rfl, hrd, hb⟩
theorem wire31_any (A : Option Addr) (n c : Nat) (L : List PtT) (w : World) (h : RdP w w.heap.size A n c L) (hn : n ≤ 1000) :
    Calls Tryz.prog 47 #[.slice A n c] w fun e w' => ∃ (A' : Option Addr) (c' : Nat), e = .returned (.slice A' n c') ∧ RdP w' w'.heap.size A' n c' (stb PtT.sz L) ∧ Below w.heap.size w w' := by
  go_enter Tryz.func47, Tryz.ntmps47
  go_wp2_with fail
  go_fit (stableP_any A n c L w h hn)
  rintro e w1 ⟨A1, c1, rfl, hr, hb⟩
  go_wp2
  go_ret
  exact ⟨A1, c1, rfl, hr, hb⟩

end Go.Proofs.YtonejdjhdjckjaaGreat
