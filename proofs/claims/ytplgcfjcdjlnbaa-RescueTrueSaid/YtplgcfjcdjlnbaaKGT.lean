/-
  Several texts in one: Flog5 FlogOpen.
-/
import Derived.Test.YtplgcfjcdjlnbaaKFlog4
import Derived.Test.YtplgcfjcdjlnbaaKGR
import Derived.Test.YtplgcfjcdjlnbaaKGS
/-
  The document's Write of layer 36, knows, FlogWrites walked (printed by gen_flog5.py).
-/
set_option linter.unusedSimpArgs false
set_option linter.unusedVariables false
namespace Go.Proofs.Ytplgcfjcdjlnbaa
open Go.RowKit NumLaw CrcLaw
attribute [local go_sem] Addr.add_mid

theorem RdE.aw {w w' : World} {B n c : Nat} {A : Option Addr} {L : List En} {U : Nat → Prop} (h : RdE w B A n c L) (ha : Aw U w w') (hB : B ≤ w.heap.size) (hu : 0 < n → ∀ j, (Value.slice A n c).ownBlock = some j → ¬ U j) : RdE w' B A n c L :=
  ⟨h.1, h.2.1, h.2.2.1, h.2.2.2.1, fun hn => by
    obtain ⟨g, off, e, hg, hr⟩ := h.2.2.2.2 hn
    subst e
    refine ⟨g, off, rfl, hg, fun k r hk j v hv => ?_⟩
    have := hr k r hk j v hv
    rw [← this]
    unfold World.cell?
    rw [ha.block g (by omega) (hu hn g rfl)]⟩
theorem qwrite_no (ev : Int) (A : Option Addr) (n c : Nat) (w : World) (h : ev < 1 ∨ 255 < ev) : Calls Try.prog 45 #[.int .i64 ev, .slice A n c] w fun e w' => e = .returned (.tuple #[.slice none 0 0, .int .i64 1]) ∧ w = w' := by
  rcases (by omega : ev < 1 ∨ (¬ ev < 1 ∧ 255 < ev)) with h1 | ⟨h1, h2⟩
  all_goals
    go_enter Try.func45, Try.ntmps45
    go_wp2
    go_ret2
    exact ⟨rfl, rfl⟩
set_option maxRecDepth 10000 in
set_option maxHeartbeats 8000000 in
theorem qwrite_any (ev : Nat) (A : Option Addr) (n c B : Nat) (R : List (Nat × List Int)) (w : World) (h1 : 1 ≤ ev) (h2 : ev ≤ 255) (h : RdC w B A n c R) (hB : B ≤ w.heap.size) (hq : ∀ p ∈ R, RcQ p) (hn : n ≤ 10000) :
    Calls Try.prog 45 #[.int .i64 (ev : Int), .slice A n c] w (RetBk w (wrO ev R) 0) := by
  have hll := h.len
  have hle := h.2.2.1
  have hmx := h.2.2.2.1
  unfold maxLen at hmx
  have h1' : ¬ (ev : Int) < 1 := by omega
  have h2' : ¬ (255 : Int) < (ev : Int) := by omega
  obtain ⟨i0, hi⟩ := info_parts u8_info
  have Hi := Lib.hid hi
  have Hll := Lib.hid hll
  have HQ := Lib.hid hq
  have Hok := Lib.hid (fun k hk => stW_ok (ev := ev) hq k (by rw [hll]; exact hk) (by omega))
  have HW : Hid (wrO ev R = (stW ev R n).2.2 ++ flO (stW ev R n).1 (stW ev R n).2.1) := Lib.hid (by unfold wrO; rw [hll])
  have hb := (Below.refl w.heap.size w).alloc (Nat.le_refl _) (.cells (qlC ev none 0 0 0 0) 66)
  have hbox := heap_alloc_new w (.cells (qlC ev none 0 0 0 0) 66)
  clear hll hi hq
  go_enter Try.func45, Try.ntmps45
  go_wp2_with fail
  obtain ⟨w1, hw1⟩ : ∃ v, v = w.alloc (.cells (qlC ev none 0 0 0 0) 66) := ⟨_, rfl⟩
  have hw1' : w.alloc (.cells #[.int .i64 (ev : Int), .slice none 0 0, .int .i64 0, .int .i64 0] 66) = w1 := hw1.symm
  rw [hw1'] 
  rw [← hw1] at hb hbox
  obtain ⟨g, hg⟩ : ∃ v, v = w.heap.size := ⟨_, rfl⟩
  rw [← hg] at hbox ⊢
  have Hg := Lib.hid hg
  clear hg hw1 hw1'
  go_loopw [7, 8] (fun s i wr => ∃ (k m : Nat) (A2 : Option Addr) (c2 : Nat) (Aq : Option Addr) (cq : Nat), k ≤ n ∧ i = .int .i64 k ∧ s = .slice A2 m c2 ∧ wr.heap[g]? = some (.cells (qlC ev Aq (stW ev R k).1.length cq k (stW ev R k).2.1) 66) ∧ RdE wr wr.heap.size Aq (stW ev R k).1.length cq (stW ev R k).1 ∧ wr.ownsRow (g + 1) 5 1 (.slice A2 m c2) m (bv (stW ev R k).2.2) ∧ (0 < (stW ev R k).1.length → ∀ j, (Value.slice Aq (stW ev R k).1.length cq).ownBlock = some j → g < j ∧ (Value.slice A2 m c2).ownBlock ≠ some j) ∧ Below w.heap.size w wr) (fun _ i _ => n - (intOf i).toNat)
  case atStart => exact ⟨0, 0, none, 0, none, 0, by omega, rfl, rfl, hbox, rdE_none _ _, World.ownsRow_nil _ _ _ _, fun h => absurd h (Nat.lt_irrefl _), hb⟩
  case round =>
    clear hbox hb w1
    obtain ⟨k, m, A2, c2, Aq, cq, hk, rfl, rfl, hbox, hrq, hown, hd, hb⟩ := hrel
    obtain ⟨k1, k2, k3⟩ := Hok.out k hk
    have hml := own_len hown
    rw [k3] at hml
    have hLn := logQ_len k1
    by_cases hlt : k < n
    · have hlt' : (k : Int) < (n : Int) := by omega
      obtain ⟨gL, off, p, hA, hgB, hx, hr⟩ := h.at_ hlt
      subst hA
      obtain ⟨q1, q2, q3⟩ := HQ.out p (List.mem_of_getElem? hx)
      have Hst := Lib.hid (stW_at (ev := ev) hx)
      have Hadd := Lib.hid (fun w1 (h1' : RdE w1 w1.heap.size Aq (stW ev R k).1.length cq (stW ev R k).1) => qadd_any ev Aq (stW ev R k).1.length cq w1.heap.size (stW ev R k).1 k (stW ev R k).2.1 p.1 p.2 w1 rfl h1' (Nat.le_refl _) k1 h1 h2 (by omega) (by omega) q1 q2 q3)
      have hal := adO_len (ev := ev) (L := (stW ev R k).1) (r := k) (b := (stW ev R k).2.1) (t := p.1) (V := p.2) k1 (by omega) q2
      have hbl : adB ev (stW ev R k).1 k (stW ev R k).2.1 p.1 p.2 ≤ k + 1 := by unfold adB; split <;> omega
      have hr1 : ∀ w', Below w.heap.size w w' → w'.rangeAt gL (off + k * 13) (rcC p.1 p.2) := fun w' hb' j u hu => (hb'.cell (p := ⟨gL, off + k * 13 + j, none⟩) (show gL < w.heap.size by omega)).trans (hr j u hu)
      have HpV := Lib.hid q2
      have Hr1 := Lib.hid hr1
      have S1 : Hid ((stW ev R (k + 1)).1 = adL ev (stW ev R k).1 k p.1 p.2) := Lib.hid (by rw [Hst.out]; rfl)
      have S2 : Hid ((stW ev R (k + 1)).2.1 = adB ev (stW ev R k).1 k (stW ev R k).2.1 p.1 p.2) := Lib.hid (by rw [Hst.out]; rfl)
      have S3 : Hid ((stW ev R (k + 1)).2.2 = (stW ev R k).2.2 ++ adO ev (stW ev R k).1 k (stW ev R k).2.1 p.1 p.2) := Lib.hid (by rw [Hst.out]; rfl)
      generalize adL ev (stW ev R k).1 k p.1 p.2 = aL at *
      generalize adB ev (stW ev R k).1 k (stW ev R k).2.1 p.1 p.2 = aB at *
      generalize adO ev (stW ev R k).1 k (stW ev R k).2.1 p.1 p.2 = aO at *
      generalize (stW ev R k).1 = L0 at *
      generalize (stW ev R k).2.1 = b0 at *
      generalize (stW ev R k).2.2 = o0 at *
      have hgb : g < wr.heap.size := blk_lt hbox
      clear hx hr hr1 q1 q2 q3 k1 k3 Hst
      have hlo : ∀ j, (Value.slice A2 m c2).ownBlock = some j → g < j ∧ j < wr.heap.size := fun j hj => by have := own_blk hown hj; omega
      go_wp2_with fail
      refine Ord.region_m [5, 9] [[0, 1, 2, 3, 4, 5, 6, 7, 8, 9, 10, 11], [0, 1, 2, 3, 4, 9, 5, 6, 7, 8, 10, 11]] (fun w' => w'.heap[g]? = some (.cells (qlC ev Aq L0.length cq k b0) 66) ∧ Below w.heap.size w w') false [] (by kernel_rfl) (by kernel_rfl) ⟨hbox, hb.drew⟩ ?_
      have hS : wr.drew.heap[g]? = some (.cells (qlC ev Aq L0.length cq k b0) 66) ∧ Below w.heap.size w wr.drew := ⟨hbox, hb.drew⟩
      replace hrq : RdE wr.drew wr.drew.heap.size Aq L0.length cq L0 := RdR.nx hrq (Below.refl _ _).drew
      replace hown := own_up hown (w' := wr.drew) (Below.refl _ _).drew (Nat.le_refl _)
      replace hgb : g < wr.drew.heap.size := hgb
      replace hlo : ∀ j, (Value.slice A2 m c2).ownBlock = some j → g < j ∧ j < wr.drew.heap.size := hlo
      generalize wr.drew = wd at *
      clear hbox hb hd
      intro LL hLL
      simp only [List.mem_cons, List.not_mem_nil, or_false] at hLL
      rcases hLL with rfl | rfl
      · simp only [Ord.lst, List.filterMap_cons, List.filterMap_nil, List.getElem?_toArray, List.getElem?_cons_succ, List.getElem?_cons_zero]
        refine Ord.e_rowS (b := g) (o := 0) Try.underlying66 rfl (by kernel_rfl) rfl (by simp [qlC]) (cs := (qlC ev Aq L0.length cq k b0).toList) (fun w' hS j u hu => blk_cell (i := 0 + j) (show w'.heap[g]? = _ from hS.1) (by rw [Nat.zero_add]; simpa using hu)) hS (by kernel_rfl) ?_
        (try simp only [Act.put, List.setIfInBounds_toArray, List.set_cons_zero, List.set_cons_succ])
        ((with_reducible refine Ord.e_p (v := ?_) ?_ ?_ ?_ ?_); rotate_left; (· exact rfl); (· kernel_rfl); (· intro w2; go_simp; try with_reducible rfl))
        (try simp only [Act.put, List.setIfInBounds_toArray, List.set_cons_zero, List.set_cons_succ])
        ((with_reducible refine Ord.e_p (v := ?_) ?_ ?_ ?_ ?_); rotate_left; (· exact rfl); (· kernel_rfl); (· intro w2; go_simp; try with_reducible rfl))
        (try simp only [Act.put, List.setIfInBounds_toArray, List.set_cons_zero, List.set_cons_succ])
        ((with_reducible refine Ord.e_p (v := ?_) ?_ ?_ ?_ ?_); rotate_left; (· exact rfl); (· kernel_rfl); (· intro w2; go_simp; try with_reducible rfl))
        (try simp only [Act.put, List.setIfInBounds_toArray, List.set_cons_zero, List.set_cons_succ])
        refine Ord.e_rowS (b := gL) (o := off + k * 13) Try.underlying25 rfl (by rw [rcC_size p.1 p.2 HpV.out]; kernel_rfl) rfl (by unfold rcC; simp) (fun w' hS => Hr1.out w' (show _ ∧ Below _ w w' from hS).2) hS (by kernel_rfl) ?_
        (try simp only [Act.put, List.setIfInBounds_toArray, List.set_cons_zero, List.set_cons_succ])
        refine Ord.e_x rfl (by kernel_rfl) ?_
        go_wp2_with fail
        go_fit (Hadd.out wd hrq)
        rintro e we ⟨Ae, ce, At, nt, ct, rfl, hre, ownt, hbx, hde⟩
        have hltt := own_len ownt
        have hszd : g < wd.heap.size := by omega
        replace hlo : ∀ j, (Value.slice A2 m c2).ownBlock = some j → g < j ∧ j < wd.heap.size := fun j hj => by have := hlo j hj; omega
        have hdis : 0 < aL.length → ∀ j, (Value.slice Ae aL.length ce).ownBlock = some j → g < j ∧ (Value.slice A2 m c2).ownBlock ≠ some j := fun h0 j hj => by
          have h3 := hde h0 j hj
          exact ⟨by omega, fun h4 => by have := hlo j h4; omega⟩
        have hsze : g < we.heap.size := by have := hbx.size; omega
        replace hown := own_up hown hbx (Nat.le_refl _)
        replace hS := And.intro (blk_old hS.1 hbx hszd) (bnx hS.2 hbx)
        clear hbx hrq hde
        go_wp2_with fail
        refine Ord.Seg.go hS (fun h => by cases h) ?_
        (try simp only [Act.put, List.setIfInBounds_toArray, List.set_cons_zero, List.set_cons_succ])
        ((with_reducible refine Ord.e_p (v := ?_) ?_ ?_ ?_ ?_); rotate_left; (· exact rfl); (· kernel_rfl); (· intro w2; go_simp; try with_reducible rfl))
        (try simp only [Act.put, List.setIfInBounds_toArray, List.set_cons_zero, List.set_cons_succ])
        ((with_reducible refine Ord.e_p (v := ?_) ?_ ?_ ?_ ?_); rotate_left; (· exact rfl); (· kernel_rfl); (· intro w2; go_simp; try with_reducible rfl))
        (try simp only [Act.put, List.setIfInBounds_toArray, List.set_cons_zero, List.set_cons_succ])
        ((with_reducible refine Ord.e_p (v := ?_) ?_ ?_ ?_ ?_); rotate_left; (· exact rfl); (· kernel_rfl); (· intro w2; go_simp; try with_reducible rfl))
        (try simp only [Act.put, List.setIfInBounds_toArray, List.set_cons_zero, List.set_cons_succ])
        refine Ord.e_x rfl (by kernel_rfl) ?_
        go_wp2_with fail
        have hbx : Below we.heap.size we (we.alloc (.cells (qlC 0 none 0 0 0 0) 66)) := (Below.refl _ _).alloc (Nat.le_refl _) _
        have h9 := heap_alloc_new we (.cells (qlC 0 none 0 0 0 0) 66)
        have hszd : g < we.heap.size := by omega
        have hlo9 : ∀ j, (Value.slice A2 m c2).ownBlock = some j → j ≠ we.heap.size := fun j hj => by have := (own_blk hown hj).2; omega
        have hdis9 : 0 < aL.length → ∀ j, (Value.slice Ae aL.length ce).ownBlock = some j → j ≠ we.heap.size := fun h0 j hj => by
          obtain ⟨ga, offa, ea, hga, _⟩ := hre.2.2.2.2 h0
          subst ea
          have hj2 : some ga = some j := hj
          injection hj2 with hj2
          omega
        replace hre : RdE _ _ Ae aL.length ce aL := RdR.nx hre hbx
        have hot9 : ∀ j, (Value.slice At nt ct).ownBlock = some j → j ≠ we.heap.size := fun j hj => by have := (own_blk ownt hj).2; omega
        replace ownt := own_up ownt hbx (Nat.le_refl _)
        replace hown := own_up hown hbx (Nat.le_refl _)
        replace hS := And.intro (blk_old hS.1 hbx hszd) (bnx hS.2 hbx)
        have hgs : w.heap.size ≤ we.heap.size := by have := Hg.out; omega
        clear hbx
        refine Ord.Seg.go hS (fun h => by cases h) ?_
        (try simp only [Act.put, List.setIfInBounds_toArray, List.set_cons_zero, List.set_cons_succ])
        have eqz : we.alloc (.cells #[.int .i64 0, .slice none 0 0, .int .i64 0, .int .i64 0] 66) = we.alloc (.cells (qlC 0 none 0 0 0 0) 66) := rfl
        (try rw [eqz])
        clear eqz
        generalize (we.alloc (.cells (qlC 0 none 0 0 0 0) 66)) = wf at *
        have hg9lt : we.heap.size < wf.heap.size := blk_lt h9
        generalize we.heap.size = g9 at *
        refine Ord.e_x rfl (by kernel_rfl) ?_
        refine wpList_store_row rfl _ _ _ rfl g9 (qlC ev Ae aL.length ce (k + 1) aB) rfl rfl _ _ h9 (by kernel_rfl) rfl (by kernel_rfl) ?_
        have h9z := setRow_heap _ _ _ (qlC ev Ae aL.length ce (k + 1) aB) _ _ h9
        have hA9 : Aw (fun j => j = g9) wf (wf.setRow g9 (qlC ev Ae aL.length ce (k + 1) aB)) := aw_setRow35 _ _
        have hSz := And.intro (hA9.keep hS.1 (by omega)) (below_awG hS.2 hA9 (fun j hj => by omega) hS.2.size)
        have hownz := own_aw hown hA9 (fun j hj hu => hlo9 j hj hu)
        have hrez : RdE _ wf.heap.size Ae aL.length ce aL := RdE.aw hre hA9 (Nat.le_refl _) (fun h0 j hj => hdis9 h0 j hj)
        have ownt1 := own_aw ownt hA9 (fun j hj hu => hot9 j hj hu)
        have hotg : ∀ j, (Value.slice At nt ct).ownBlock = some j → g < j := fun j hj => by have := (own_blk ownt hj).1; omega
        have hszz : wf.heap.size = (wf.setRow g9 (qlC ev Ae aL.length ce (k + 1) aB)).heap.size := (setRow_size _ _ _).symm
        rw [hszz] at hrez
        go_wp2_with fail
        refine Ord.Seg.go hSz (fun h => by cases h) ?_
        (try simp only [Act.put, List.setIfInBounds_toArray, List.set_cons_zero, List.set_cons_succ])
        generalize (wf.setRow g9 (qlC ev Ae aL.length ce (k + 1) aB)) = wg at *
        clear hszz hA9 h9 hS hown hre ownt hlo
        ((with_reducible refine Ord.e_p (v := ?_) ?_ ?_ ?_ ?_); rotate_left; (· exact rfl); (· kernel_rfl); (· intro w2; go_simp; try with_reducible rfl))
        (try simp only [Act.put, List.setIfInBounds_toArray, List.set_cons_zero, List.set_cons_succ])
        refine Ord.e_nil ?_
        replace hSz := And.intro hSz.1 hSz.2
        have hgz : g < wg.heap.size := blk_lt hSz.1
        have hg9g : g9 ≠ g := by omega
        go_wp2_with (first | (with_reducible refine stop_loadT 66 ?_) | (with_reducible refine stop_storeT 66 ?_))
        refine go_ (wpList_load_row rfl _ _ rfl g9 rfl _ _ _ _ h9z Try.underlying66 rfl (by kernel_rfl) ?_)
        go_wp2_with (first | (with_reducible refine stop_loadT 66 ?_) | (with_reducible refine stop_storeT 66 ?_))
        refine go_ (wpList_store_row rfl _ _ _ rfl g (qlC ev Ae aL.length ce (k + 1) aB) rfl rfl _ _ hSz.1 (by kernel_rfl) rfl (by kernel_rfl) ?_)
        have hbz := setRow_heap _ _ _ (qlC ev Ae aL.length ce (k + 1) aB) _ _ hSz.1
        have hAg : Aw (fun j => j = g) wg (wg.setRow g (qlC ev Ae aL.length ce (k + 1) aB)) := aw_setRow35 _ _
        have hb1 := below_awG hSz.2 hAg (fun j hj => by have := Hg.out; omega) hSz.2.size
        have hown1 := own_aw hownz hAg (fun j hj hu => by have := (own_blk hownz hj).1; omega)
        have hre1 : RdE _ wg.heap.size Ae aL.length ce aL := RdE.aw hrez hAg (Nat.le_refl _) (fun h0 j hj hu => by have := (hdis h0 j hj).1; omega)
        have hrt1 := Rd.own (own_aw ownt1 hAg (fun j hj hu => by have := hotg j hj; omega))
        have hsz1 : wg.heap.size = (wg.setRow g (qlC ev Ae aL.length ce (k + 1) aB)).heap.size := (setRow_size _ _ _).symm
        rw [hsz1] at hre1
        generalize (wg.setRow g (qlC ev Ae aL.length ce (k + 1) aB)) = wh at *
        clear hsz1 hAg hSz h9z hownz hrez ownt1
        go_wp2_with (at_builtin; refine stop_ ?_)
        refine go_ (wpList_appG (base := g + 1) (n := m) Try.underlying26 Hi.out rfl (by omega) hown1 rfl hrt1 rfl (bv_one _) (k := m + nt) (ys := bv (o0 ++ aO)) rfl (bv_app _ _).symm (by unfold maxLen; omega) (by omega) (by have := blk_lt hbz; omega) ?_)
        intro A5 c5 wi own5 hgr hob
        have hbox5 := (hgr.block _ (blk_lt hbz) (fun e => by have := (own_blk hown1 e.symm).1; omega)).trans hbz
        have hb5 := Below.grown hb1 hgr hb1.size (fun j hj => by have := (own_blk hown1 hj).1; have := Hg.out; omega)
        have hre5 : RdE wi wi.heap.size Ae aL.length ce aL := RdR.more (RdE.aw hre1 (Aw.of_grown hgr) (Nat.le_refl _) (fun h0 j hj hf => (hdis h0 j hj).2 hf)) hgr.size
        have hd5 : 0 < aL.length → ∀ j, (Value.slice Ae aL.length ce).ownBlock = some j → g < j ∧ (Value.slice A5 (m + nt) c5).ownBlock ≠ some j := fun h0 j hj => ⟨(hdis h0 j hj).1, fun hf => by
          rcases hob with h3 | h3
          · exact (hdis h0 j hj).2 (h3.symm.trans hf)
          · have h4 := h3.symm.trans hf
            injection h4 with h4
            obtain ⟨ga, offa, ea, hga, _⟩ := hre1.2.2.2.2 h0
            subst ea
            have hj2 : some ga = some j := hj
            injection hj2 with hj2
            omega⟩
        clear hgr hob hown1 hb1 hre1 hrt1 hbz
        go_wp2
        go_roundw
        case rel => exact ⟨k + 1, m + nt, A5, c5, Ae, ce, by omega, by go_num, rfl, by rw [S1.out, S2.out]; exact hbox5, by rw [S1.out]; exact hre5, by rw [S3.out]; exact own5, by rw [S1.out]; exact hd5, hb5⟩
        case measure => simp [intOf]; omega
      · simp only [Ord.lst, List.filterMap_cons, List.filterMap_nil, List.getElem?_toArray, List.getElem?_cons_succ, List.getElem?_cons_zero]
        refine Ord.e_rowS (b := g) (o := 0) Try.underlying66 rfl (by kernel_rfl) rfl (by simp [qlC]) (cs := (qlC ev Aq L0.length cq k b0).toList) (fun w' hS j u hu => blk_cell (i := 0 + j) (show w'.heap[g]? = _ from hS.1) (by rw [Nat.zero_add]; simpa using hu)) hS (by kernel_rfl) ?_
        (try simp only [Act.put, List.setIfInBounds_toArray, List.set_cons_zero, List.set_cons_succ])
        ((with_reducible refine Ord.e_p (v := ?_) ?_ ?_ ?_ ?_); rotate_left; (· exact rfl); (· kernel_rfl); (· intro w2; go_simp; try with_reducible rfl))
        (try simp only [Act.put, List.setIfInBounds_toArray, List.set_cons_zero, List.set_cons_succ])
        ((with_reducible refine Ord.e_p (v := ?_) ?_ ?_ ?_ ?_); rotate_left; (· exact rfl); (· kernel_rfl); (· intro w2; go_simp; try with_reducible rfl))
        (try simp only [Act.put, List.setIfInBounds_toArray, List.set_cons_zero, List.set_cons_succ])
        ((with_reducible refine Ord.e_p (v := ?_) ?_ ?_ ?_ ?_); rotate_left; (· exact rfl); (· kernel_rfl); (· intro w2; go_simp; try with_reducible rfl))
        (try simp only [Act.put, List.setIfInBounds_toArray, List.set_cons_zero, List.set_cons_succ])
        refine Ord.e_rowS (b := gL) (o := off + k * 13) Try.underlying25 rfl (by rw [rcC_size p.1 p.2 HpV.out]; kernel_rfl) rfl (by unfold rcC; simp) (fun w' hS => Hr1.out w' (show _ ∧ Below _ w w' from hS).2) hS (by kernel_rfl) ?_
        (try simp only [Act.put, List.setIfInBounds_toArray, List.set_cons_zero, List.set_cons_succ])
        refine Ord.e_x rfl (by kernel_rfl) ?_
        go_wp2_with fail
        have hbx : Below wd.heap.size wd (wd.alloc (.cells (qlC 0 none 0 0 0 0) 66)) := (Below.refl _ _).alloc (Nat.le_refl _) _
        have h9 := heap_alloc_new wd (.cells (qlC 0 none 0 0 0 0) 66)
        have hszd : g < wd.heap.size := by omega
        have hlo9 : ∀ j, (Value.slice A2 m c2).ownBlock = some j → j ≠ wd.heap.size := fun j hj => by have := (own_blk hown hj).2; omega
        replace hrq : RdE _ _ Aq L0.length cq L0 := RdR.nx hrq hbx
        replace hlo : ∀ j, (Value.slice A2 m c2).ownBlock = some j → g < j ∧ j < (wd.alloc (.cells (qlC 0 none 0 0 0 0) 66)).heap.size := fun j hj => by have := hlo j hj; have := hbx.size; omega
        replace hown := own_up hown hbx (Nat.le_refl _)
        replace hS := And.intro (blk_old hS.1 hbx hszd) (bnx hS.2 hbx)
        have hgs : w.heap.size ≤ wd.heap.size := by have := Hg.out; omega
        clear hbx
        refine Ord.Seg.go hS (fun h => by cases h) ?_
        (try simp only [Act.put, List.setIfInBounds_toArray, List.set_cons_zero, List.set_cons_succ])
        have eqz : wd.alloc (.cells #[.int .i64 0, .slice none 0 0, .int .i64 0, .int .i64 0] 66) = wd.alloc (.cells (qlC 0 none 0 0 0 0) 66) := rfl
        (try rw [eqz])
        clear eqz
        generalize (wd.alloc (.cells (qlC 0 none 0 0 0 0) 66)) = we at *
        have hg9lt : wd.heap.size < we.heap.size := blk_lt h9
        generalize wd.heap.size = g9 at *
        refine Ord.e_x rfl (by kernel_rfl) ?_
        go_wp2_with fail
        go_fit (Hadd.out we hrq)
        rintro e wf ⟨Ae, ce, At, nt, ct, rfl, hre, ownt, hbx, hde⟩
        have hltt := own_len ownt
        have hszd : g < we.heap.size := by omega
        replace hlo : ∀ j, (Value.slice A2 m c2).ownBlock = some j → g < j ∧ j < we.heap.size := fun j hj => by have := hlo j hj; omega
        have hdis : 0 < aL.length → ∀ j, (Value.slice Ae aL.length ce).ownBlock = some j → g < j ∧ (Value.slice A2 m c2).ownBlock ≠ some j := fun h0 j hj => by
          have h3 := hde h0 j hj
          exact ⟨by omega, fun h4 => by have := hlo j h4; omega⟩
        have hsze : g < wf.heap.size := by have := hbx.size; omega
        replace hown := own_up hown hbx (Nat.le_refl _)
        replace hS := And.intro (blk_old hS.1 hbx hszd) (bnx hS.2 hbx)
        replace h9 := blk_old h9 hbx (blk_lt h9)
        have hlt9 : g9 < we.heap.size := by have := hg9lt; omega
        have hdis9 : 0 < aL.length → ∀ j, (Value.slice Ae aL.length ce).ownBlock = some j → j ≠ g9 := fun h0 j hj => by have := hde h0 j hj; omega
        have hot9 : ∀ j, (Value.slice At nt ct).ownBlock = some j → j ≠ g9 := fun j hj => by have := (own_blk ownt hj).1; omega
        clear hbx hrq hde
        go_wp2_with fail
        refine Ord.Seg.go hS (fun h => by cases h) ?_
        (try simp only [Act.put, List.setIfInBounds_toArray, List.set_cons_zero, List.set_cons_succ])
        ((with_reducible refine Ord.e_p (v := ?_) ?_ ?_ ?_ ?_); rotate_left; (· exact rfl); (· kernel_rfl); (· intro w2; go_simp; try with_reducible rfl))
        (try simp only [Act.put, List.setIfInBounds_toArray, List.set_cons_zero, List.set_cons_succ])
        ((with_reducible refine Ord.e_p (v := ?_) ?_ ?_ ?_ ?_); rotate_left; (· exact rfl); (· kernel_rfl); (· intro w2; go_simp; try with_reducible rfl))
        (try simp only [Act.put, List.setIfInBounds_toArray, List.set_cons_zero, List.set_cons_succ])
        ((with_reducible refine Ord.e_p (v := ?_) ?_ ?_ ?_ ?_); rotate_left; (· exact rfl); (· kernel_rfl); (· intro w2; go_simp; try with_reducible rfl))
        (try simp only [Act.put, List.setIfInBounds_toArray, List.set_cons_zero, List.set_cons_succ])
        refine Ord.e_x rfl (by kernel_rfl) ?_
        refine wpList_store_row rfl _ _ _ rfl g9 (qlC ev Ae aL.length ce (k + 1) aB) rfl rfl _ _ h9 (by kernel_rfl) rfl (by kernel_rfl) ?_
        have h9z := setRow_heap _ _ _ (qlC ev Ae aL.length ce (k + 1) aB) _ _ h9
        have hA9 : Aw (fun j => j = g9) wf (wf.setRow g9 (qlC ev Ae aL.length ce (k + 1) aB)) := aw_setRow35 _ _
        have hSz := And.intro (hA9.keep hS.1 (by omega)) (below_awG hS.2 hA9 (fun j hj => by omega) hS.2.size)
        have hownz := own_aw hown hA9 (fun j hj hu => hlo9 j hj hu)
        have hrez : RdE _ wf.heap.size Ae aL.length ce aL := RdE.aw hre hA9 (Nat.le_refl _) (fun h0 j hj => hdis9 h0 j hj)
        have ownt1 := own_aw ownt hA9 (fun j hj hu => hot9 j hj hu)
        have hotg : ∀ j, (Value.slice At nt ct).ownBlock = some j → g < j := fun j hj => by have := (own_blk ownt hj).1; omega
        have hszz : wf.heap.size = (wf.setRow g9 (qlC ev Ae aL.length ce (k + 1) aB)).heap.size := (setRow_size _ _ _).symm
        rw [hszz] at hrez
        go_wp2_with fail
        refine Ord.Seg.go hSz (fun h => by cases h) ?_
        (try simp only [Act.put, List.setIfInBounds_toArray, List.set_cons_zero, List.set_cons_succ])
        generalize (wf.setRow g9 (qlC ev Ae aL.length ce (k + 1) aB)) = wg at *
        clear hszz hA9 h9 hS hown hre ownt hlo
        ((with_reducible refine Ord.e_p (v := ?_) ?_ ?_ ?_ ?_); rotate_left; (· exact rfl); (· kernel_rfl); (· intro w2; go_simp; try with_reducible rfl))
        (try simp only [Act.put, List.setIfInBounds_toArray, List.set_cons_zero, List.set_cons_succ])
        refine Ord.e_nil ?_
        replace hSz := And.intro hSz.1 hSz.2
        have hgz : g < wg.heap.size := blk_lt hSz.1
        have hg9g : g9 ≠ g := by omega
        go_wp2_with (first | (with_reducible refine stop_loadT 66 ?_) | (with_reducible refine stop_storeT 66 ?_))
        refine go_ (wpList_load_row rfl _ _ rfl g9 rfl _ _ _ _ h9z Try.underlying66 rfl (by kernel_rfl) ?_)
        go_wp2_with (first | (with_reducible refine stop_loadT 66 ?_) | (with_reducible refine stop_storeT 66 ?_))
        refine go_ (wpList_store_row rfl _ _ _ rfl g (qlC ev Ae aL.length ce (k + 1) aB) rfl rfl _ _ hSz.1 (by kernel_rfl) rfl (by kernel_rfl) ?_)
        have hbz := setRow_heap _ _ _ (qlC ev Ae aL.length ce (k + 1) aB) _ _ hSz.1
        have hAg : Aw (fun j => j = g) wg (wg.setRow g (qlC ev Ae aL.length ce (k + 1) aB)) := aw_setRow35 _ _
        have hb1 := below_awG hSz.2 hAg (fun j hj => by have := Hg.out; omega) hSz.2.size
        have hown1 := own_aw hownz hAg (fun j hj hu => by have := (own_blk hownz hj).1; omega)
        have hre1 : RdE _ wg.heap.size Ae aL.length ce aL := RdE.aw hrez hAg (Nat.le_refl _) (fun h0 j hj hu => by have := (hdis h0 j hj).1; omega)
        have hrt1 := Rd.own (own_aw ownt1 hAg (fun j hj hu => by have := hotg j hj; omega))
        have hsz1 : wg.heap.size = (wg.setRow g (qlC ev Ae aL.length ce (k + 1) aB)).heap.size := (setRow_size _ _ _).symm
        rw [hsz1] at hre1
        generalize (wg.setRow g (qlC ev Ae aL.length ce (k + 1) aB)) = wh at *
        clear hsz1 hAg hSz h9z hownz hrez ownt1
        go_wp2_with (at_builtin; refine stop_ ?_)
        refine go_ (wpList_appG (base := g + 1) (n := m) Try.underlying26 Hi.out rfl (by omega) hown1 rfl hrt1 rfl (bv_one _) (k := m + nt) (ys := bv (o0 ++ aO)) rfl (bv_app _ _).symm (by unfold maxLen; omega) (by omega) (by have := blk_lt hbz; omega) ?_)
        intro A5 c5 wi own5 hgr hob
        have hbox5 := (hgr.block _ (blk_lt hbz) (fun e => by have := (own_blk hown1 e.symm).1; omega)).trans hbz
        have hb5 := Below.grown hb1 hgr hb1.size (fun j hj => by have := (own_blk hown1 hj).1; have := Hg.out; omega)
        have hre5 : RdE wi wi.heap.size Ae aL.length ce aL := RdR.more (RdE.aw hre1 (Aw.of_grown hgr) (Nat.le_refl _) (fun h0 j hj hf => (hdis h0 j hj).2 hf)) hgr.size
        have hd5 : 0 < aL.length → ∀ j, (Value.slice Ae aL.length ce).ownBlock = some j → g < j ∧ (Value.slice A5 (m + nt) c5).ownBlock ≠ some j := fun h0 j hj => ⟨(hdis h0 j hj).1, fun hf => by
          rcases hob with h3 | h3
          · exact (hdis h0 j hj).2 (h3.symm.trans hf)
          · have h4 := h3.symm.trans hf
            injection h4 with h4
            obtain ⟨ga, offa, ea, hga, _⟩ := hre1.2.2.2.2 h0
            subst ea
            have hj2 : some ga = some j := hj
            injection hj2 with hj2
            omega⟩
        clear hgr hob hown1 hb1 hre1 hrt1 hbz
        go_wp2
        go_roundw
        case rel => exact ⟨k + 1, m + nt, A5, c5, Ae, ce, by omega, by go_num, rfl, by rw [S1.out, S2.out]; exact hbox5, by rw [S1.out]; exact hre5, by rw [S3.out]; exact own5, by rw [S1.out]; exact hd5, hb5⟩
        case measure => simp [intOf]; omega
    · obtain rfl : k = n := by omega
      have Hfl := Lib.hid (fun w1 (h1' : RdE w1 w1.heap.size Aq (stW ev R k).1.length cq (stW ev R k).1) => qflush_any ev Aq cq w1.heap.size (stW ev R k).1 k (stW ev R k).2.1 w1 h1' (Nat.le_refl _) k1 (by omega))
      have hfl := flO_len k1 (b := (stW ev R k).2.1) (by omega)
      have hfb : flB (stW ev R k).1 (stW ev R k).2.1 ≤ k + 1 := by unfold flB; split <;> omega
      generalize flB (stW ev R k).1 (stW ev R k).2.1 = fB at *
      generalize flO (stW ev R k).1 (stW ev R k).2.1 = fO at *
      generalize (stW ev R k).1 = L0 at *
      generalize (stW ev R k).2.1 = b0 at *
      generalize (stW ev R k).2.2 = o0 at *
      clear k1 k3
      go_wp2_with (first | (with_reducible refine stop_loadT 66 ?_) | (with_reducible refine stop_storeT 66 ?_))
      refine go_ (wpList_load_row rfl _ _ rfl g rfl _ _ _ _ hbox Try.underlying66 rfl (by kernel_rfl) ?_)
      go_wp2_with fail
      go_fit (Hfl.out wr hrq)
      rintro e wc ⟨Ae, ce, At, nt, ct, rfl, hre, ownt, hbx, _⟩
      have hltt := own_len ownt
      have hgsz : g < wr.heap.size := blk_lt hbox
      replace hown := own_up hown hbx (Nat.le_refl _)
      replace hb := bnx hb hbx
      replace ownt := own_mono ownt (base' := g + 1) (by omega)
      go_wp2_with (first | (with_reducible refine stop_loadT 66 ?_) | (with_reducible refine stop_storeT 66 ?_))
      have hbx9 : Below wc.heap.size wc (wc.alloc (.cells (qlC 0 none 0 0 0 0) 66)) := (Below.refl _ _).alloc (Nat.le_refl _) _
      have h9 := heap_alloc_new wc (.cells (qlC 0 none 0 0 0 0) 66)
      have hlo9 : ∀ j, (Value.slice A2 m c2).ownBlock = some j → j ≠ wc.heap.size := fun j hj => by have := (own_blk hown hj).2; omega
      have hlt9 : ∀ j, (Value.slice At nt ct).ownBlock = some j → j ≠ wc.heap.size := fun j hj => by have := (own_blk ownt hj).2; omega
      have hgw : g < wc.heap.size := by have := hbx.size; omega
      have hgs : w.heap.size ≤ wc.heap.size := hb.size
      replace hown := own_up hown hbx9 (Nat.le_refl _)
      replace ownt := own_up ownt hbx9 (Nat.le_refl _)
      replace hb := bnx hb hbx9
      have eqz : wc.alloc (.cells #[.int .i64 0, .slice none 0 0, .int .i64 0, .int .i64 0] 66) = wc.alloc (.cells (qlC 0 none 0 0 0 0) 66) := rfl
      (try rw [eqz])
      clear hbx hbx9 hre hrq hbox hd eqz
      generalize (wc.alloc (.cells (qlC 0 none 0 0 0 0) 66)) = wz at *
      generalize wc.heap.size = g9 at *
      refine go_ (wpList_store_row rfl _ _ _ rfl g9 (qlC ev Ae ([] : List En).length ce k fB) rfl rfl _ _ h9 (by kernel_rfl) rfl (by kernel_rfl) ?_)
      have hA9 : Aw (fun j => j = g9) wz (wz.setRow g9 (qlC ev Ae ([] : List En).length ce k fB)) := aw_setRow35 _ _
      replace hown := own_aw hown hA9 (fun j hj hu => hlo9 j hj hu)
      replace ownt := own_aw ownt hA9 (fun j hj hu => hlt9 j hj hu)
      have hgz : g < (wz.setRow g9 (qlC ev Ae ([] : List En).length ce k fB)).heap.size := by rw [setRow_size]; have := blk_lt h9; omega
      replace hb := below_awG hb hA9 (fun j hj => by omega) hb.size
      generalize (wz.setRow g9 (qlC ev Ae ([] : List En).length ce k fB)) = wd at *
      clear hA9 h9
      go_wp2_with (at_builtin; refine stop_ ?_)
      refine go_ (wpList_appG (base := g + 1) (n := m) Try.underlying26 Hi.out rfl (by omega) hown rfl (Rd.own ownt) rfl (bv_one _) (k := m + nt) (ys := bv (o0 ++ fO)) rfl (bv_app _ _).symm (by unfold maxLen; omega) (by omega) (by omega) ?_)
      intro A5 c5 we own5 hgr hob
      have hb5 := Below.grown hb hgr hb.size (fun j hj => by have := (own_blk hown hj).1; have := Hg.out; omega)
      clear hgr hob hown hb ownt
      go_wp2
      go_ret2
      exact ⟨A5, c5, m + nt, rfl, by rw [HW.out]; exact own_mono own5 (by have := Hg.out; omega), hb5⟩

theorem num36_any (n : Int) (w : World) : Calls Try.prog 46 #[.int .i64 n] w fun e w' => e = .returned (.int .i64 n) ∧ w = w' := by
  go_enter Try.func46, Try.ntmps46
  go_wp2
  go_ret
  exact ⟨rfl, rfl⟩
theorem kn36_add : adF 1 [] 0 3 z12 = false ∧ adL 1 [] 0 3 z12 = [⟨true, 3, z12⟩] ∧ adB 1 [] 0 0 3 z12 = 0 ∧ adO 1 [] 0 0 3 z12 = [] := by
  have h : ¬ adF 1 [] 0 3 z12 = true := fun h => adF_ne (ev := 1) (L := []) (r := 0) (t := 3) (V := z12) rfl h rfl
  refine ⟨by simpa using h, ?_, ?_, ?_⟩
  · unfold adL; rw [if_neg h]; rfl
  · unfold adB; rw [if_neg h]
  · unfold adO; rw [if_neg h]
theorem kn36_q : LogQ [⟨true, 3, z12⟩] := by
  have := adL_q (ev := 1) (r := 0) (t := 3) (V := z12) logQ_nil (by omega) rfl z12_32
  rwa [kn36_add.2.1] at this
theorem kn36_wr : wrO 1 [] = [] := rfl
set_option maxRecDepth 10000 in
set_option maxHeartbeats 4000000 in
theorem knows36 (w : World) : Calls Try.prog 43 #[] w fun e w' => e = .returned (.bool true) ∧ Below w.heap.size w w' := by
  obtain ⟨_, a2, a3, a4⟩ := kn36_add
  have hfo : (flO [(⟨true, 3, z12⟩ : En)] 0).length = 256 := by
    have := flO_len kn36_q (b := 0) (by omega)
    have e : flB [(⟨true, 3, z12⟩ : En)] 0 = 1 := rfl
    omega
  have Hadd := Lib.hid (fun g v w1 (h1 : Lgr w1 g 1 v [] 0 0) => fadd_any g 1 v [] 0 0 3 z12 w1 h1 logQ_nil (by omega) (by omega) (by omega) (by omega) (by omega) rfl z12_32)
  rw [a2, a3, a4] at Hadd
  have Hwr := Lib.hid (fun w1 => flogWrite_any 1 none 0 0 0 [] w1 (by omega) (by omega) (RdR.none_ _ _ _) (by omega) (by simp) (by omega))
  rw [kn36_wr] at Hwr
  have Hop := Lib.hid (fun g v w1 (h1 : Lgr w1 g 1 v [(⟨true, 3, z12⟩ : En)] 1 0) => open36_any g 1 v _ 1 0 w1 h1 (by omega))
  have Hfl := Lib.hid (fun g v w1 (h1 : Lgr w1 g 1 v [(⟨true, 3, z12⟩ : En)] 1 0) => fflush_any g 1 v _ 1 0 w1 h1 kn36_q (by omega) (by omega))
  have Hfo := Lib.hid hfo
  generalize flO [(⟨true, 3, z12⟩ : En)] 0 = fO at *
  clear a2 a3 a4 hfo
  go_enter Try.func43, Try.ntmps43
  go_wp2_with fail
  go_fit (flogNew_any 1 w (by omega) (by omega))
  rintro e w1 ⟨rfl, hlg, hb⟩
  obtain ⟨g, hg⟩ : ∃ v, v = w.heap.size := ⟨_, rfl⟩
  rw [← hg] at hlg ⊢
  have Hg := Lib.hid hg
  clear hg
  go_wp2_with fail
  go_fit (flogNew_no 0 w1 (by omega))
  rintro e w1' ⟨rfl, rfl⟩
  go_wp2_with fail
  go_fit (Hadd.out g _ w1 hlg)
  rintro e w2 ⟨A2, c2, n2, v2, rfl, own2, hlg2, haw, hu, hd⟩
  obtain rfl : n2 = 0 := (own_len own2).symm
  have hb2 := below_awG hb haw (fun j hj => by have := (hlg.foot hj).1; have := Hg.out; omega) hb.size
  clear own2 hd hu haw hlg hb
  go_wp2_with fail
  go_fit (Hwr.out w2)
  rintro e w3 ⟨A3, c3, n3, rfl, own3, hbx⟩
  obtain rfl : n3 = 0 := (own_len own3).symm
  have hlg3 := hlg2.up hbx
  have hb3 := bnx hb2 hbx
  clear own3 hbx hlg2 hb2
  go_wp2_with fail
  go_fit (Hop.out g _ w3 hlg3)
  rintro e w3' ⟨rfl, rfl⟩
  go_wp2_with fail
  go_fit (Hfl.out g _ w3 hlg3)
  rintro e w4 ⟨A4, c4, n4, v4, rfl, own4, hlg4, haw, hu, hd⟩
  have hl4 := own_len own4
  rw [Hfo.out] at hl4
  subst hl4
  have hb4 := below_awG hb3 haw (fun j hj => by have := (hlg3.foot hj).1; have := Hg.out; omega) hb3.size
  clear own4 hd hu haw hlg3 hb3 hlg4
  go_wp2_with fail
  go_fit (num36_any 0 w4)
  rintro e w5 ⟨rfl, rfl⟩
  go_wp2
  go_ret
  exact ⟨rfl, hb4⟩
set_option maxRecDepth 10000 in
set_option maxHeartbeats 4000000 in
theorem flogwrites_any (ev : Int) (A : Option Addr) (n c : Nat) (R : List (Nat × List Int)) (w : World) (hev : -9223372036854775808 ≤ ev ∧ ev ≤ 9223372036854775807) (h : RdC w w.heap.size A n c R) (hq : ∀ p ∈ R, RcQ p) :
    Calls Try.prog 11 #[.int .i64 ev, .slice A n c] w fun e w' => e = .returned (.bool true) ∧ Below w.heap.size w w' := by
  have hmx := h.2.2.2.1
  have hle := h.2.2.1
  unfold maxLen at hmx
  by_cases hn : 60 < n
  · have hn' : (60 : Int) < (n : Int) := by omega
    go_enter Try.func11, Try.ntmps11
    go_wp2_with fail
    go_fit (knows36 w)
    rintro e w1 ⟨rfl, hb1⟩
    go_wp2
    go_ret
    exact ⟨rfl, hb1⟩
  have hn' : ¬ (60 : Int) < (n : Int) := by omega
  by_cases hr : ev < 1 ∨ 255 < ev
  · go_enter Try.func11, Try.ntmps11
    go_wp2_with fail
    go_fit (knows36 w)
    rintro e w1 ⟨rfl, hb1⟩
    have v0 := run_str (l := []) w1 26 9 5 Try.underlying26 Try.underlying5 Try.underlying9 (Rd.none_ w1 0 1)
    go_wp2_with fail
    go_fit (flogWrite_no ev A n c w1 hr)
    rintro e w2 ⟨rfl, rfl⟩
    go_wp2_with fail
    go_fit (qwrite_no ev A n c w1 hr)
    rintro e w2 ⟨rfl, rfl⟩
    go_wp2_with fail
    go_fit (num36_any 1 w1)
    rintro e w2 ⟨rfl, rfl⟩
    go_wp2_with fail
    go_fit (num36_any 1 w1)
    rintro e w2 ⟨rfl, rfl⟩
    go_wp2
    go_ret
    exact ⟨rfl, hb1⟩
  obtain ⟨m, rfl⟩ : ∃ m : Nat, ev = m := ⟨ev.toNat, by omega⟩
  have Hw := Lib.hid (fun w1 (h1 : RdC w1 w.heap.size A n c R) hB => flogWrite_any m A n c w.heap.size R w1 (by omega) (by omega) h1 hB hq (by omega))
  have Hqw := Lib.hid (fun w1 (h1 : RdC w1 w.heap.size A n c R) hB => qwrite_any m A n c w.heap.size R w1 (by omega) (by omega) h1 hB hq (by omega))
  generalize wrO m R = O at *
  clear hq
  go_enter Try.func11, Try.ntmps11
  go_wp2_with fail
  go_fit (knows36 w)
  rintro e w1 ⟨rfl, hb1⟩
  go_wp2_with fail
  go_fit (Hw.out w1 (RdR.up h hb1) hb1.size)
  rintro e w2 ⟨A2, c2, n2, rfl, own2, hbx⟩
  have hr2 := Rd.own own2
  have hb2 := bnx hb1 hbx
  clear own2 hbx
  go_wp2_with fail
  go_fit (Hqw.out w2 (RdR.up h hb2) hb2.size)
  rintro e w3 ⟨A3, c3, n3, rfl, own3, hbx⟩
  have hr3 := Rd.own own3
  replace hr2 := hr2.nx hbx
  have hb3 := bnx hb2 hbx
  have v2 := run_str w3 26 9 5 Try.underlying26 Try.underlying5 Try.underlying9 hr2
  have v3 := run_str w3 26 9 5 Try.underlying26 Try.underlying5 Try.underlying9 hr3
  clear own3 hbx hb1 hb2
  go_wp2_with fail
  go_fit (num36_any 0 w3)
  rintro e w4 ⟨rfl, rfl⟩
  go_wp2_with fail
  go_fit (num36_any 0 w3)
  rintro e w4 ⟨rfl, rfl⟩
  go_wp2
  go_ret
  exact ⟨rfl, hb3⟩

end Go.Proofs.Ytplgcfjcdjlnbaa

/-
  Records, and a log's calls, that came in, opened.
-/
set_option linter.unusedSimpArgs false
set_option linter.unusedVariables false
namespace Go.Proofs.Ytplgcfjcdjlnbaa
open Go.RowKit Go.ChangeShapes Go.WideShapes Go.ChangeAt

section
variable {H : Type} {enc : TypeId × Value → H} {W : World}
set_option maxRecDepth 10000 in
theorem open_recs {b0 : Nat} {v : Value} {d : DataW H} {p : List MemPlace} (hv : Value.okWide Try.prog W .any b0 58 v) (h : DataW.Trod enc Try.prog W 0 (fun _ => true) true 58 v d p) :
    ∃ (A : Option Addr) (n c : Nat) (R : List (Nat × List Int)), v = .slice A n c ∧ RdC W W.heap.size A n c R ∧ ∀ p ∈ R, RcQ p := by
  obtain ⟨A, n, c, rfl, hn, hc, hel⟩ := open_elems Try.underlying58 Try.underlying25 (sz := 13) (by kernel_rfl) (by omega) hv h
  obtain ⟨R, hr, hq⟩ := rows_of (C := rcR) (Q := RcQ) (fun x => by
    by_cases hx : RcQ x
    · exact .inl (rcC_size x.1 x.2 hx.2.1)
    · exact .inr hx) hn hc (fun m cs y hl ht => by
      obtain ⟨t, V, h1, h2, h3, h4⟩ := rec_of m cs y hl ht
      exact ⟨(t, V), ⟨h1, h2, h3⟩, h4⟩) hel
  exact ⟨A, n, c, R, rfl, hr, hq⟩
set_option maxRecDepth 10000 in
theorem op36_of (m : Nat) (cs : List Value) (y : DataW H × List MemPlace) (hl : cs.length = 14) (h : DataW.trod enc Try.prog W 0 (fun _ => true) true m 68 cs = some y) :
    ∃ x : En, EnQ x ∧ cs = enC x := by
  match cs, hl with
  | c0 :: cs, hl =>
    have hl3 : cs.length = 13 := by simpa using hl
    obtain ⟨xs, k, _, _, _, hxl, hfs⟩ := DataW.trod_struct Try.underlying68 h
    have hxl : xs.length = 2 := hxl
    have t0 := hfs 0 _ rfl
    rw [List.getElem?_eq_getElem (by omega)] at t0
    have t0 : DataW.trod enc Try.prog W 0 (fun _ => true) true k 4 [c0] = some xs[0] := t0
    obtain ⟨b, e0, _⟩ := DataW.trod_bool Try.underlying4 t0
    injection e0 with e0
    subst e0
    have t1 := hfs 1 _ rfl
    rw [List.getElem?_eq_getElem (by omega)] at t1
    have t1 : DataW.trod enc Try.prog W 0 (fun _ => true) true k 25 (cs.take 13) = some xs[1] := t1
    rw [List.take_of_length_le (by omega)] at t1
    obtain ⟨t, V, h1, h2, h3, rfl⟩ := rec_of k cs xs[1] hl3 t1
    exact ⟨⟨b, t, V⟩, ⟨h1, h2, h3⟩, rfl⟩
set_option maxRecDepth 10000 in
theorem open_ops36 {b0 : Nat} {v : Value} {d : DataW H} {p : List MemPlace} (hv : Value.okWide Try.prog W .any b0 62 v) (h : DataW.Trod enc Try.prog W 0 (fun _ => true) true 62 v d p) :
    ∃ (A : Option Addr) (n c : Nat) (L : List En), v = .slice A n c ∧ RdE W W.heap.size A n c L ∧ ∀ x ∈ L, EnQ x := by
  obtain ⟨A, n, c, rfl, hn, hc, hel⟩ := open_elems Try.underlying62 Try.underlying68 (sz := 14) (by kernel_rfl) (by omega) hv h
  obtain ⟨L, hr, hq⟩ := rows_of (C := enC) (Q := EnQ) (fun x => by
    by_cases hx : EnQ x
    · exact .inl (enC_len x hx.2.1)
    · exact .inr hx) hn hc (fun m cs y hl ht => op36_of m cs y hl ht) hel
  exact ⟨A, n, c, L, rfl, hr, hq⟩
end

end Go.Proofs.Ytplgcfjcdjlnbaa
