/-
  FlogPlays walked (printed by gen_flog7.py).
-/
import Derived.Test.YtplgcfjcdjlnbaaKGT
set_option linter.unusedSimpArgs false
set_option linter.unusedVariables false
namespace Go.Proofs.Ytplgcfjcdjlnbaa
open Go.RowKit NumLaw CrcLaw
attribute [local go_sem] Addr.add_mid

/-- A log's state behind so many calls (an entry's first part: is it Flush?). -/
def stepP (ev : Nat) (s : List En × Nat × Nat) (x : En) : List En × Nat × Nat :=
  if x.key = true then ([], s.2.1, flB s.1 s.2.2) else (adL ev s.1 s.2.1 x.t x.V, s.2.1 + 1, adB ev s.1 s.2.1 s.2.2 x.t x.V)
def stP (ev : Nat) (O : List En) : Nat → List En × Nat × Nat
  | 0 => ([], 0, 0)
  | k + 1 => stepP ev (stP ev O k) (O.getD k zenE)
theorem stP_at {ev : Nat} {O : List En} {k : Nat} {x : En} (h : O[k]? = some x) : stP ev O (k + 1) = stepP ev (stP ev O k) x := by
  show stepP ev (stP ev O k) (O.getD k zenE) = _
  rw [List.getD_eq_getElem?_getD, h]
  rfl
theorem stP_ok {ev : Nat} {O : List En} (hO : ∀ x ∈ O, EnQ x) : ∀ k, k ≤ O.length → LogQ (stP ev O k).1 ∧ (stP ev O k).2.1 ≤ k ∧ (stP ev O k).2.2 ≤ k
  | 0, _ => ⟨logQ_nil, Nat.le_refl _, Nat.le_refl _⟩
  | k + 1, h => by
    obtain ⟨a, b, c⟩ := stP_ok (ev := ev) hO k (by omega)
    have hx : O[k]? = some O[k] := List.getElem?_eq_getElem (by omega)
    obtain ⟨q1, q2, q3⟩ := hO _ (List.mem_of_getElem? hx)
    rw [stP_at hx]
    unfold stepP
    split
    · refine ⟨logQ_nil, by show (stP ev O k).2.1 ≤ _; omega, ?_⟩
      show flB _ _ ≤ _
      unfold flB; split <;> omega
    · refine ⟨adL_q a q1 q2 q3, by show (stP ev O k).2.1 + 1 ≤ _; omega, ?_⟩
      show adB _ _ _ _ _ _ ≤ _
      unfold adB; split <;> omega
set_option maxRecDepth 10000 in
set_option maxHeartbeats 16000000 in
theorem flogplays_any (ev : Int) (A : Option Addr) (n c : Nat) (O : List En) (w : World) (hev : -9223372036854775808 ≤ ev ∧ ev ≤ 9223372036854775807) (h : RdE w w.heap.size A n c O) (hO : ∀ x ∈ O, EnQ x) :
    Calls Try.prog 13 #[.int .i64 ev, .slice A n c] w fun e w' => e = .returned (.bool true) ∧ Below w.heap.size w w' := by
  have hmx := h.2.2.2.1
  have hle := h.2.2.1
  unfold maxLen at hmx
  by_cases hn : 60 < n
  · have hn' : (60 : Int) < (n : Int) := by omega
    go_enter Try.func13, Try.ntmps13
    go_wp2_with fail
    go_fit (knows36 w)
    rintro e w1 ⟨rfl, hb1⟩
    go_wp2
    go_ret
    exact ⟨rfl, hb1⟩
  have hn' : ¬ (60 : Int) < (n : Int) := by omega
  by_cases hr : ev < 1 ∨ 255 < ev
  · rcases (by omega : ev < 1 ∨ (¬ ev < 1 ∧ 255 < ev)) with h1 | ⟨h1, h2⟩
    all_goals
      go_enter Try.func13, Try.ntmps13
      go_wp2_with fail
      go_fit (knows36 w)
      rintro e w1 ⟨rfl, hb1⟩
      go_wp2_with fail
      go_fit (flogNew_no ev w1 hr)
      rintro e w2 ⟨rfl, rfl⟩
      go_wp2
      go_ret
      exact ⟨rfl, hb1⟩
  obtain ⟨m, rfl⟩ : ∃ m : Nat, ev = m := ⟨ev.toNat, by omega⟩
  have h1 : 1 ≤ m := by omega
  have h2 : m ≤ 255 := by omega
  have h1' : ¬ (m : Int) < 1 := by omega
  have h2' : ¬ (255 : Int) < (m : Int) := by omega
  have hll := h.len
  have Hok := Lib.hid (fun k hk => stP_ok (ev := m) hO k (by rw [hll]; exact hk))
  have HO := Lib.hid hO
  clear hll hO hr hev
  go_enter Try.func13, Try.ntmps13
  go_wp2_with fail
  go_fit (knows36 w)
  rintro e w0 ⟨rfl, hb0⟩
  go_wp2_with fail
  go_fit (flogNew_any m w0 h1 h2)
  rintro e w1 ⟨rfl, hlg, hb1⟩
  obtain ⟨g, hg⟩ : ∃ v, v = w0.heap.size := ⟨_, rfl⟩
  rw [← hg] at hlg ⊢
  have hgw : w.heap.size ≤ g := by have := hb0.size; omega
  replace hb1 := bnx hb0 hb1
  clear hg hb0
  have hbx : Below w1.heap.size w1 (w1.alloc (.cells (qlC m none 0 0 0 0) 66)) := (Below.refl _ _).alloc (Nat.le_refl _) _
  have hbox := heap_alloc_new w1 (.cells (qlC m none 0 0 0 0) 66)
  have hgq0 : g < w1.heap.size := hlg.lt
  have hnf0 : ¬ Foot g (.slice none 0 0) w1.heap.size := fun hf => by
    rcases hf with hf | hf
    · omega
    · cases hf
  have hlg0 := hlg.up hbx
  have hb2 := bnx hb1 hbx
  go_wp2_with fail
  obtain ⟨w2, hw2⟩ : ∃ v, v = w1.alloc (.cells (qlC m none 0 0 0 0) 66) := ⟨_, rfl⟩
  have hw2' : w1.alloc (.cells #[.int .i64 (m : Int), .slice none 0 0, .int .i64 0, .int .i64 0] 66) = w2 := hw2.symm
  rw [hw2']
  rw [← hw2] at hbox hlg0 hb2 hbx
  clear hw2 hw2' hbx hlg hb1
  generalize w1.heap.size = gq at *
  clear w1
  go_loopw [7] (fun i wr => ∃ (k : Nat) (v : Value) (Aq : Option Addr) (cq : Nat), k ≤ n ∧ i = .int .i64 k ∧ Lgr wr g m v (stP m O k).1 (stP m O k).2.1 (stP m O k).2.2 ∧ wr.heap[gq]? = some (.cells (qlC m Aq (stP m O k).1.length cq (stP m O k).2.1 (stP m O k).2.2) 66) ∧ RdE wr wr.heap.size Aq (stP m O k).1.length cq (stP m O k).1 ∧ ¬ Foot g v gq ∧ (0 < (stP m O k).1.length → ∀ j, (Value.slice Aq (stP m O k).1.length cq).ownBlock = some j → ¬ Foot g v j ∧ j ≠ gq) ∧ Below w.heap.size w wr) (fun i _ => n - (intOf i).toNat)
  case atStart => exact ⟨0, _, none, 0, by omega, rfl, hlg0, hbox, rdE_none _ _, hnf0, fun h => absurd h (Nat.lt_irrefl _), hb2⟩
  case round =>
    clear hbox hlg0 hnf0 hb2 w2
    obtain ⟨k, v, Aq, cq, hk, rfl, hlg, hbox, hrq, hnf, hdj, hb⟩ := hrel
    obtain ⟨k1, k2, k3⟩ := Hok.out k hk
    by_cases hlt : k < n
    · have hlt' : (k : Int) < (n : Int) := by omega
      obtain ⟨gO, off, x, hA, hgO, hx, hrx⟩ := h.at_ hlt
      subst hA
      have hxq := HO.out x (List.mem_of_getElem? hx)
      have Hst := Lib.hid (stP_at (ev := m) hx)
      have hrx' : ∀ w', Below w.heap.size w w' → w'.rangeAt gO (off + k * 14) (enC x) := fun w' hb' j u hu => (hb'.cell (p := ⟨gO, off + k * 14 + j, none⟩) hgO).trans (hrx j u hu)
      have Hrx := Lib.hid hrx'
      have k0 := range_key (Hrx.out wr hb)
      have HxV := Lib.hid hxq.2.1
      have hgqs : gq < wr.heap.size := blk_lt hbox
      have hgs := hlg.lt
      clear hx hrx hrx'
      cases hxk : x.key with
      | true =>
        rw [hxk] at k0
        have S1 : Hid ((stP m O (k + 1)).1 = []) := Lib.hid (by rw [Hst.out]; unfold stepP; rw [if_pos hxk])
        have S2 : Hid ((stP m O (k + 1)).2.1 = (stP m O k).2.1) := Lib.hid (by rw [Hst.out]; unfold stepP; rw [if_pos hxk])
        have S3 : Hid ((stP m O (k + 1)).2.2 = flB (stP m O k).1 (stP m O k).2.2) := Lib.hid (by rw [Hst.out]; unfold stepP; rw [if_pos hxk])
        have Hfl := Lib.hid (fflush_any g m v (stP m O k).1 (stP m O k).2.1 (stP m O k).2.2 wr hlg k1 h1 (by omega))
        have Hqfl := Lib.hid (fun w1 (h1' : RdE w1 w1.heap.size Aq (stP m O k).1.length cq (stP m O k).1) => qflush_any m Aq cq w1.heap.size (stP m O k).1 (stP m O k).2.1 (stP m O k).2.2 w1 h1' (Nat.le_refl _) k1 (by omega))
        generalize flB (stP m O k).1 (stP m O k).2.2 = b1 at *
        generalize flO (stP m O k).1 (stP m O k).2.2 = o1 at *
        generalize (stP m O k).1 = L0 at *
        generalize (stP m O k).2.1 = r0 at *
        generalize (stP m O k).2.2 = b0 at *
        clear hxk Hst hxq k1
        go_wp2_with fail
        go_fit Hfl.out
        rintro e w3 ⟨A4, c4, n4, v4, rfl, own4, hlg4, haw4, hu4, hd4⟩
        replace hbox := haw4.keep hbox hnf
        have hnf4 : ¬ Foot g v4 gq := fun hf => by
          rcases hf with hf | hf
          · exact hnf (.inl hf)
          · rcases hu4 gq hf with h3 | h3
            · exact hnf (.inr h3)
            · omega
        have hdj4 : 0 < L0.length → ∀ j, (Value.slice Aq L0.length cq).ownBlock = some j → ¬ Foot g v4 j ∧ j ≠ gq := fun h0 j hj => ⟨fun hf => by
          rcases hf with hf | hf
          · exact (hdj h0 j hj).1 (.inl hf)
          · rcases hu4 j hf with h3 | h3
            · exact (hdj h0 j hj).1 (.inr h3)
            · obtain ⟨ga, offa, ea, hga, _⟩ := hrq.2.2.2.2 h0
              subst ea
              have hj2 : some ga = some j := hj
              injection hj2 with hj2
              omega, (hdj h0 j hj).2⟩
        replace hrq : RdE w3 w3.heap.size Aq L0.length cq L0 := RdR.more (RdE.aw hrq haw4 (Nat.le_refl _) (fun h0 j hj => (hdj h0 j hj).1)) haw4.size
        have hlo : ∀ j, (Value.slice A4 n4 c4).ownBlock = some j → gq < j ∧ j < w3.heap.size := fun j hj => by have := own_blk own4 hj; omega
        have hlv : ∀ j, v4.ownBlock = some j → j < w3.heap.size := fun j hj => (own_blk hlg4.2 hj).2
        replace hb := below_awG hb haw4 (fun j hj => by have := (hlg.foot hj).1; omega) hb.size
        replace hgs : g < w3.heap.size := hlg4.lt
        replace hgqs : gq < w3.heap.size := blk_lt hbox
        replace hlg := hlg4
        clear haw4 hu4 hdj hnf hlg4 k0
        go_wp2_with (first | (with_reducible refine stop_loadT 66 ?_) | (with_reducible refine stop_storeT 66 ?_))
        refine go_ (wpList_load_row rfl _ _ rfl gq rfl _ _ _ _ hbox Try.underlying66 rfl (by kernel_rfl) ?_)
        go_wp2_with fail
        go_fit (Hqfl.out w3 hrq)
        rintro e w4 ⟨Ae, ce, At, nt, ct, rfl, hre, ownt, hbx, hde⟩
        replace hbox := blk_old hbox hbx hgqs
        replace hb := bnx hb hbx
        replace hlg := hlg.up hbx
        replace own4 := own_up own4 hbx (Nat.le_refl _)
        have hlot : ∀ j, (Value.slice At nt ct).ownBlock = some j → gq < j := fun j hj => by have := (own_blk ownt hj).1; omega
        have hnew : 0 < ([] : List En).length → ∀ j, (Value.slice Ae ([] : List En).length ce).ownBlock = some j → ¬ Foot g v4 j ∧ j ≠ gq := fun h0 j hj => by
          have h3 := hde h0 j hj
          refine ⟨fun hf => ?_, by omega⟩
          rcases hf with hf | hf
          · omega
          · have := hlv j hf; omega
        clear hbx hrq hde hdj4
        go_wp2_with (first | (with_reducible refine stop_loadT 66 ?_) | (with_reducible refine stop_storeT 66 ?_))
        refine go_ (wpList_store_row rfl _ _ _ rfl gq (qlC m Ae ([] : List En).length ce r0 b1) rfl rfl _ _ hbox (by kernel_rfl) rfl (by kernel_rfl) ?_)
        have hbz := setRow_heap _ _ _ (qlC m Ae ([] : List En).length ce r0 b1) _ _ hbox
        have hAg : Aw (fun j => j = gq) w4 (w4.setRow gq (qlC m Ae ([] : List En).length ce r0 b1)) := aw_setRow35 _ _
        have hb1 := below_awG hb hAg (fun j hj => by omega) hb.size
        have hlg1 := hlg.keep hAg (fun j hj hu => hnf4 (hu ▸ hj))
        have hra1 := Rd.own (own_aw own4 hAg (fun j hj hu => by have := hlo j hj; omega))
        have hrb1 := Rd.own (own_aw ownt hAg (fun j hj hu => by have := hlot j hj; omega))
        have hre1 : RdE _ w4.heap.size Ae ([] : List En).length ce ([] : List En) := RdE.aw hre hAg (Nat.le_refl _) (fun h0 j hj hu => (hnew h0 j hj).2 hu)
        have hsz1 : w4.heap.size = (w4.setRow gq (qlC m Ae ([] : List En).length ce r0 b1)).heap.size := (setRow_size _ _ _).symm
        rw [hsz1] at hre1
        generalize (w4.setRow gq (qlC m Ae ([] : List En).length ce r0 b1)) = w5 at *
        clear hsz1 hAg hbox hb hlg own4 ownt hre hlo hlot hlv
        go_wp2_with fail
        go_fit (counts_any g m v4 ([] : List En) r0 b1 w5 hlg1 h1)
        rintro e w6 ⟨rfl, hbx⟩
        have hgq5 : gq < w5.heap.size := blk_lt hbz
        replace hbz := blk_old hbz hbx hgq5
        replace hlg1 := hlg1.up hbx
        replace hra1 := hra1.nx hbx
        replace hrb1 := hrb1.nx hbx
        replace hre1 : RdE w6 w6.heap.size Ae ([] : List En).length ce ([] : List En) := RdR.nx hre1 hbx
        replace hb1 := bnx hb1 hbx
        have hgq6 : gq < w6.heap.size := blk_lt hbz
        have q1 : w6.cell? ⟨gq, 1, none⟩ = some (.slice Ae ([] : List En).length ce) := blk_cell (i := 1) hbz rfl
        have q2 : w6.cell? ⟨gq, 2, none⟩ = some (.int .i64 (r0 : Int)) := blk_cell (i := 2) hbz rfl
        have q3 : w6.cell? ⟨gq, 3, none⟩ = some (.int .i64 (b1 : Int)) := blk_cell (i := 3) hbz rfl
        have Q1 := Lib.hid q1
        have Q2 := Lib.hid q2
        have Q3 := Lib.hid q3
        have Hop := Lib.hid (fun w1 (h1' : Lgr w1 g m v4 ([] : List En) r0 b1) => open36_any g m v4 ([] : List En) r0 b1 w1 h1' h1)
        clear hbx hgq5 q1 q2 q3
        go_wp2_with fail
        refine Ord.region_ (fun w' => Below w6.heap.size w6 w') false [] (by kernel_rfl) (by kernel_rfl) ((Below.refl _ _).drew) ?_
        have hS : Below w6.heap.size w6 w6.drew := (Below.refl _ _).drew
        generalize w6.drew = w7 at *
        ((with_reducible refine Ord.e_p (v := ?_) ?_ ?_ ?_ ?_); rotate_left; (· exact rfl); (· kernel_rfl); (· intro w2; go_simp; try with_reducible rfl))
        (try simp only [Act.put, List.setIfInBounds_toArray, List.set_cons_zero, List.set_cons_succ])
        refine Ord.e_strS Try.underlying26 Try.underlying5 Try.underlying9 (fun w' hS => hra1.up (show Below _ w6 w' from hS)) hS hS.size rfl (by kernel_rfl) ?_
        (try simp only [Act.put, List.setIfInBounds_toArray, List.set_cons_zero, List.set_cons_succ])
        ((with_reducible refine Ord.e_p (v := ?_) ?_ ?_ ?_ ?_); rotate_left; (· exact rfl); (· kernel_rfl); (· intro w2; go_simp; try with_reducible rfl))
        (try simp only [Act.put, List.setIfInBounds_toArray, List.set_cons_zero, List.set_cons_succ])
        refine Ord.e_strS Try.underlying26 Try.underlying5 Try.underlying9 (fun w' hS => hrb1.up (show Below _ w6 w' from hS)) hS hS.size rfl (by kernel_rfl) ?_
        (try simp only [Act.put, List.setIfInBounds_toArray, List.set_cons_zero, List.set_cons_succ])
        ((with_reducible refine Ord.e_p (v := ?_) ?_ ?_ ?_ ?_); rotate_left; (· exact rfl); (· kernel_rfl); (· intro w2; go_simp; try with_reducible rfl))
        (try simp only [Act.put, List.setIfInBounds_toArray, List.set_cons_zero, List.set_cons_succ])
        ((with_reducible refine Ord.e_p (v := ?_) ?_ ?_ ?_ ?_); rotate_left; (· exact rfl); (· kernel_rfl); (· intro w2; go_simp; try with_reducible rfl))
        (try simp only [Act.put, List.setIfInBounds_toArray, List.set_cons_zero, List.set_cons_succ])
        ((with_reducible refine Ord.e_p (v := ?_) ?_ ?_ ?_ ?_); rotate_left; (· exact rfl); (· kernel_rfl); (· intro w2; go_simp; try with_reducible rfl))
        (try simp only [Act.put, List.setIfInBounds_toArray, List.set_cons_zero, List.set_cons_succ])
        refine Ord.e_x rfl (by kernel_rfl) ?_
        go_wp2_with fail
        go_fit (Hop.out w7 (hlg1.up hS))
        rintro e w8 ⟨rfl, rfl⟩
        go_wp2_with fail
        refine Ord.Seg.go hS (fun h => by cases h) ?_
        (try simp only [Act.put, List.setIfInBounds_toArray, List.set_cons_zero, List.set_cons_succ])
        ((with_reducible refine Ord.e_p (v := ?_) ?_ ?_ ?_ ?_); rotate_left; (· exact rfl); (· kernel_rfl); (· intro w2; go_simp; try with_reducible rfl))
        (try simp only [Act.put, List.setIfInBounds_toArray, List.set_cons_zero, List.set_cons_succ])
        refine Ord.e_loadS Try.underlying39 rfl (fun w' hS => ((show Below _ w6 w' from hS).cell (p := ⟨gq, 1, none⟩) (by show gq < _; omega)).trans Q1.out) hS rfl (by kernel_rfl) ?_
        (try simp only [Act.put, List.setIfInBounds_toArray, List.set_cons_zero, List.set_cons_succ])
        ((with_reducible refine Ord.e_p (v := ?_) ?_ ?_ ?_ ?_); rotate_left; (· exact rfl); (· kernel_rfl); (· intro w2; go_simp; try with_reducible rfl))
        (try simp only [Act.put, List.setIfInBounds_toArray, List.set_cons_zero, List.set_cons_succ])
        ((with_reducible refine Ord.e_p (v := ?_) ?_ ?_ ?_ ?_); rotate_left; (· exact rfl); (· kernel_rfl); (· intro w2; go_simp; try with_reducible rfl))
        (try simp only [Act.put, List.setIfInBounds_toArray, List.set_cons_zero, List.set_cons_succ])
        ((with_reducible refine Ord.e_p (v := ?_) ?_ ?_ ?_ ?_); rotate_left; (· exact rfl); (· kernel_rfl); (· intro w2; go_simp; try with_reducible rfl))
        (try simp only [Act.put, List.setIfInBounds_toArray, List.set_cons_zero, List.set_cons_succ])
        ((with_reducible refine Ord.e_p (v := ?_) ?_ ?_ ?_ ?_); rotate_left; (· exact rfl); (· kernel_rfl); (· intro w2; go_simp; try with_reducible rfl))
        (try simp only [Act.put, List.setIfInBounds_toArray, List.set_cons_zero, List.set_cons_succ])
        ((with_reducible refine Ord.e_p (v := ?_) ?_ ?_ ?_ ?_); rotate_left; (· exact rfl); (· kernel_rfl); (· intro w2; go_simp; try with_reducible rfl))
        (try simp only [Act.put, List.setIfInBounds_toArray, List.set_cons_zero, List.set_cons_succ])
        ((with_reducible refine Ord.e_p (v := ?_) ?_ ?_ ?_ ?_); rotate_left; (· exact rfl); (· kernel_rfl); (· intro w2; go_simp; try with_reducible rfl))
        (try simp only [Act.put, List.setIfInBounds_toArray, List.set_cons_zero, List.set_cons_succ])
        refine Ord.e_loadS Try.underlying3 rfl (fun w' hS => ((show Below _ w6 w' from hS).cell (p := ⟨gq, 2, none⟩) (by show gq < _; omega)).trans Q2.out) hS rfl (by kernel_rfl) ?_
        (try simp only [Act.put, List.setIfInBounds_toArray, List.set_cons_zero, List.set_cons_succ])
        ((with_reducible refine Ord.e_p (v := ?_) ?_ ?_ ?_ ?_); rotate_left; (· exact rfl); (· kernel_rfl); (· intro w2; go_simp; try with_reducible rfl))
        (try simp only [Act.put, List.setIfInBounds_toArray, List.set_cons_zero, List.set_cons_succ])
        ((with_reducible refine Ord.e_p (v := ?_) ?_ ?_ ?_ ?_); rotate_left; (· exact rfl); (· kernel_rfl); (· intro w2; go_simp; try with_reducible rfl))
        (try simp only [Act.put, List.setIfInBounds_toArray, List.set_cons_zero, List.set_cons_succ])
        ((with_reducible refine Ord.e_p (v := ?_) ?_ ?_ ?_ ?_); rotate_left; (· exact rfl); (· kernel_rfl); (· intro w2; go_simp; try with_reducible rfl))
        (try simp only [Act.put, List.setIfInBounds_toArray, List.set_cons_zero, List.set_cons_succ])
        ((with_reducible refine Ord.e_p (v := ?_) ?_ ?_ ?_ ?_); rotate_left; (· exact rfl); (· kernel_rfl); (· intro w2; go_simp; try with_reducible rfl))
        (try simp only [Act.put, List.setIfInBounds_toArray, List.set_cons_zero, List.set_cons_succ])
        ((with_reducible refine Ord.e_p (v := ?_) ?_ ?_ ?_ ?_); rotate_left; (· exact rfl); (· kernel_rfl); (· intro w2; go_simp; try with_reducible rfl))
        (try simp only [Act.put, List.setIfInBounds_toArray, List.set_cons_zero, List.set_cons_succ])
        refine Ord.e_loadS Try.underlying3 rfl (fun w' hS => ((show Below _ w6 w' from hS).cell (p := ⟨gq, 3, none⟩) (by show gq < _; omega)).trans Q3.out) hS rfl (by kernel_rfl) ?_
        (try simp only [Act.put, List.setIfInBounds_toArray, List.set_cons_zero, List.set_cons_succ])
        ((with_reducible refine Ord.e_p (v := ?_) ?_ ?_ ?_ ?_); rotate_left; (· exact rfl); (· kernel_rfl); (· intro w2; go_simp; try with_reducible rfl))
        (try simp only [Act.put, List.setIfInBounds_toArray, List.set_cons_zero, List.set_cons_succ])
        ((with_reducible refine Ord.e_p (v := ?_) ?_ ?_ ?_ ?_); rotate_left; (· exact rfl); (· kernel_rfl); (· intro w2; go_simp; try with_reducible rfl))
        (try simp only [Act.put, List.setIfInBounds_toArray, List.set_cons_zero, List.set_cons_succ])
        refine Ord.e_nil ?_
        have hbz7 := blk_old hbz hS hgq6
        have hlg7 := hlg1.up hS
        have hre7 : RdE w7 w7.heap.size Ae ([] : List En).length ce ([] : List En) := RdR.nx hre1 hS
        have hb7 := bnx hb1 hS
        clear hS hbz hlg1 hre1 hb1 hra1 hrb1
        go_wp2
        go_roundw
        case rel => exact ⟨k + 1, v4, Ae, ce, by omega, by go_num, by rw [S1.out, S2.out, S3.out]; exact hlg7, by rw [S1.out, S2.out, S3.out]; exact hbz7, by rw [S1.out]; exact hre7, hnf4, by rw [S1.out]; exact hnew, hb7⟩
        case measure => simp [intOf]; omega
      | false =>
        rw [hxk] at k0
        have S1 : Hid ((stP m O (k + 1)).1 = adL m (stP m O k).1 (stP m O k).2.1 x.t x.V) := Lib.hid (by rw [Hst.out]; unfold stepP; rw [if_neg (by rw [hxk]; simp)])
        have S2 : Hid ((stP m O (k + 1)).2.1 = (stP m O k).2.1 + 1) := Lib.hid (by rw [Hst.out]; unfold stepP; rw [if_neg (by rw [hxk]; simp)])
        have S3 : Hid ((stP m O (k + 1)).2.2 = adB m (stP m O k).1 (stP m O k).2.1 (stP m O k).2.2 x.t x.V) := Lib.hid (by rw [Hst.out]; unfold stepP; rw [if_neg (by rw [hxk]; simp)])
        have Hfl := Lib.hid (fadd_any g m v (stP m O k).1 (stP m O k).2.1 (stP m O k).2.2 x.t x.V wr hlg k1 h1 h2 (by omega) (by omega) hxq.1 hxq.2.1 hxq.2.2)
        have Hqfl := Lib.hid (fun w1 (h1' : RdE w1 w1.heap.size Aq (stP m O k).1.length cq (stP m O k).1) => qadd_any m Aq (stP m O k).1.length cq w1.heap.size (stP m O k).1 (stP m O k).2.1 (stP m O k).2.2 x.t x.V w1 rfl h1' (Nat.le_refl _) k1 h1 h2 (by omega) (by omega) hxq.1 hxq.2.1 hxq.2.2)
        generalize adL m (stP m O k).1 (stP m O k).2.1 x.t x.V = L1 at *
        generalize adB m (stP m O k).1 (stP m O k).2.1 (stP m O k).2.2 x.t x.V = b1 at *
        generalize adO m (stP m O k).1 (stP m O k).2.1 (stP m O k).2.2 x.t x.V = o1 at *
        generalize (stP m O k).1 = L0 at *
        generalize (stP m O k).2.1 = r0 at *
        generalize (stP m O k).2.2 = b0 at *
        clear hxk Hst hxq k1
        go_wp2_with (first | (with_reducible refine stop_loadT 25 ?_) | (with_reducible refine stop_storeT 25 ?_) | (with_reducible refine stop_loadG 25 ?_))
        refine go_ (wpList_load_mid rfl _ _ rfl gO (off + k * 14 + 1) rfl _ _ (range_rec (Hrx.out wr hb)) Try.underlying25 rfl (by rw [rcC_size x.t x.V HxV.out]; kernel_rfl) ?_)
        go_wp2_with fail
        go_fit Hfl.out
        rintro e w3 ⟨A4, c4, n4, v4, rfl, own4, hlg4, haw4, hu4, hd4⟩
        replace hbox := haw4.keep hbox hnf
        have hnf4 : ¬ Foot g v4 gq := fun hf => by
          rcases hf with hf | hf
          · exact hnf (.inl hf)
          · rcases hu4 gq hf with h3 | h3
            · exact hnf (.inr h3)
            · omega
        have hdj4 : 0 < L0.length → ∀ j, (Value.slice Aq L0.length cq).ownBlock = some j → ¬ Foot g v4 j ∧ j ≠ gq := fun h0 j hj => ⟨fun hf => by
          rcases hf with hf | hf
          · exact (hdj h0 j hj).1 (.inl hf)
          · rcases hu4 j hf with h3 | h3
            · exact (hdj h0 j hj).1 (.inr h3)
            · obtain ⟨ga, offa, ea, hga, _⟩ := hrq.2.2.2.2 h0
              subst ea
              have hj2 : some ga = some j := hj
              injection hj2 with hj2
              omega, (hdj h0 j hj).2⟩
        replace hrq : RdE w3 w3.heap.size Aq L0.length cq L0 := RdR.more (RdE.aw hrq haw4 (Nat.le_refl _) (fun h0 j hj => (hdj h0 j hj).1)) haw4.size
        have hlo : ∀ j, (Value.slice A4 n4 c4).ownBlock = some j → gq < j ∧ j < w3.heap.size := fun j hj => by have := own_blk own4 hj; omega
        have hlv : ∀ j, v4.ownBlock = some j → j < w3.heap.size := fun j hj => (own_blk hlg4.2 hj).2
        replace hb := below_awG hb haw4 (fun j hj => by have := (hlg.foot hj).1; omega) hb.size
        replace hgs : g < w3.heap.size := hlg4.lt
        replace hgqs : gq < w3.heap.size := blk_lt hbox
        replace hlg := hlg4
        clear haw4 hu4 hdj hnf hlg4 k0
        go_wp2_with fail
        refine Ord.region_ (fun w' => Below w.heap.size w w') true [58] (by kernel_rfl) (by kernel_rfl) hb.drew ?_
        have hS : Below w.heap.size w w3.drew := hb.drew
        replace hbox : w3.drew.heap[gq]? = _ := hbox
        replace hrq : RdE w3.drew w3.drew.heap.size Aq L0.length cq L0 := RdR.nx hrq (Below.refl _ _).drew
        replace own4 := own_up own4 (w' := w3.drew) (Below.refl _ _).drew (Nat.le_refl _)
        replace hlg := hlg.up (w' := w3.drew) (Below.refl _ _).drew
        replace hlv : ∀ j, v4.ownBlock = some j → j < w3.drew.heap.size := hlv
        replace hlo : ∀ j, (Value.slice A4 n4 c4).ownBlock = some j → gq < j ∧ j < w3.drew.heap.size := hlo
        replace hgs : g < w3.drew.heap.size := hgs
        replace hgqs : gq < w3.drew.heap.size := hgqs
        generalize w3.drew = w3d at *
        clear hb
        have hrow : w3d.rangeAt gq 0 (qlC m Aq L0.length cq r0 b0).toList := fun j u hu => blk_cell (i := 0 + j) hbox (by rw [Nat.zero_add]; simpa using hu)
        refine Ord.e_row Try.underlying66 rfl (by kernel_rfl) rfl hrow (by rfl) (by kernel_rfl) ?_
        (try simp only [Act.put, List.setIfInBounds_toArray, List.set_cons_zero, List.set_cons_succ])
        ((with_reducible refine Ord.e_p (v := ?_) ?_ ?_ ?_ ?_); rotate_left; (· exact rfl); (· kernel_rfl); (· intro w2; go_simp; try with_reducible rfl))
        (try simp only [Act.put, List.setIfInBounds_toArray, List.set_cons_zero, List.set_cons_succ])
        ((with_reducible refine Ord.e_p (v := ?_) ?_ ?_ ?_ ?_); rotate_left; (· exact rfl); (· kernel_rfl); (· intro w2; go_simp; try with_reducible rfl))
        (try simp only [Act.put, List.setIfInBounds_toArray, List.set_cons_zero, List.set_cons_succ])
        ((with_reducible refine Ord.e_p (v := ?_) ?_ ?_ ?_ ?_); rotate_left; (· exact rfl); (· kernel_rfl); (· intro w2; go_simp; try with_reducible rfl))
        (try simp only [Act.put, List.setIfInBounds_toArray, List.set_cons_zero, List.set_cons_succ])
        ((with_reducible refine Ord.e_p (v := ?_) ?_ ?_ ?_ ?_); rotate_left; (· exact rfl); (· kernel_rfl); (· intro w2; go_simp; try with_reducible rfl))
        (try simp only [Act.put, List.setIfInBounds_toArray, List.set_cons_zero, List.set_cons_succ])
        refine Ord.e_rowS (b := gO) (o := off + k * 14 + 1) Try.underlying25 rfl (by rw [rcC_size x.t x.V HxV.out]; kernel_rfl) rfl (by unfold rcC; simp) (fun w' hS => range_rec (Hrx.out w' (show Below _ w w' from hS))) hS (by kernel_rfl) ?_
        (try simp only [Act.put, List.setIfInBounds_toArray, List.set_cons_zero, List.set_cons_succ])
        refine Ord.e_x rfl (by kernel_rfl) ?_
        go_wp2_with fail
        go_fit (Hqfl.out w3d hrq)
        rintro e w4 ⟨Ae, ce, At, nt, ct, rfl, hre, ownt, hbx, hde⟩
        replace hbox := blk_old hbox hbx hgqs
        replace hS := bnx hS hbx
        replace hlg := hlg.up hbx
        replace own4 := own_up own4 hbx (Nat.le_refl _)
        have hlot : ∀ j, (Value.slice At nt ct).ownBlock = some j → gq < j := fun j hj => by have := (own_blk ownt hj).1; omega
        have hnew : 0 < L1.length → ∀ j, (Value.slice Ae L1.length ce).ownBlock = some j → ¬ Foot g v4 j ∧ j ≠ gq := fun h0 j hj => by
          have h3 := hde h0 j hj
          refine ⟨fun hf => ?_, by omega⟩
          rcases hf with hf | hf
          · omega
          · have := hlv j hf; omega
        clear hrow hrq hde hdj4
        go_wp2_with fail
        refine Ord.Seg.go hS (fun _ => hbx) ?_
        (try simp only [Act.put, List.setIfInBounds_toArray, List.set_cons_zero, List.set_cons_succ])
        clear hbx
        have hb := hS
        ((with_reducible refine Ord.e_p (v := ?_) ?_ ?_ ?_ ?_); rotate_left; (· exact rfl); (· kernel_rfl); (· intro w2; go_simp; try with_reducible rfl))
        (try simp only [Act.put, List.setIfInBounds_toArray, List.set_cons_zero, List.set_cons_succ])
        ((with_reducible refine Ord.e_p (v := ?_) ?_ ?_ ?_ ?_); rotate_left; (· exact rfl); (· kernel_rfl); (· intro w2; go_simp; try with_reducible rfl))
        (try simp only [Act.put, List.setIfInBounds_toArray, List.set_cons_zero, List.set_cons_succ])
        ((with_reducible refine Ord.e_p (v := ?_) ?_ ?_ ?_ ?_); rotate_left; (· exact rfl); (· kernel_rfl); (· intro w2; go_simp; try with_reducible rfl))
        (try simp only [Act.put, List.setIfInBounds_toArray, List.set_cons_zero, List.set_cons_succ])
        refine Ord.e_x rfl (by kernel_rfl) ?_
        refine wpList_store_row rfl _ _ _ rfl gq (qlC m Ae L1.length ce (r0 + 1) b1) rfl rfl _ _ hbox (by kernel_rfl) rfl (by kernel_rfl) ?_
        have hbz := setRow_heap _ _ _ (qlC m Ae L1.length ce (r0 + 1) b1) _ _ hbox
        have hAg : Aw (fun j => j = gq) w4 (w4.setRow gq (qlC m Ae L1.length ce (r0 + 1) b1)) := aw_setRow35 _ _
        have hb1 := below_awG hb hAg (fun j hj => by omega) hb.size
        have hlg1 := hlg.keep hAg (fun j hj hu => hnf4 (hu ▸ hj))
        have hra1 := Rd.own (own_aw own4 hAg (fun j hj hu => by have := hlo j hj; omega))
        have hrb1 := Rd.own (own_aw ownt hAg (fun j hj hu => by have := hlot j hj; omega))
        have hre1 : RdE _ w4.heap.size Ae L1.length ce L1 := RdE.aw hre hAg (Nat.le_refl _) (fun h0 j hj hu => (hnew h0 j hj).2 hu)
        have hsz1 : w4.heap.size = (w4.setRow gq (qlC m Ae L1.length ce (r0 + 1) b1)).heap.size := (setRow_size _ _ _).symm
        rw [hsz1] at hre1
        generalize (w4.setRow gq (qlC m Ae L1.length ce (r0 + 1) b1)) = w5 at *
        clear hsz1 hAg hbox hb hlg own4 ownt hre hlo hlot hlv
        go_wp2_with fail
        refine Ord.Seg.go hb1 (fun h => by cases h) ?_
        (try simp only [Act.put, List.setIfInBounds_toArray, List.set_cons_zero, List.set_cons_succ])
        ((with_reducible refine Ord.e_p (v := ?_) ?_ ?_ ?_ ?_); rotate_left; (· exact rfl); (· kernel_rfl); (· intro w2; go_simp; try with_reducible rfl))
        (try simp only [Act.put, List.setIfInBounds_toArray, List.set_cons_zero, List.set_cons_succ])
        refine Ord.e_nil ?_
        go_wp2_with fail
        go_fit (counts_any g m v4 L1 (r0 + 1) b1 w5 hlg1 h1)
        rintro e w6 ⟨rfl, hbx⟩
        have hgq5 : gq < w5.heap.size := blk_lt hbz
        replace hbz := blk_old hbz hbx hgq5
        replace hlg1 := hlg1.up hbx
        replace hra1 := hra1.nx hbx
        replace hrb1 := hrb1.nx hbx
        replace hre1 : RdE w6 w6.heap.size Ae L1.length ce L1 := RdR.nx hre1 hbx
        replace hb1 := bnx hb1 hbx
        have hgq6 : gq < w6.heap.size := blk_lt hbz
        have q1 : w6.cell? ⟨gq, 1, none⟩ = some (.slice Ae L1.length ce) := blk_cell (i := 1) hbz rfl
        have q2 : w6.cell? ⟨gq, 2, none⟩ = some (.int .i64 ((r0 + 1) : Int)) := blk_cell (i := 2) hbz rfl
        have q3 : w6.cell? ⟨gq, 3, none⟩ = some (.int .i64 (b1 : Int)) := blk_cell (i := 3) hbz rfl
        have Q1 := Lib.hid q1
        have Q2 := Lib.hid q2
        have Q3 := Lib.hid q3
        have Hop := Lib.hid (fun w1 (h1' : Lgr w1 g m v4 L1 (r0 + 1) b1) => open36_any g m v4 L1 (r0 + 1) b1 w1 h1' h1)
        clear hbx hgq5 q1 q2 q3
        go_wp2_with fail
        refine Ord.region_ (fun w' => Below w6.heap.size w6 w') false [] (by kernel_rfl) (by kernel_rfl) ((Below.refl _ _).drew) ?_
        have hS : Below w6.heap.size w6 w6.drew := (Below.refl _ _).drew
        generalize w6.drew = w7 at *
        ((with_reducible refine Ord.e_p (v := ?_) ?_ ?_ ?_ ?_); rotate_left; (· exact rfl); (· kernel_rfl); (· intro w2; go_simp; try with_reducible rfl))
        (try simp only [Act.put, List.setIfInBounds_toArray, List.set_cons_zero, List.set_cons_succ])
        refine Ord.e_strS Try.underlying26 Try.underlying5 Try.underlying9 (fun w' hS => hra1.up (show Below _ w6 w' from hS)) hS hS.size rfl (by kernel_rfl) ?_
        (try simp only [Act.put, List.setIfInBounds_toArray, List.set_cons_zero, List.set_cons_succ])
        ((with_reducible refine Ord.e_p (v := ?_) ?_ ?_ ?_ ?_); rotate_left; (· exact rfl); (· kernel_rfl); (· intro w2; go_simp; try with_reducible rfl))
        (try simp only [Act.put, List.setIfInBounds_toArray, List.set_cons_zero, List.set_cons_succ])
        refine Ord.e_strS Try.underlying26 Try.underlying5 Try.underlying9 (fun w' hS => hrb1.up (show Below _ w6 w' from hS)) hS hS.size rfl (by kernel_rfl) ?_
        (try simp only [Act.put, List.setIfInBounds_toArray, List.set_cons_zero, List.set_cons_succ])
        ((with_reducible refine Ord.e_p (v := ?_) ?_ ?_ ?_ ?_); rotate_left; (· exact rfl); (· kernel_rfl); (· intro w2; go_simp; try with_reducible rfl))
        (try simp only [Act.put, List.setIfInBounds_toArray, List.set_cons_zero, List.set_cons_succ])
        ((with_reducible refine Ord.e_p (v := ?_) ?_ ?_ ?_ ?_); rotate_left; (· exact rfl); (· kernel_rfl); (· intro w2; go_simp; try with_reducible rfl))
        (try simp only [Act.put, List.setIfInBounds_toArray, List.set_cons_zero, List.set_cons_succ])
        ((with_reducible refine Ord.e_p (v := ?_) ?_ ?_ ?_ ?_); rotate_left; (· exact rfl); (· kernel_rfl); (· intro w2; go_simp; try with_reducible rfl))
        (try simp only [Act.put, List.setIfInBounds_toArray, List.set_cons_zero, List.set_cons_succ])
        refine Ord.e_x rfl (by kernel_rfl) ?_
        go_wp2_with fail
        go_fit (Hop.out w7 (hlg1.up hS))
        rintro e w8 ⟨rfl, rfl⟩
        go_wp2_with fail
        refine Ord.Seg.go hS (fun h => by cases h) ?_
        (try simp only [Act.put, List.setIfInBounds_toArray, List.set_cons_zero, List.set_cons_succ])
        ((with_reducible refine Ord.e_p (v := ?_) ?_ ?_ ?_ ?_); rotate_left; (· exact rfl); (· kernel_rfl); (· intro w2; go_simp; try with_reducible rfl))
        (try simp only [Act.put, List.setIfInBounds_toArray, List.set_cons_zero, List.set_cons_succ])
        refine Ord.e_loadS Try.underlying39 rfl (fun w' hS => ((show Below _ w6 w' from hS).cell (p := ⟨gq, 1, none⟩) (by show gq < _; omega)).trans Q1.out) hS rfl (by kernel_rfl) ?_
        (try simp only [Act.put, List.setIfInBounds_toArray, List.set_cons_zero, List.set_cons_succ])
        ((with_reducible refine Ord.e_p (v := ?_) ?_ ?_ ?_ ?_); rotate_left; (· exact rfl); (· kernel_rfl); (· intro w2; go_simp; try with_reducible rfl))
        (try simp only [Act.put, List.setIfInBounds_toArray, List.set_cons_zero, List.set_cons_succ])
        ((with_reducible refine Ord.e_p (v := ?_) ?_ ?_ ?_ ?_); rotate_left; (· exact rfl); (· kernel_rfl); (· intro w2; go_simp; try with_reducible rfl))
        (try simp only [Act.put, List.setIfInBounds_toArray, List.set_cons_zero, List.set_cons_succ])
        ((with_reducible refine Ord.e_p (v := ?_) ?_ ?_ ?_ ?_); rotate_left; (· exact rfl); (· kernel_rfl); (· intro w2; go_simp; try with_reducible rfl))
        (try simp only [Act.put, List.setIfInBounds_toArray, List.set_cons_zero, List.set_cons_succ])
        ((with_reducible refine Ord.e_p (v := ?_) ?_ ?_ ?_ ?_); rotate_left; (· exact rfl); (· kernel_rfl); (· intro w2; go_simp; try with_reducible rfl))
        (try simp only [Act.put, List.setIfInBounds_toArray, List.set_cons_zero, List.set_cons_succ])
        ((with_reducible refine Ord.e_p (v := ?_) ?_ ?_ ?_ ?_); rotate_left; (· exact rfl); (· kernel_rfl); (· intro w2; go_simp; try with_reducible rfl))
        (try simp only [Act.put, List.setIfInBounds_toArray, List.set_cons_zero, List.set_cons_succ])
        ((with_reducible refine Ord.e_p (v := ?_) ?_ ?_ ?_ ?_); rotate_left; (· exact rfl); (· kernel_rfl); (· intro w2; go_simp; try with_reducible rfl))
        (try simp only [Act.put, List.setIfInBounds_toArray, List.set_cons_zero, List.set_cons_succ])
        refine Ord.e_loadS Try.underlying3 rfl (fun w' hS => ((show Below _ w6 w' from hS).cell (p := ⟨gq, 2, none⟩) (by show gq < _; omega)).trans Q2.out) hS rfl (by kernel_rfl) ?_
        (try simp only [Act.put, List.setIfInBounds_toArray, List.set_cons_zero, List.set_cons_succ])
        ((with_reducible refine Ord.e_p (v := ?_) ?_ ?_ ?_ ?_); rotate_left; (· exact rfl); (· kernel_rfl); (· intro w2; go_simp; try with_reducible rfl))
        (try simp only [Act.put, List.setIfInBounds_toArray, List.set_cons_zero, List.set_cons_succ])
        ((with_reducible refine Ord.e_p (v := ?_) ?_ ?_ ?_ ?_); rotate_left; (· exact rfl); (· kernel_rfl); (· intro w2; go_simp; try with_reducible rfl))
        (try simp only [Act.put, List.setIfInBounds_toArray, List.set_cons_zero, List.set_cons_succ])
        ((with_reducible refine Ord.e_p (v := ?_) ?_ ?_ ?_ ?_); rotate_left; (· exact rfl); (· kernel_rfl); (· intro w2; go_simp; try with_reducible rfl))
        (try simp only [Act.put, List.setIfInBounds_toArray, List.set_cons_zero, List.set_cons_succ])
        ((with_reducible refine Ord.e_p (v := ?_) ?_ ?_ ?_ ?_); rotate_left; (· exact rfl); (· kernel_rfl); (· intro w2; go_simp; try with_reducible rfl))
        (try simp only [Act.put, List.setIfInBounds_toArray, List.set_cons_zero, List.set_cons_succ])
        ((with_reducible refine Ord.e_p (v := ?_) ?_ ?_ ?_ ?_); rotate_left; (· exact rfl); (· kernel_rfl); (· intro w2; go_simp; try with_reducible rfl))
        (try simp only [Act.put, List.setIfInBounds_toArray, List.set_cons_zero, List.set_cons_succ])
        refine Ord.e_loadS Try.underlying3 rfl (fun w' hS => ((show Below _ w6 w' from hS).cell (p := ⟨gq, 3, none⟩) (by show gq < _; omega)).trans Q3.out) hS rfl (by kernel_rfl) ?_
        (try simp only [Act.put, List.setIfInBounds_toArray, List.set_cons_zero, List.set_cons_succ])
        ((with_reducible refine Ord.e_p (v := ?_) ?_ ?_ ?_ ?_); rotate_left; (· exact rfl); (· kernel_rfl); (· intro w2; go_simp; try with_reducible rfl))
        (try simp only [Act.put, List.setIfInBounds_toArray, List.set_cons_zero, List.set_cons_succ])
        ((with_reducible refine Ord.e_p (v := ?_) ?_ ?_ ?_ ?_); rotate_left; (· exact rfl); (· kernel_rfl); (· intro w2; go_simp; try with_reducible rfl))
        (try simp only [Act.put, List.setIfInBounds_toArray, List.set_cons_zero, List.set_cons_succ])
        refine Ord.e_nil ?_
        have hbz7 := blk_old hbz hS hgq6
        have hlg7 := hlg1.up hS
        have hre7 : RdE w7 w7.heap.size Ae L1.length ce L1 := RdR.nx hre1 hS
        have hb7 := bnx hb1 hS
        clear hS hbz hlg1 hre1 hb1 hra1 hrb1
        go_wp2
        go_roundw
        case rel => exact ⟨k + 1, v4, Ae, ce, by omega, by go_num, by rw [S1.out, S2.out, S3.out]; exact hlg7, by rw [S1.out, S2.out, S3.out]; exact hbz7, by rw [S1.out]; exact hre7, hnf4, by rw [S1.out]; exact hnew, hb7⟩
        case measure => simp [intOf]; omega
    · obtain rfl : k = n := by omega
      go_wp2
      go_ret
      exact ⟨rfl, hb⟩

end Go.Proofs.Ytplgcfjcdjlnbaa
