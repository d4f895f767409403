/-
  valset.Take walked (printed by gen_val6.py).
-/
import Derived.Test.YtmkidihcdljkiaaGreatKBVal2
set_option linter.unusedSimpArgs false
set_option linter.unusedVariables false
namespace Go.Proofs.YtmkidihcdljkiaaGreat
open Go.RowKit NumLaw
attribute [local go_sem] Addr.add_mid

theorem Rdr.keepU {lo g : Nat} {w w' : World} {l : List UInt8} {bad : Bool} {U : Nat → Prop} (h : Rdr lo w g l bad) (ha : Aw U w w') (hu : ∀ k, U k → k < lo) (hlg : lo ≤ g) : Rdr lo w' g l bad := by
  obtain ⟨⟨A, n, c, h1, h2, h4⟩, h3⟩ := h
  refine ⟨⟨A, n, c, h1.aw ha (fun hU => by have := hu _ hU; omega), ⟨h2.len, h2.le, h2.max, fun hn => ?_⟩, h4⟩, h3⟩
  obtain ⟨ad, e, hb, hc⟩ := h2.at_ hn
  refine ⟨ad, e, hb, fun j u hj => Eq.trans ?_ (hc j u hj)⟩
  have h5 := h4 ad e
  have h6 := h1.lt
  rw [World.cell?, World.cell?, ha.block (ad.add j).block (by rw [blk_add]; omega) (fun hU => by have := hu _ hU; rw [blk_add] at this; omega)]
theorem aw_setRow20 {w : World} (g : Nat) (cs : Array Value) : Aw (fun k => k = g) w (w.setRow g cs) :=
  ⟨setRow_os w g cs, setRow_tape w g cs, setRow_output w g cs, by rw [setRow_size]; exact Nat.le_refl _, fun k _ hu => setRow_other w g k cs hu⟩
theorem below_aw20 {B : Nat} {a A' B' : World} {U : Nat → Prop} (h : Below B a A') (ha : Aw U A' B') (hu : ∀ k, U k → B ≤ k) (hB : B ≤ A'.heap.size) : Below B a B' :=
  ⟨ha.os.trans h.os, ha.tape.trans h.tape, ha.output.trans h.output, Nat.le_trans h.size ha.size, fun k hk => (ha.block k (by omega) (fun hU => by have := hu k hU; omega)).trans (h.block k hk)⟩
/-- The same, and the row lies in new memory. -/
def RetTValF (b : List UInt8) (w : World) (e : Ending) (w' : World) : Prop :=
  ∃ (A : Option Addr) (n c : Nat), e = .returned (.tuple #[.agg #[.int .i64 (valTt b), .slice A n c], .int .i64 (valTE b : Int)]) ∧ RdR w' w'.heap.size 2 A n c ((valTl b).map prC) ∧ (∀ p, A = some p → w.heap.size ≤ p.block) ∧ Below w.heap.size w w'
theorem pair_info : (Tryz.prog.info? 103).map (fun i => (i.zero, i.size, i.bytes)) = some (some (.agg #[.int .i64 0, .int .i64 0]), 2, 16) := by kernel_rfl
theorem prC_one (p : Int × Int) : ∀ u ∈ prC p, u.oneCell' = true := by
  intro u hu
  simp only [prC, List.mem_cons, List.not_mem_nil, or_false] at hu
  rcases hu with rfl | rfl <;> rfl
theorem prC_app (l : List (Int × Int)) (p : Int × Int) : (l.map prC).flatten ++ prC p = ((l ++ [p]).map prC).flatten := by simp
def slLen20 : Value → Nat
  | .slice _ n _ => n
  | _ => 0
theorem valT_out {b : List UInt8} {w w5 : World} {oE : Nat} (he : oE = valTE b) (h0 : oE ≠ 0) (hb : Below w.heap.size w w5) : RetTValF b w (.returned (.tuple #[.agg #[.int .i64 0, .slice none 0 0], .int .i64 (oE : Int)])) w5 := by
  obtain ⟨h1, h2⟩ := valT_none (b := b) (by rw [← he]; exact h0)
  exact ⟨none, 0, 0, by rw [h1, he], by rw [h2]; exact RdR.none_ _ _ _, fun _ h => (by cases h), hb⟩
theorem valTL_full {r : List UInt8} (h : r.length ≠ 0) : (valTL 0 r).1 = 7 := by unfold valTL; rw [if_neg h]
theorem valTL_short {m : Nat} {r : List UInt8} (h : r.length ≠ 0) (h4 : r.length < 4) : (valTL (m + 1) r).1 = 2 := by unfold valTL; rw [if_neg h, if_pos h4]
theorem valTL_kind {m : Nat} {r : List UInt8} (h4 : ¬ r.length < 4) (hk : szN (num (r.take 4)) = 0) : (valTL (m + 1) r).1 = 6 := by unfold valTL; rw [if_neg (by omega), if_neg h4, if_pos hk]
theorem valTL_short2 {m : Nat} {r : List UInt8} (h4 : ¬ r.length < 4) (hk : szN (num (r.take 4)) ≠ 0) (h5 : r.length < 4 + szN (num (r.take 4))) : (valTL (m + 1) r).1 = 2 := by unfold valTL; rw [if_neg (by omega), if_neg h4, if_neg hk, if_pos h5]
theorem valTL_range {m : Nat} {r : List UInt8} (h4 : ¬ r.length < 4) (hk : szN (num (r.take 4)) ≠ 0) (h5 : ¬ r.length < 4 + szN (num (r.take 4))) (h6 : msN (num (r.take 4)) < num ((r.drop 4).take (szN (num (r.take 4))))) : (valTL (m + 1) r).1 = 5 := by
  unfold valTL; rw [if_neg (by omega), if_neg h4, if_neg hk, if_neg h5, if_pos h6]
theorem valTE_many {b : List UInt8} (hl : ¬ b.length < 4) (hh : shTE vhF (b.take 4) = 0) : valTE b = (valTL 32 (b.drop 4)).1 := by
  unfold valTE
  rw [if_neg hl, if_pos hh]
theorem rd4 (l : List UInt8) (h : ¬ l.length < 4) : rdF (nU 4) l false = false ∧ rdB (nU 4) l false = l.take 4 ∧ rdL (nU 4) l false = l.drop 4 := by
  have h1 : rdF (nU 4) l false = false := by
    unfold rdF
    rw [show nU 4 = 4 from rfl]
    simp
    omega
  refine ⟨h1, ?_, ?_⟩
  · unfold rdB; rw [h1]; rfl
  · unfold rdL; rw [h1]; rfl
theorem rd4_no (l : List UInt8) (h : l.length < 4) : rdF (nU 4) l false = true ∧ rdB (nU 4) l false = [] ∧ rdL (nU 4) l false = [] := by
  have h1 : rdF (nU 4) l false = true := by
    unfold rdF
    rw [show nU 4 = 4 from rfl]
    simp
    omega
  refine ⟨h1, ?_, ?_⟩
  · unfold rdB; rw [h1]; rfl
  · unfold rdL; rw [h1]; rfl
theorem rdS (l : List UInt8) (s : Nat) (h1 : s ≠ 0) (h8 : s ≤ 8) (h : s ≤ l.length) : rdF (nU s) l false = false ∧ rdB (nU s) l false = l.take s ∧ rdL (nU s) l false = l.drop s := by
  have hn : nU s = s := by unfold nU; rw [if_neg (by omega)]
  have h1 : rdF (nU s) l false = false := by
    unfold rdF
    rw [hn]
    simp
    omega
  refine ⟨h1, ?_, ?_⟩
  · unfold rdB; rw [h1, hn]; rfl
  · unfold rdL; rw [h1, hn]; rfl

set_option maxRecDepth 10000 in
set_option maxHeartbeats 8000000 in
theorem valTake_anyF (A : Option Addr) (n c B : Nat) (b : List UInt8) (w : World) (h : Rd w B 1 A n c (bv b)) (hB : B ≤ w.heap.size) (hn : n ≤ 1000000000) :
    Calls Tryz.prog 171 #[.slice A n c] w (RetTValF b w) := by
  have hlb := h.blen
  have hle := h.le
  have hmx := h.max
  unfold maxLen at hmx
  obtain ⟨i0, hi⟩ := info_parts u8_info
  obtain ⟨i1, hi1⟩ := info_parts pair_info
  have hb1 : Below w.heap.size w (w.alloc (.cells #[.int .i64 0, .slice none 0 0] 33)) := (Below.refl _ _).alloc (Nat.le_refl _) _
  have hres := heap_alloc_new w (.cells #[.int .i64 0, .slice none 0 0] 33)
  have Hlb := Lib.hid hlb
  have Hi1 := Lib.hid hi1
  have Hi := Lib.hid hi
  by_cases h4 : n < 4
  · clear hlb hi hi1
    go_enter Tryz.func171, Tryz.ntmps171
    go_wp2
    go_step3
    go_wp2_with (first | (with_reducible refine stop_loadT 33 ?_) | (with_reducible refine stop_storeT 33 ?_))
    generalize (w.alloc (.cells #[.int .i64 0, .slice none 0 0] 33)) = w1 at *
    have E2 : Hid (2 = valTE b) := Lib.hid (by unfold valTE; rw [if_pos (by rw [Hlb.out]; omega)])
    skip
    refine go_ (wpList_store_row rfl _ _ _ rfl w.heap.size #[.int .i64 0, .slice none 0 0] rfl rfl _ _ hres (by kernel_rfl) rfl (by kernel_rfl) ?_)
    have hres5 := setRow_heap _ _ _ (#[.int .i64 0, .slice none 0 0] : Array Value) _ _ hres
    have hb5 := below_setRow hb1 (Nat.le_refl _) (#[.int .i64 0, .slice none 0 0] : Array Value)
    generalize (w1.setRow w.heap.size #[.int .i64 0, .slice none 0 0]) = v5 at *
    have e0 := blk_cell (i := 0) (v := .int .i64 0) hres5 rfl
    have e1 := blk_cell (i := 1) (v := .slice none 0 0) hres5 rfl
    go_wp2
    (try simp only [Exit.noGoto_ret])
    exact bodyPost_ret (v := .tuple #[.agg #[.int .i64 0, .slice none 0 0], .int .i64 2]) (by simp [results, go_sem, e0, e1]) rfl (valT_out (oE := 2) E2.out (by omega) hb5)
  obtain ⟨r, rfl⟩ : ∃ r, n = r + 4 := ⟨n - 4, by omega⟩
  have hcut4 : ∀ w, (Instr.slice 38 (.slice A (r + 4) c) none (some (.int .i64 4)) none).run Tryz.prog w = .ok (.slice A 4 c) w := run_cut_h (P := Tryz.prog) Tryz.underlying38 hi.1 A (r + 4) c 4 (by omega)
  have hcutl : ∀ w, (Instr.slice 38 (.slice A (r + 4) c) (some (.int .i64 4)) none none).run Tryz.prog w = .ok (.slice (cutA A c 4 1) r (c - 4)) w := fun w => by
    have := run_cut_l (P := Tryz.prog) Tryz.underlying38 hi.1 hi.2.2.1 A (r + 4) c 4 (by omega) w
    rwa [Nat.add_sub_cancel] at this
  obtain ⟨qT, hqT⟩ : ∃ v, v = shT vhF (b.take 4) := ⟨_, rfl⟩
  obtain ⟨qE, hqE⟩ : ∃ v, v = shTE vhF (b.take 4) := ⟨_, rfl⟩
  have HqT := Lib.hid hqT
  have HqE := Lib.hid hqE
  clear hlb hqT hqE hi hi1
  go_enter Tryz.func171, Tryz.ntmps171
  go_wp2
  go_step3
  go_wp2_with fail
  generalize (w.alloc (.cells #[.int .i64 0, .slice none 0 0] 33)) = w1 at *
  have hlt := blk_lt hres
  refine Ord.region_ (fun _ => True) false [] (by kernel_rfl) (by kernel_rfl) trivial ?_
  have hb2 : Below w.heap.size w w1.drew := hb1.drew
  replace hres : w1.drew.heap[w.heap.size]? = _ := hres
  have h2 : Rd w1.drew B 1 A (r + 4) c (bv b) := h.up (hb2.mono hB)
  generalize w1.drew = w2 at *
  clear hb1 hlt
  refine Ord.e_x rfl (by kernel_rfl) ?_
  go_wp2_with fail
  go_fit (vfirst_any w2)
  rintro e w3 ⟨Af, nf, cf, rfl, hnf, hrf, hb23⟩
  have hb3 := bnx hb2 hb23
  have h3 := h2.up (hb23.mono (Nat.le_trans hB hb2.size))
  replace hres := blk_old hres hb23 (blk_lt hres)
  go_wp2_with fail
  refine Ord.Seg.go trivial (fun h => by cases h) ?_
  (try simp only [Act.put, List.setIfInBounds_toArray, List.set_cons_zero, List.set_cons_succ])
  ((with_reducible refine Ord.e_p (v := ?_) ?_ ?_ ?_ ?_); rotate_left; (· exact rfl); (· kernel_rfl); (· intro w2; go_simp; try with_reducible rfl))
  (try simp only [Act.put, List.setIfInBounds_toArray, List.set_cons_zero, List.set_cons_succ])
  ((with_reducible refine Ord.e_p (v := ?_) ?_ ?_ ?_ ?_); rotate_left; (· exact rfl); (· kernel_rfl); (· intro w2; go_simp; try with_reducible rfl))
  (try simp only [Act.put, List.setIfInBounds_toArray, List.set_cons_zero, List.set_cons_succ])
  clear hb2 hb23 h2
  refine Ord.e_x rfl (by kernel_rfl) ?_
  go_wp2_with fail
  go_fit (shTake_any Af nf cf w3.heap.size vhF A 4 c B (b.take 4) w3 hrf (Nat.le_refl _) (h3.btake (by omega)) (Nat.le_trans hB hb3.size) (by omega) (by omega))
  rw [← HqE.out, ← HqT.out]
  rintro e w4 ⟨At, nt, ct, rfl, hown, hb34⟩
  have hb4 := bnx hb3 hb34
  have h4' := h3.up (hb34.mono (Nat.le_trans hB hb3.size))
  replace hres := blk_old hres hb34 (blk_lt hres)
  go_wp2_with fail
  refine Ord.Seg.go trivial (fun h => by cases h) ?_
  (try simp only [Act.put, List.setIfInBounds_toArray, List.set_cons_zero, List.set_cons_succ])
  ((with_reducible refine Ord.e_p (v := ?_) ?_ ?_ ?_ ?_); rotate_left; (· exact rfl); (· kernel_rfl); (· intro w2; go_simp; try with_reducible rfl))
  (try simp only [Act.put, List.setIfInBounds_toArray, List.set_cons_zero, List.set_cons_succ])
  ((with_reducible refine Ord.e_p (v := ?_) ?_ ?_ ?_ ?_); rotate_left; (· exact rfl); (· kernel_rfl); (· intro w2; go_simp; try with_reducible rfl))
  (try simp only [Act.put, List.setIfInBounds_toArray, List.set_cons_zero, List.set_cons_succ])
  ((with_reducible refine Ord.e_p (v := ?_) ?_ ?_ ?_ ?_); rotate_left; (· exact rfl); (· kernel_rfl); (· intro w2; go_simp; try with_reducible rfl))
  (try simp only [Act.put, List.setIfInBounds_toArray, List.set_cons_zero, List.set_cons_succ])
  ((with_reducible refine Ord.e_p (v := ?_) ?_ ?_ ?_ ?_); rotate_left; (· exact rfl); (· kernel_rfl); (· intro w2; go_simp; try with_reducible rfl))
  (try simp only [Act.put, List.setIfInBounds_toArray, List.set_cons_zero, List.set_cons_succ])
  ((with_reducible refine Ord.e_p (v := ?_) ?_ ?_ ?_ ?_); rotate_left; (· exact rfl); (· kernel_rfl); (· intro w2; go_simp; try with_reducible rfl))
  (try simp only [Act.put, List.setIfInBounds_toArray, List.set_cons_zero, List.set_cons_succ])
  refine Ord.e_nil ?_
  by_cases hq : ¬ qE = 0
  · have hq' : ¬ (qE : Int) = 0 := by omega
    clear hb3 hb34 h3 hrf hown
    have E2 : Hid (qE = valTE b) := Lib.hid (by unfold valTE; rw [if_neg (by rw [Hlb.out]; omega), if_neg (by rw [← HqE.out]; exact hq)]; exact HqE.out)
    go_wp2_with (first | (with_reducible refine stop_loadT 33 ?_) | (with_reducible refine stop_storeT 33 ?_))
    refine go_ (wpList_store_row rfl _ _ _ rfl w.heap.size #[.int .i64 0, .slice none 0 0] rfl rfl _ _ hres (by kernel_rfl) rfl (by kernel_rfl) ?_)
    have hres5 := setRow_heap _ _ _ (#[.int .i64 0, .slice none 0 0] : Array Value) _ _ hres
    have hb5 := below_setRow hb4 (Nat.le_refl _) (#[.int .i64 0, .slice none 0 0] : Array Value)
    generalize (w4.setRow w.heap.size #[.int .i64 0, .slice none 0 0]) = v5 at *
    have e0 := blk_cell (i := 0) (v := .int .i64 0) hres5 rfl
    have e1 := blk_cell (i := 1) (v := .slice none 0 0) hres5 rfl
    go_wp2
    (try simp only [Exit.noGoto_ret])
    exact bodyPost_ret (v := .tuple #[.agg #[.int .i64 0, .slice none 0 0], .int .i64 qE]) (by simp [results, go_sem, e0, e1]) rfl (valT_out (oE := qE) E2.out (by omega) hb5)
  replace hq := Decidable.not_not.mp hq
  obtain ⟨t, hv, _⟩ := vheadT (b := b.take 4) (by rw [← HqE.out]; exact hq)
  have hqv : qT = [0, t, 0] := HqT.out.trans hv
  have Hv := Lib.hid hv
  subst hqv
  obtain rfl : nt = 3 := by have := hown.1; simp at this; omega
  obtain ⟨g4, rfl, hg1, hg2, hcell⟩ := own_at hown (by omega)
  have k1 : w4.cell? ⟨g4, 1, none⟩ = some (.int .i64 t) := hcell 1 _ rfl
  have Hq := Lib.hid (HqE.out.symm.trans hq)
  subst hq
  rw [show ((0 : Nat) : Int) = 0 from rfl]
  have hbx : Below w4.heap.size w4 (w4.alloc (.cells #[.int .i64 t, .slice none 0 0] 33)) := (Below.refl _ _).alloc (Nat.le_refl _) _
  have hb5 := bnx hb4 hbx
  have h5 := h4'.up (hbx.mono (Nat.le_trans hB hb4.size))
  have hbox := heap_alloc_new w4 (.cells #[.int .i64 t, .slice none 0 0] 33)
  have hlt6 := blk_lt hres
  replace hres := blk_old hres hbx hlt6
  have hR := h5.bdrop (k := 4) (by omega)
  rw [Nat.add_sub_cancel] at hR
  have HM := Lib.hid (valTE_many (b := b) (by rw [Hlb.out]; omega) Hq.out)
  have HT : Hid (valTE b = 0 → valTt b = t ∧ valTl b = (valTL 32 (b.drop 4)).2) := Lib.hid (fun h => ⟨by unfold valTt; rw [if_pos h, Hv.out]; rfl, by unfold valTl; rw [if_pos h]⟩)
  clear hb3 hb34 h3 hrf hown hcell hv h4' hb4 hbx HqT
  go_wp2_with fail
  generalize (w4.alloc (.cells #[.int .i64 t, .slice none 0 0] 33)) = w5 at *
  obtain ⟨g6, hg6⟩ : ∃ g, g = w4.heap.size := ⟨_, rfl⟩
  rw [← hg6] at hbox hlt6 ⊢
  clear hg6 k1 hg1 hg2
  go_fit (rNew_any (cutA A c 4 1) r (c - 4) B (b.drop 4) w5 hR (Nat.le_trans hB hb5.size) (by omega))
  rintro e w6 ⟨g, rfl, hrd, hlg, hb56⟩
  have hb6 := bnx hb5 hb56
  have hg6g : g6 < g := Nat.lt_of_lt_of_le (blk_lt hbox) hlg
  have hlo := blk_lt hbox
  replace hbox := blk_old hbox hb56 (blk_lt hbox)
  replace hres := blk_old hres hb56 (blk_lt hres)
  generalize w5.heap.size = lo at *
  clear hb56 hR h5 hb5 hcut4 hcutl
  go_wp2
  go_step3
  go_wp2_with fail
  go_loopw [5] (fun e wr => ∃ (k m : Nat) (pre : List (Int × Int)) (R : List UInt8) (A2 : Option Addr) (c2 : Nat), e = .int .i64 0 ∧ k + m = 32 ∧ pre.length = k ∧ Rdr lo wr g R false ∧ wr.heap[g6]? = some (.cells #[.int .i64 t, .slice A2 k c2] 33) ∧ wr.heap[w.heap.size]? = some (.cells #[.int .i64 0, .slice none 0 0] 33) ∧ wr.ownsRow (g + 1) 103 2 (.slice A2 k c2) k (pre.map prC).flatten ∧ g + 1 ≤ wr.heap.size ∧ Below w.heap.size w wr ∧ Hid (valTL 32 (b.drop 4) = ((valTL m R).1, pre ++ (valTL m R).2))) (fun _ wr => 33 - slLen20 ((wr.cell? ⟨g6, 1, none⟩).getD (.slice none 0 0)))
  case atStart => exact ⟨0, 32, [], b.drop 4, none, 0, rfl, rfl, rfl, hrd, hbox, hres, World.ownsRow_nil _ _ _ _, hrd.1.elim fun _ h => h.elim fun _ h => h.elim fun _ h => h.1.lt, hb6, Lib.hid (by simp)⟩
  case round =>
    clear hrd hbox hres hb6 w6
    obtain ⟨k, m, pre, R, A2, c2, rfl, hkm, hpl, hrd, hbox, hres, hown, hgs, hb, Hst⟩ := hrel
    have Hpl := Lib.hid hpl
    have Hk1 := Lib.hid (blk_cell (i := 1) (v := .slice A2 k c2) hbox rfl)
    clear hpl
    go_wp2_with fail
    go_fit (rLeft_any lo g R false wr hrd)
    rintro e wr' ⟨rfl, rfl⟩
    by_cases hR0 : R.length = 0
    · have hst0 := Hst.out
      rw [valTL_nil _ _ hR0] at hst0
      have hE : 0 = valTE b := by rw [HM.out, hst0]
      obtain ⟨hT1, hT2⟩ := HT.out hE.symm
      have hL : valTl b = pre := by rw [hT2, hst0]; simp
      have HE := Lib.hid hE
      have HL := Lib.hid hL
      have HT1 := Lib.hid hT1
      clear hE hT1 hT2 hL hst0 hrd
      rw [hR0]
      go_wp2_with (first | (with_reducible refine stop_loadT 33 ?_) | (with_reducible refine stop_storeT 33 ?_))
      refine go_ (wpList_load_row rfl _ _ rfl g6 rfl _ _ _ _ hbox Tryz.underlying33 rfl (by kernel_rfl) ?_)
      go_wp2_with (first | (with_reducible refine stop_loadT 33 ?_) | (with_reducible refine stop_storeT 33 ?_))
      refine go_ (wpList_store_row rfl _ _ _ rfl w.heap.size #[.int .i64 t, .slice A2 k c2] rfl rfl _ _ hres (by kernel_rfl) rfl (by kernel_rfl) ?_)
      have hres6 := setRow_heap _ _ _ (#[.int .i64 t, .slice A2 k c2] : Array Value) _ _ hres
      have hb6 := below_setRow hb (Nat.le_refl _) (#[.int .i64 t, .slice A2 k c2] : Array Value)
      have hown6 := own_aw hown (aw_setRow20 w.heap.size (#[.int .i64 t, .slice A2 k c2] : Array Value)) (fun k hk hu => by have := (own_blk hown hk).1; omega)
      generalize (wr.setRow w.heap.size #[.int .i64 t, .slice A2 k c2]) = v5 at *
      have e0 := blk_cell (i := 0) (v := .int .i64 t) hres6 rfl
      have e1 := blk_cell (i := 1) (v := .slice A2 k c2) hres6 rfl
      have hrr := RdR.own (ls := pre.map prC) hown6 (by rw [List.length_map]; exact Hpl.out) (fun r hr => by obtain ⟨s, hs, rfl⟩ := List.mem_map.1 hr; rfl)
      go_wp2
      (try simp only [Exit.noGoto_ret])
      refine bodyPost_ret (v := .tuple #[.agg #[.int .i64 t, .slice A2 k c2], .int .i64 0]) (by simp [results, go_sem, e0, e1]) rfl ⟨A2, k, c2, by rw [HT1.out, ← HE.out]; rfl, by rw [HL.out]; exact hrr, fun p hp => (by subst hp; exact Nat.le_trans (by omega) (own_blk hown rfl).1), hb6⟩
    have hR0' : (0 : Int) < (R.length : Int) := by omega
    by_cases hm : m = 0
    · subst hm
      obtain rfl : k = 32 := by omega
      have k1 := Hk1.out
      have E2 : Hid (7 = valTE b) := Lib.hid (by rw [HM.out, Hst.out]; exact (valTL_full hR0).symm)
      go_wp2_with (first | (with_reducible refine stop_loadT 33 ?_) | (with_reducible refine stop_storeT 33 ?_))
      refine go_ (wpList_store_row rfl _ _ _ rfl w.heap.size #[.int .i64 0, .slice none 0 0] rfl rfl _ _ hres (by kernel_rfl) rfl (by kernel_rfl) ?_)
      have hres5 := setRow_heap _ _ _ (#[.int .i64 0, .slice none 0 0] : Array Value) _ _ hres
      have hb5 := below_setRow hb (Nat.le_refl _) (#[.int .i64 0, .slice none 0 0] : Array Value)
      generalize (wr.setRow w.heap.size #[.int .i64 0, .slice none 0 0]) = v5 at *
      have e0 := blk_cell (i := 0) (v := .int .i64 0) hres5 rfl
      have e1 := blk_cell (i := 1) (v := .slice none 0 0) hres5 rfl
      go_wp2
      (try simp only [Exit.noGoto_ret])
      exact bodyPost_ret (v := .tuple #[.agg #[.int .i64 0, .slice none 0 0], .int .i64 7]) (by simp [results, go_sem, e0, e1]) rfl (valT_out (oE := 7) E2.out (by omega) hb5)
    obtain ⟨m, rfl⟩ : ∃ j, m = j + 1 := ⟨m - 1, by omega⟩
    have hk32 : ¬ (k : Int) = 32 := by omega
    have k1 := Hk1.out
    go_wp2_with fail
    go_fit (rU_any lo g R false 4 wr hrd)
    by_cases hR4 : R.length < 4
    · obtain ⟨f1, f2, f3⟩ := rd4_no R hR4
      rw [f1, f2, f3]
      rintro e w7 ⟨rfl, hrd7, hgr⟩
      have hbox7 := (hgr.block _ (blk_lt hbox) (fun e => by injection e with e; omega)).trans hbox
      have hres7 := (hgr.block _ (blk_lt hres) (fun e => by injection e with e; omega)).trans hres
      have hown7 := own_aw hown (Aw.of_grown hgr) (fun j hj hu => by have := (own_blk hown hj).1; injection hu with hu; omega)
      have hb7 := Below.grown hb hgr hb.size (fun j hj => by injection hj with hj; omega)
      have hgs7 := Nat.le_trans hgs hgr.size
      clear hgr hbox hres hown hb hgs hrd
      rw [show ((num [] : Nat) : Int) = 0 from rfl]
      have hs := vsize_any 0 w7
      rw [show szN 0 = 0 from rfl, show decide ((0 : Nat) ≠ 0) = false from rfl] at hs
      go_wp2_with fail
      go_fit hs
      rintro e w8 ⟨rfl, hb78⟩
      have hbox8 := blk_old hbox7 hb78 (blk_lt hbox7)
      have hres8 := blk_old hres7 hb78 (blk_lt hres7)
      have hown8 := own_up hown7 hb78 (Nat.le_refl _)
      have hrd8 := hrd7.keep (grownBy_of hb78 none) (fun _ e => by cases e)
      have hgs8 := Nat.le_trans hgs7 hb78.size
      have hb8 := bnx hb7 hb78
      clear hb78 hbox7 hres7 hown7 hb7 hgs7 hrd7
      go_wp2_with fail
      go_fit (rFail_any lo g [] true w8 hrd8)
      rintro e w9 ⟨rfl, rfl⟩
      have E2 : Hid (2 = valTE b) := Lib.hid (by rw [HM.out, Hst.out]; exact (valTL_short hR0 hR4).symm)
      go_wp2_with (first | (with_reducible refine stop_loadT 33 ?_) | (with_reducible refine stop_storeT 33 ?_))
      refine go_ (wpList_store_row rfl _ _ _ rfl w.heap.size #[.int .i64 0, .slice none 0 0] rfl rfl _ _ hres8 (by kernel_rfl) rfl (by kernel_rfl) ?_)
      have hres5 := setRow_heap _ _ _ (#[.int .i64 0, .slice none 0 0] : Array Value) _ _ hres8
      have hb5 := below_setRow hb8 (Nat.le_refl _) (#[.int .i64 0, .slice none 0 0] : Array Value)
      generalize (w8.setRow w.heap.size #[.int .i64 0, .slice none 0 0]) = v5 at *
      have e0 := blk_cell (i := 0) (v := .int .i64 0) hres5 rfl
      have e1 := blk_cell (i := 1) (v := .slice none 0 0) hres5 rfl
      go_wp2
      (try simp only [Exit.noGoto_ret])
      exact bodyPost_ret (v := .tuple #[.agg #[.int .i64 0, .slice none 0 0], .int .i64 2]) (by simp [results, go_sem, e0, e1]) rfl (valT_out (oE := 2) E2.out (by omega) hb5)
    obtain ⟨f1, f2, f3⟩ := rd4 R hR4
    rw [f1, f2, f3]
    clear f1 f2 f3
    rintro e w7 ⟨rfl, hrd7, hgr⟩
    have hbox7 := (hgr.block _ (blk_lt hbox) (fun e => by injection e with e; omega)).trans hbox
    have hres7 := (hgr.block _ (blk_lt hres) (fun e => by injection e with e; omega)).trans hres
    have hown7 := own_aw hown (Aw.of_grown hgr) (fun j hj hu => by have := (own_blk hown hj).1; injection hu with hu; omega)
    have hb7 := Below.grown hb hgr hb.size (fun j hj => by injection hj with hj; omega)
    have hgs7 := Nat.le_trans hgs hgr.size
    clear hgr hbox hres hown hb hgs hrd
    have hkl := num_lt (R.take 4)
    have hl4 : (R.take 4).length = 4 := by rw [List.length_take]; omega
    rw [hl4] at hkl
    have hkl : num (R.take 4) < 4294967296 := hkl
    obtain ⟨kx, hkx⟩ : ∃ v, v = num (R.take 4) := ⟨_, rfl⟩
    rw [← hkx] at hkl ⊢
    have Hkx := Lib.hid hkx
    have hwk : IntKind.i64.wrap (kx : Int) = kx := by rw [IntKind.wrap_i64]; omega
    clear hkx hl4 k1
    have hs := vsize_any kx w7
    by_cases hz : szN kx = 0
    · rw [hz, show decide ((0 : Nat) ≠ 0) = false from rfl] at hs
      go_wp2_with fail
      go_fit hs
      rintro e w8 ⟨rfl, hb78⟩
      have hbox8 := blk_old hbox7 hb78 (blk_lt hbox7)
      have hres8 := blk_old hres7 hb78 (blk_lt hres7)
      have hown8 := own_up hown7 hb78 (Nat.le_refl _)
      have hrd8 := hrd7.keep (grownBy_of hb78 none) (fun _ e => by cases e)
      have hgs8 := Nat.le_trans hgs7 hb78.size
      have hb8 := bnx hb7 hb78
      clear hb78 hbox7 hres7 hown7 hb7 hgs7 hrd7
      go_wp2_with fail
      go_fit (rFail_any lo g (R.drop 4) false w8 hrd8)
      rintro e w9 ⟨rfl, rfl⟩
      have E2 : Hid (6 = valTE b) := Lib.hid (by rw [HM.out, Hst.out]; exact (valTL_kind hR4 (by rw [← Hkx.out]; exact hz)).symm)
      go_wp2_with (first | (with_reducible refine stop_loadT 33 ?_) | (with_reducible refine stop_storeT 33 ?_))
      refine go_ (wpList_store_row rfl _ _ _ rfl w.heap.size #[.int .i64 0, .slice none 0 0] rfl rfl _ _ hres8 (by kernel_rfl) rfl (by kernel_rfl) ?_)
      have hres5 := setRow_heap _ _ _ (#[.int .i64 0, .slice none 0 0] : Array Value) _ _ hres8
      have hb5 := below_setRow hb8 (Nat.le_refl _) (#[.int .i64 0, .slice none 0 0] : Array Value)
      generalize (w8.setRow w.heap.size #[.int .i64 0, .slice none 0 0]) = v5 at *
      have e0 := blk_cell (i := 0) (v := .int .i64 0) hres5 rfl
      have e1 := blk_cell (i := 1) (v := .slice none 0 0) hres5 rfl
      go_wp2
      (try simp only [Exit.noGoto_ret])
      exact bodyPost_ret (v := .tuple #[.agg #[.int .i64 0, .slice none 0 0], .int .i64 6]) (by simp [results, go_sem, e0, e1]) rfl (valT_out (oE := 6) E2.out (by omega) hb5)
    rw [show decide (szN kx ≠ 0) = true from decide_eq_true hz] at hs
    have hsl := sz_le (kx : Int)
    obtain ⟨sn, hsn⟩ : ∃ v, v = szN (kx : Int) := ⟨_, rfl⟩
    have Hsn := Lib.hid hsn
    rw [← hsn] at hs hz hsl
    clear hsn
    go_wp2_with fail
    go_fit hs
    rintro e w8 ⟨rfl, hb78⟩
    have hbox8 := blk_old hbox7 hb78 (blk_lt hbox7)
    have hres8 := blk_old hres7 hb78 (blk_lt hres7)
    have hown8 := own_up hown7 hb78 (Nat.le_refl _)
    have hrd8 := hrd7.keep (grownBy_of hb78 none) (fun _ e => by cases e)
    have hgs8 := Nat.le_trans hgs7 hb78.size
    have hb8 := bnx hb7 hb78
    clear hb78 hbox7 hres7 hown7 hb7 hgs7 hrd7
    clear hs
    go_wp2_with fail
    go_fit (rFail_any lo g (R.drop 4) false w8 hrd8)
    rintro e w9 ⟨rfl, rfl⟩
    go_wp2_with fail
    go_fit (rLeft_any lo g (R.drop 4) false w8 hrd8)
    rintro e w9 ⟨rfl, rfl⟩
    have hdl : (R.drop 4).length = R.length - 4 := List.length_drop
    by_cases hR5 : R.length < 4 + sn
    · have hlt5 : ((R.drop 4).length : Int) < (sn : Int) := by omega
      have E2 : Hid (2 = valTE b) := Lib.hid (by rw [HM.out, Hst.out]; exact (valTL_short2 hR4 (by rw [← Hkx.out, ← Hsn.out]; exact hz) (by rw [← Hkx.out, ← Hsn.out]; exact hR5)).symm)
      go_wp2_with (first | (with_reducible refine stop_loadT 33 ?_) | (with_reducible refine stop_storeT 33 ?_))
      refine go_ (wpList_store_row rfl _ _ _ rfl w.heap.size #[.int .i64 0, .slice none 0 0] rfl rfl _ _ hres8 (by kernel_rfl) rfl (by kernel_rfl) ?_)
      have hres5 := setRow_heap _ _ _ (#[.int .i64 0, .slice none 0 0] : Array Value) _ _ hres8
      have hb5 := below_setRow hb8 (Nat.le_refl _) (#[.int .i64 0, .slice none 0 0] : Array Value)
      generalize (w8.setRow w.heap.size #[.int .i64 0, .slice none 0 0]) = v5 at *
      have e0 := blk_cell (i := 0) (v := .int .i64 0) hres5 rfl
      have e1 := blk_cell (i := 1) (v := .slice none 0 0) hres5 rfl
      go_wp2
      (try simp only [Exit.noGoto_ret])
      exact bodyPost_ret (v := .tuple #[.agg #[.int .i64 0, .slice none 0 0], .int .i64 2]) (by simp [results, go_sem, e0, e1]) rfl (valT_out (oE := 2) E2.out (by omega) hb5)
    have hlt5 : ¬ ((R.drop 4).length : Int) < (sn : Int) := by omega
    go_wp2_with fail
    go_fit (rU_any lo g (R.drop 4) false sn w8 hrd8)
    obtain ⟨f1, f2, f3⟩ := rdS (R.drop 4) sn hz hsl (by omega)
    rw [f1, f2, f3]
    clear f1 f2 f3 hlt5
    rintro e w9 ⟨rfl, hrd9, hgr⟩
    have hbox9 := (hgr.block _ (blk_lt hbox8) (fun e => by injection e with e; omega)).trans hbox8
    have hres9 := (hgr.block _ (blk_lt hres8) (fun e => by injection e with e; omega)).trans hres8
    have hown9 := own_aw hown8 (Aw.of_grown hgr) (fun j hj hu => by have := (own_blk hown8 hj).1; injection hu with hu; omega)
    have hb9 := Below.grown hb8 hgr hb8.size (fun j hj => by injection hj with hj; omega)
    have hgs9 := Nat.le_trans hgs8 hgr.size
    clear hgr hbox8 hres8 hown8 hb8 hgs8 hrd8
    have hvl := num_lt ((R.drop 4).take sn)
    have hl5 : ((R.drop 4).take sn).length = sn := by rw [List.length_take]; omega
    rw [hl5] at hvl
    have hv64 : num ((R.drop 4).take sn) < 18446744073709551616 := Nat.lt_of_lt_of_le hvl (pow_le8 hsl)
    obtain ⟨vx, hvx⟩ : ∃ v, v = num ((R.drop 4).take sn) := ⟨_, rfl⟩
    rw [← hvx] at hv64 ⊢
    have Hvx := Lib.hid hvx
    have hml := ms_le (kx : Int)
    obtain ⟨mx, hmx2⟩ : ∃ v, v = msN (kx : Int) := ⟨_, rfl⟩
    have Hmx := Lib.hid hmx2
    have hmo := vmost_any (kx : Int) w9
    rw [← hmx2] at hmo hml
    have hwm : IntKind.u64.wrap (mx : Int) = mx := IntWalk.u64_in _ (by omega)
    clear hvl hl5 hvx hmx2 hdl
    go_wp2_with fail
    go_fit hmo
    rintro e wa ⟨rfl, hb9a⟩
    have hboxa := blk_old hbox9 hb9a (blk_lt hbox9)
    have hresa := blk_old hres9 hb9a (blk_lt hres9)
    have howna := own_up hown9 hb9a (Nat.le_refl _)
    have hrda := hrd9.keep (grownBy_of hb9a none) (fun _ e => by cases e)
    have hgsa := Nat.le_trans hgs9 hb9a.size
    have hba := bnx hb9 hb9a
    clear hb9a hbox9 hres9 hown9 hb9 hgs9 hrd9
    by_cases hbig : mx < vx
    · have hbig' : (mx : Int) < (vx : Int) := by omega
      have E2 : Hid (5 = valTE b) := Lib.hid (by rw [HM.out, Hst.out]; exact (valTL_range hR4 (by rw [← Hkx.out, ← Hsn.out]; exact hz) (by rw [← Hkx.out, ← Hsn.out]; omega) (by rw [← Hkx.out, ← Hsn.out, ← Hmx.out, ← Hvx.out]; exact hbig)).symm)
      go_wp2_with (first | (with_reducible refine stop_loadT 33 ?_) | (with_reducible refine stop_storeT 33 ?_))
      refine go_ (wpList_store_row rfl _ _ _ rfl w.heap.size #[.int .i64 0, .slice none 0 0] rfl rfl _ _ hresa (by kernel_rfl) rfl (by kernel_rfl) ?_)
      have hres5 := setRow_heap _ _ _ (#[.int .i64 0, .slice none 0 0] : Array Value) _ _ hresa
      have hb5 := below_setRow hba (Nat.le_refl _) (#[.int .i64 0, .slice none 0 0] : Array Value)
      generalize (wa.setRow w.heap.size #[.int .i64 0, .slice none 0 0]) = v5 at *
      have e0 := blk_cell (i := 0) (v := .int .i64 0) hres5 rfl
      have e1 := blk_cell (i := 1) (v := .slice none 0 0) hres5 rfl
      go_wp2
      (try simp only [Exit.noGoto_ret])
      exact bodyPost_ret (v := .tuple #[.agg #[.int .i64 0, .slice none 0 0], .int .i64 5]) (by simp [results, go_sem, e0, e1]) rfl (valT_out (oE := 5) E2.out (by omega) hb5)
    have hbig' : ¬ (mx : Int) < (vx : Int) := by omega
    have hwv : IntKind.i64.wrap (vx : Int) = vx := by rw [IntKind.wrap_i64]; omega
    have Hstep : Hid (valTL 32 (b.drop 4) = ((valTL m ((R.drop 4).drop sn)).1, (pre ++ [((kx : Int), (vx : Int))]) ++ (valTL m ((R.drop 4).drop sn)).2)) := Lib.hid (by
      rw [Hst.out, valTL_step (k := (kx : Int)) (v := (vx : Int)) (R := (R.drop 4).drop sn) (by rw [Hkx.out]) (by rw [← Hsn.out]; omega) (by rw [← Hsn.out, Hvx.out]) (by rw [← Hsn.out]) (by rw [← Hsn.out]; exact hz) (by rw [← Hmx.out]; omega)]
      simp)
    have Hpl2 : Hid ((pre ++ [((kx : Int), (vx : Int))]).length = k + 1) := Lib.hid (by rw [List.length_append, Hpl.out]; rfl)
    have k1 : wa.cell? ⟨g6, 1, none⟩ = some (.slice A2 k c2) := blk_cell hboxa rfl
    have hbn : Below wa.heap.size wa (wa.alloc (.cells #[.int .i64 kx, .int .i64 vx] 103)) := (Below.refl _ _).alloc (Nat.le_refl _) _
    have hnew : Rd (wa.alloc (.cells #[.int .i64 kx, .int .i64 vx] 103)) (wa.heap.size + 1) 2 (some ⟨wa.heap.size, 0, none⟩) 1 1 (prC ((kx : Int), (vx : Int))) := by
      have := (RdR.lit (size := 2) (e := 103) wa [prC ((kx : Int), (vx : Int))] #[.int .i64 kx, .int .i64 vx] rfl (by simp [prC]) (by simp [maxLen]) 1 rfl).rd (by omega)
      simpa using this
    have hlw := blk_lt hboxa
    replace hrda := hrda.keep (grownBy_of hbn none) (fun _ e => by cases e)
    have hresn := blk_old hresa hbn (blk_lt hresa)
    have hboxn := blk_old hboxa hbn (blk_lt hboxa)
    have hownn := own_up howna hbn (Nat.le_refl _)
    have hbb := bnx hba hbn
    have hgsn := Nat.le_trans hgsa hbn.size
    go_wp2_with (at_builtin; refine stop_ ?_)
    clear k1 hbn hresa hboxa howna hba
    generalize (wa.alloc (.cells #[.int .i64 kx, .int .i64 vx] 103)) = wb at *
    refine go_ (wpList_appG (base := g + 1) (n := k) Tryz.underlying31 Hi1.out rfl (by omega) hownn rfl hnew rfl (prC_one _) (k := k + 1) rfl (prC_app _ _) (by unfold maxLen; omega) (by omega) hgsn ?_)
    intro A7 c7 v7 hown7 hgr hob
    have hne6 : ∀ j, (Value.slice A2 k c2).ownBlock = some j → g < j := fun j hj => by have := (own_blk hownn hj).1; omega
    have hbox7 := (hgr.block _ (blk_lt hboxn) (fun e => by have := hne6 _ e.symm; omega)).trans hboxn
    have hres7 := (hgr.block _ (blk_lt hresn) (fun e => by have := hne6 _ e.symm; omega)).trans hresn
    have hb7 := Below.grown hbb hgr hbb.size (fun j hj => by have := hne6 j hj; omega)
    have hrd7 := hrda.keep hgr hne6
    have hgs7 : g + 1 ≤ v7.heap.size := Nat.le_trans hgsn hgr.size
    clear hgr hob hownn hboxn hresn hbb hnew hne6 hrda
    have s1 : v7.cell? ⟨g6, 1, none⟩ = some (.slice A2 k c2) := blk_cell hbox7 rfl
    have s2 : v7.frozen? ⟨g6, 1, none⟩ = false := blk_free (i := 1) hbox7
    have hbox8 := blk_set (i := 1) hbox7 (.slice A7 (k + 1) c7)
    have haw8 : Aw (fun j => j = g6) v7 (v7.setCell ⟨g6, 1, none⟩ (.slice A7 (k + 1) c7)) := (Aw.refl _ _).set (p := ⟨g6, 1, none⟩) _ rfl
    have hres8 := haw8.keep hres7 (by omega)
    have hown8 := own_aw hown7 haw8 (fun j hj hu => by have := (own_blk hown7 hj).1; omega)
    have hb8 := below_aw20 hb7 haw8 (fun j hj => by omega) hb7.size
    have hrd8 : Rdr lo (v7.setCell ⟨g6, 1, none⟩ (.slice A7 (k + 1) c7)) g ((R.drop 4).drop sn) false := hrd7.keepU haw8 (fun j hj => by omega) hlg
    have hgs8 := Nat.le_trans hgs7 haw8.size
    have Hn8 := Lib.hid (blk_cell (i := 1) (v := .slice A7 (k + 1) c7) hbox8 rfl)
    clear hres7 hbox7 hown7 hb7 haw8 hrd7
    go_wp2
    go_roundw
    case rel => exact ⟨k + 1, m, pre ++ [((kx : Int), (vx : Int))], (R.drop 4).drop sn, A7, c7, rfl, by omega, Hpl2.out, hrd8, hbox8, hres8, hown8, hgs8, hb8, Hstep⟩
    case measure =>
      rw [Hn8.out, Hk1.out]
      show 33 - (k + 1) < 33 - k
      omega

end Go.Proofs.YtmkidihcdljkiaaGreat
