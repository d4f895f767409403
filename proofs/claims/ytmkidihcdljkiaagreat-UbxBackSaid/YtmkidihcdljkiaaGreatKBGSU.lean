/-
  Several texts in one: Sats5 Sats8.
-/
import Derived.Test.YtmkidihcdljkiaaGreatKBSats3
import Derived.Test.YtmkidihcdljkiaaGreatKBGA
import Derived.Laws.StructEq
import Derived.Laws.Bits128
/-
  Used of layer 17 walked, the program's and the document's (printed by gen_sats5.py).
-/
set_option linter.unusedSimpArgs false
set_option linter.unusedVariables false
namespace Go.Proofs.YtmkidihcdljkiaaGreat
open Go.RowKit NumLaw
attribute [local go_sem] Addr.add_mid
attribute [-go_sem] run_eql_struct

theorem sat_held : Tryz.prog.stoodInHeld 99 = false := by kernel_rfl
theorem aw_setRow {w : World} (g : Nat) (cs : Array Value) : Aw (fun k => k = g) w (w.setRow g cs) :=
  ⟨setRow_os w g cs, setRow_tape w g cs, setRow_output w g cs, by rw [setRow_size]; exact Nat.le_refl _, fun k _ hu => setRow_other w g k cs hu⟩
end Go.Proofs.YtmkidihcdljkiaaGreat

/-
  sats.Take walked (printed by gen_sats8.py).
-/
set_option linter.unusedSimpArgs false
set_option linter.unusedVariables false
namespace Go.Proofs.YtmkidihcdljkiaaGreat
open Go.RowKit NumLaw
attribute [local go_sem] Addr.add_mid

/-- The same, and the row lies in new memory. -/
def RetTSatF (b : List UInt8) (w : World) (e : Ending) (w' : World) : Prop :=
  ∃ (A : Option Addr) (n c : Nat), e = .returned (.tuple #[.agg #[.int .i64 (satsTt b), .slice A n c], .int .i64 (satsTE b : Int)]) ∧ RdR w' w'.heap.size 7 A n c ((satsTl b).map saC) ∧ (∀ p, A = some p → w.heap.size ≤ p.block) ∧ Below w.heap.size w w'
theorem sat_info : (Tryz.prog.info? 99).map (fun i => (i.zero, i.size, i.bytes)) = some (some (.agg #[.int .i64 0, .int .i64 0, .int .i64 0, .int .i64 0, .int .i64 0, .int .i64 0, .int .i64 0]), 7, 56) := by kernel_rfl
theorem saC_one (s : List Int) : ∀ u ∈ saC s, u.oneCell' = true := by
  intro u hu
  obtain ⟨z, _, rfl⟩ := List.mem_map.1 hu
  rfl
theorem saC_app (l : List (List Int)) (s : List Int) : (l.map saC).flatten ++ saC s = ((l ++ [s]).map saC).flatten := by simp
def slLen : Value → Nat
  | .slice _ n _ => n
  | _ => 0
theorem satsT_out {b : List UInt8} {w w5 : World} {oE : Nat} (he : oE = satsTE b) (h0 : oE ≠ 0) (hb : Below w.heap.size w w5) : RetTSatF b w (.returned (.tuple #[.agg #[.int .i64 0, .slice none 0 0], .int .i64 (oE : Int)])) w5 := by
  obtain ⟨h1, h2⟩ := satsT_none (b := b) (by rw [← he]; exact h0)
  exact ⟨none, 0, 0, by rw [h1, he], by rw [h2]; exact RdR.none_ _ _ _, fun _ h => (by cases h), hb⟩
theorem satsTE_many {b : List UInt8} {N : Nat} (hl : b.length = 12 * N + 8) (hh : shTE headF (b.take 8) = 0) (hN : satsN b = N) : satsTE b = (satsTL N (b.drop 8)).1 := by
  unfold satsTE
  rw [if_neg (by omega), if_pos hh, hN, if_neg (by omega), if_neg (by omega)]
theorem satsTL_ok {m : Nat} {R : List UInt8} (h : shTE satF (R.take 12) = 0) : satsTL (m + 1) R = ((satsTL m (R.drop 12)).1, shT satF (R.take 12) :: (satsTL m (R.drop 12)).2) := by
  show (if shTE satF _ = 0 then _ else _) = _
  rw [if_pos h]
theorem satsTL_bad {m : Nat} {R : List UInt8} (h : shTE satF (R.take 12) ≠ 0) : satsTL (m + 1) R = (shTE satF (R.take 12), []) := by
  show (if shTE satF _ = 0 then _ else _) = _
  rw [if_neg h]
theorem stop_build0 (t : TypeId) {P : Program} {w : World} {ops : Array Oper} {rest : List Oper} {a : Act} {Q : Exit → Act → World → Prop} {d : Option Tmp} {ty : TypeId} {pos : String} {af : Array Edge}
    (h : Stop (wpList P ops Q (⟨d, .build t #[], ty, pos, af, none⟩ :: rest) a w)) : wpList P ops Q (⟨d, .build t #[], ty, pos, af, none⟩ :: rest) a w := h
/-- What Take's rounds keep. -/
def TkI (B g0 g6 : Nat) (w : World) (t : Int) (N : Nat) (r0 : List UInt8) (k m : Nat) (pre : List (List Int)) (R : List UInt8) (Ar A2 : Option Addr) (cr c2 : Nat) (wr : World) : Prop :=
  k + m = N ∧ pre.length = k ∧ Rd wr B 1 Ar (12 * m) cr (bv R) ∧ wr.heap[g6]? = some (.cells #[.int .i64 t, .slice A2 k c2] 26) ∧
    wr.heap[g0]? = some (.cells #[.int .i64 0, .slice none 0 0] 26) ∧ wr.ownsRow (g6 + 1) 99 7 (.slice A2 k c2) k (pre.map saC).flatten ∧ Below w.heap.size w wr ∧ satsTL N r0 = ((satsTL m R).1, pre ++ (satsTL m R).2) ∧ ∀ s ∈ pre, s.length = 7
set_option maxRecDepth 10000 in
set_option maxHeartbeats 8000000 in
theorem satsTake_anyF (A : Option Addr) (n c B : Nat) (b : List UInt8) (w : World) (h : Rd w B 1 A n c (bv b)) (hB : B ≤ w.heap.size) (hn : n ≤ 1000000000) :
    Calls Tryz.prog 144 #[.slice A n c] w (RetTSatF b w) := by
  have hlb := h.blen
  have hle := h.le
  have hmx := h.max
  unfold maxLen at hmx
  obtain ⟨i0, hi⟩ := info_parts u8_info
  obtain ⟨i1, hi1⟩ := info_parts sat_info
  have hb1 : Below w.heap.size w (w.alloc (.cells #[.int .i64 0, .slice none 0 0] 26)) := (Below.refl _ _).alloc (Nat.le_refl _) _
  have hres := heap_alloc_new w (.cells #[.int .i64 0, .slice none 0 0] 26)
  have Hlb := Lib.hid hlb
  have Hi1 := Lib.hid hi1
  have Hi := Lib.hid hi
  by_cases h8 : n < 8
  · have e2 : 2 = satsTE b := by unfold satsTE; rw [if_pos (by omega)]
    have E2 := Lib.hid e2
    clear e2 hlb hi hi1
    go_enter Tryz.func144, Tryz.ntmps144
    go_wp2_with (first | (with_reducible refine stop_loadT 26 ?_) | (with_reducible refine stop_storeT 26 ?_))
    generalize (w.alloc (.cells #[.int .i64 0, .slice none 0 0] 26)) = w1 at *
    refine go_ (wpList_store_row rfl _ _ _ rfl w.heap.size #[.int .i64 0, .slice none 0 0] rfl rfl _ _ hres (by kernel_rfl) rfl (by kernel_rfl) ?_)
    have hres5 := setRow_heap _ _ _ (#[.int .i64 0, .slice none 0 0] : Array Value) _ _ hres
    have hb5 := below_setRow hb1 (Nat.le_refl _) (#[.int .i64 0, .slice none 0 0] : Array Value)
    generalize (w1.setRow w.heap.size #[.int .i64 0, .slice none 0 0]) = v5 at *
    have e0 := blk_cell (i := 0) (v := .int .i64 0) hres5 rfl
    have e1 := blk_cell (i := 1) (v := .slice none 0 0) hres5 rfl
    go_wp2
    exact bodyPost_ret (v := .tuple #[.agg #[.int .i64 0, .slice none 0 0], .int .i64 2]) (by simp [results, go_sem, e0, e1]) rfl (satsT_out (oE := 2) E2.out (by omega) hb5)
  obtain ⟨r, rfl⟩ : ∃ r, n = r + 8 := ⟨n - 8, by omega⟩
  have hcut8 : ∀ w, (Instr.slice 38 (.slice A (r + 8) c) none (some (.int .i64 8)) none).run Tryz.prog w = .ok (.slice A 8 c) w := run_cut_h (P := Tryz.prog) Tryz.underlying38 hi.1 A (r + 8) c 8 (by omega)
  have hcutl : ∀ w, (Instr.slice 38 (.slice A (r + 8) c) (some (.int .i64 8)) none none).run Tryz.prog w = .ok (.slice (cutA A c 8 1) r (c - 8)) w := fun w => by
    have := run_cut_l (P := Tryz.prog) Tryz.underlying38 hi.1 hi.2.2.1 A (r + 8) c 8 (by omega) w
    rwa [Nat.add_sub_cancel] at this
  obtain ⟨qT, hqT⟩ : ∃ v, v = shT headF (b.take 8) := ⟨_, rfl⟩
  obtain ⟨qE, hqE⟩ : ∃ v, v = shTE headF (b.take 8) := ⟨_, rfl⟩
  have HqT := Lib.hid hqT
  have HqE := Lib.hid hqE
  clear hlb hqT hqE hi hi1
  go_enter Tryz.func144, Tryz.ntmps144
  go_wp2_with fail
  generalize (w.alloc (.cells #[.int .i64 0, .slice none 0 0] 26)) = w1 at *
  have hlt := blk_lt hres
  refine Ord.region_ (fun _ => True) false [] (by kernel_rfl) (by kernel_rfl) trivial ?_
  have hb2 : Below w.heap.size w w1.drew := hb1.drew
  replace hres : w1.drew.heap[w.heap.size]? = _ := hres
  have h2 : Rd w1.drew B 1 A (r + 8) c (bv b) := h.up (hb2.mono hB)
  generalize w1.drew = w2 at *
  clear hb1 hlt
  refine Ord.e_x rfl (by kernel_rfl) ?_
  go_wp2_with fail
  go_fit (satsHead_any w2)
  rintro e w3 ⟨Af, nf, cf, rfl, hnf, hrf, hb23⟩
  have hb3 := bnx hb2 hb23
  have h3 := h2.up (hb23.mono (Nat.le_trans hB hb2.size))
  replace hres := blk_old hres hb23 (blk_lt hres)
  go_wp2_with fail
  refine Ord.Seg.go trivial (fun h => by cases h) ?_
  (try simp only [Act.put, List.setIfInBounds_toArray, List.set_cons_zero, List.set_cons_succ])
  ((with_reducible refine Ord.e_p (v := ?_) ?_ ?_ ?_ ?_); rotate_left; (· exact rfl); (· kernel_rfl); (· intro w2; go_simp; try with_reducible rfl))
  (try simp only [Act.put, List.setIfInBounds_toArray, List.set_cons_zero, List.set_cons_succ])
  ((with_reducible refine Ord.e_p (v := ?_) ?_ ?_ ?_ ?_); rotate_left; (· exact rfl); (· kernel_rfl); (· intro w2; go_simp; try with_reducible rfl))
  (try simp only [Act.put, List.setIfInBounds_toArray, List.set_cons_zero, List.set_cons_succ])
  clear hb2 hb23 h2
  refine Ord.e_x rfl (by kernel_rfl) ?_
  go_wp2_with fail
  go_fit (shTake_any Af nf cf w3.heap.size headF A 8 c B (b.take 8) w3 hrf (Nat.le_refl _) (h3.btake (by omega)) (Nat.le_trans hB hb3.size) (by omega) (by omega))
  rw [← HqE.out, ← HqT.out]
  rintro e w4 ⟨At, nt, ct, rfl, hown, hb34⟩
  have hb4 := bnx hb3 hb34
  have h4 := h3.up (hb34.mono (Nat.le_trans hB hb3.size))
  replace hres := blk_old hres hb34 (blk_lt hres)
  go_wp2_with fail
  refine Ord.Seg.go trivial (fun h => by cases h) ?_
  (try simp only [Act.put, List.setIfInBounds_toArray, List.set_cons_zero, List.set_cons_succ])
  ((with_reducible refine Ord.e_p (v := ?_) ?_ ?_ ?_ ?_); rotate_left; (· exact rfl); (· kernel_rfl); (· intro w2; go_simp; try with_reducible rfl))
  (try simp only [Act.put, List.setIfInBounds_toArray, List.set_cons_zero, List.set_cons_succ])
  ((with_reducible refine Ord.e_p (v := ?_) ?_ ?_ ?_ ?_); rotate_left; (· exact rfl); (· kernel_rfl); (· intro w2; go_simp; try with_reducible rfl))
  (try simp only [Act.put, List.setIfInBounds_toArray, List.set_cons_zero, List.set_cons_succ])
  ((with_reducible refine Ord.e_p (v := ?_) ?_ ?_ ?_ ?_); rotate_left; (· exact rfl); (· kernel_rfl); (· intro w2; go_simp; try with_reducible rfl))
  (try simp only [Act.put, List.setIfInBounds_toArray, List.set_cons_zero, List.set_cons_succ])
  ((with_reducible refine Ord.e_p (v := ?_) ?_ ?_ ?_ ?_); rotate_left; (· exact rfl); (· kernel_rfl); (· intro w2; go_simp; try with_reducible rfl))
  (try simp only [Act.put, List.setIfInBounds_toArray, List.set_cons_zero, List.set_cons_succ])
  ((with_reducible refine Ord.e_p (v := ?_) ?_ ?_ ?_ ?_); rotate_left; (· exact rfl); (· kernel_rfl); (· intro w2; go_simp; try with_reducible rfl))
  (try simp only [Act.put, List.setIfInBounds_toArray, List.set_cons_zero, List.set_cons_succ])
  refine Ord.e_nil ?_
  by_cases hq : ¬ qE = 0
  · have hq' : ¬ (qE : Int) = 0 := by omega
    have E2 : Hid (qE = satsTE b) := Lib.hid (by unfold satsTE; rw [if_neg (by rw [Hlb.out]; omega), if_neg (by rw [← HqE.out]; exact hq)]; exact HqE.out)
    clear hb3 hb34 h3 hrf hown
    go_wp2_with (first | (with_reducible refine stop_loadT 26 ?_) | (with_reducible refine stop_storeT 26 ?_))
    refine go_ (wpList_store_row rfl _ _ _ rfl w.heap.size #[.int .i64 0, .slice none 0 0] rfl rfl _ _ hres (by kernel_rfl) rfl (by kernel_rfl) ?_)
    have hres5 := setRow_heap _ _ _ (#[.int .i64 0, .slice none 0 0] : Array Value) _ _ hres
    have hb5 := below_setRow hb4 (Nat.le_refl _) (#[.int .i64 0, .slice none 0 0] : Array Value)
    generalize (w4.setRow w.heap.size #[.int .i64 0, .slice none 0 0]) = v5 at *
    have e0 := blk_cell (i := 0) (v := .int .i64 0) hres5 rfl
    have e1 := blk_cell (i := 1) (v := .slice none 0 0) hres5 rfl
    go_wp2
    exact bodyPost_ret (v := .tuple #[.agg #[.int .i64 0, .slice none 0 0], .int .i64 qE]) (by simp [results, go_sem, e0, e1]) rfl (satsT_out (oE := qE) E2.out hq hb5)
  replace hq := Decidable.not_not.mp hq
  obtain ⟨t, nn, hv, hn0, hn64, _⟩ := headT (b := b.take 8) (by rw [← HqE.out]; exact hq)
  obtain ⟨N, rfl⟩ : ∃ N : Nat, nn = N := ⟨nn.toNat, by omega⟩
  have hqv : qT = [t, 1, (N : Int), 0] := HqT.out.trans hv
  have hN : satsN b = N := by unfold satsN; rw [hv]; rfl
  have HN := Lib.hid hN
  have Hv := Lib.hid hv
  subst hqv
  obtain rfl : nt = 4 := by have := hown.1; simp at this; omega
  obtain ⟨g4, rfl, hg1, hg2, hcell⟩ := own_at hown (by omega)
  have k0 : w4.cell? ⟨g4, 0, none⟩ = some (.int .i64 t) := hcell 0 _ rfl
  have k2 : w4.cell? ⟨g4, 2, none⟩ = some (.int .i64 (N : Int)) := hcell 2 _ rfl
  have Hq := Lib.hid (HqE.out.symm.trans hq)
  subst hq
  rw [show ((0 : Nat) : Int) = 0 from rfl]
  have hbx : Below w4.heap.size w4 (w4.alloc (.cells #[.int .i64 t, .slice none 0 0] 26)) := (Below.refl _ _).alloc (Nat.le_refl _) _
  have hb5 := bnx hb4 hbx
  have h5 := h4.up (hbx.mono (Nat.le_trans hB hb4.size))
  have hbox := heap_alloc_new w4 (.cells #[.int .i64 t, .slice none 0 0] 26)
  have k2' := (hbx.cell (p := ⟨g4, 2, none⟩) hg2).trans k2
  have hlt6 := blk_lt hres
  replace hres := blk_old hres hbx hlt6
  have hR := h5.bdrop (k := 8) (by omega)
  rw [Nat.add_sub_cancel] at hR
  clear hb3 hb34 h3 hrf hown hcell hv hN h4 hb4 hbx HqT
  by_cases c1 : r < 12 * N
  · have E2 : Hid (2 = satsTE b) := Lib.hid (by unfold satsTE; rw [if_neg (by rw [Hlb.out]; omega), if_pos Hq.out, HN.out, if_pos (by rw [Hlb.out]; omega)])
    go_wp2_with (with_reducible refine stop_build0 26 ?_)
    refine go_ ?_
    generalize (w4.alloc (.cells #[.int .i64 t, .slice none 0 0] 26)) = w5 at *
    go_wp2_with (first | (with_reducible refine stop_loadT 26 ?_) | (with_reducible refine stop_storeT 26 ?_))
    refine go_ (wpList_store_row rfl _ _ _ rfl w.heap.size #[.int .i64 0, .slice none 0 0] rfl rfl _ _ hres (by kernel_rfl) rfl (by kernel_rfl) ?_)
    have hres5 := setRow_heap _ _ _ (#[.int .i64 0, .slice none 0 0] : Array Value) _ _ hres
    have hb6 := below_setRow hb5 (Nat.le_refl _) (#[.int .i64 0, .slice none 0 0] : Array Value)
    generalize (w5.setRow w.heap.size #[.int .i64 0, .slice none 0 0]) = v5 at *
    have e0 := blk_cell (i := 0) (v := .int .i64 0) hres5 rfl
    have e1 := blk_cell (i := 1) (v := .slice none 0 0) hres5 rfl
    go_wp2
    exact bodyPost_ret (v := .tuple #[.agg #[.int .i64 0, .slice none 0 0], .int .i64 2]) (by simp [results, go_sem, e0, e1]) rfl (satsT_out (oE := 2) E2.out (by omega) hb6)
  by_cases c2 : 12 * N < r
  · have E2 : Hid (7 = satsTE b) := Lib.hid (by unfold satsTE; rw [if_neg (by rw [Hlb.out]; omega), if_pos Hq.out, HN.out, if_neg (by rw [Hlb.out]; omega), if_pos (by rw [Hlb.out]; omega)])
    go_wp2_with (with_reducible refine stop_build0 26 ?_)
    refine go_ ?_
    generalize (w4.alloc (.cells #[.int .i64 t, .slice none 0 0] 26)) = w5 at *
    go_wp2_with (first | (with_reducible refine stop_loadT 26 ?_) | (with_reducible refine stop_storeT 26 ?_))
    refine go_ (wpList_store_row rfl _ _ _ rfl w.heap.size #[.int .i64 0, .slice none 0 0] rfl rfl _ _ hres (by kernel_rfl) rfl (by kernel_rfl) ?_)
    have hres5 := setRow_heap _ _ _ (#[.int .i64 0, .slice none 0 0] : Array Value) _ _ hres
    have hb6 := below_setRow hb5 (Nat.le_refl _) (#[.int .i64 0, .slice none 0 0] : Array Value)
    generalize (w5.setRow w.heap.size #[.int .i64 0, .slice none 0 0]) = v5 at *
    have e0 := blk_cell (i := 0) (v := .int .i64 0) hres5 rfl
    have e1 := blk_cell (i := 1) (v := .slice none 0 0) hres5 rfl
    go_wp2
    exact bodyPost_ret (v := .tuple #[.agg #[.int .i64 0, .slice none 0 0], .int .i64 7]) (by simp [results, go_sem, e0, e1]) rfl (satsT_out (oE := 7) E2.out (by omega) hb6)
  obtain rfl : r = 12 * N := by omega
  rw [show ((12 * N : Nat) : Int) = 12 * (N : Int) by omega]
  have HM := Lib.hid (satsTE_many Hlb.out Hq.out HN.out)
  have HT : Hid (satsTE b = 0 → satsTt b = t ∧ satsTl b = (satsTL N (b.drop 8)).2) := Lib.hid (fun h => ⟨by unfold satsTt; rw [if_pos h, Hv.out]; rfl, by unfold satsTl; rw [if_pos h, HN.out]⟩)
  clear c1 c2
  go_wp2_with fail
  generalize (w4.alloc (.cells #[.int .i64 t, .slice none 0 0] 26)) = w5 at *
  obtain ⟨g6, hg6⟩ : ∃ g, g = w4.heap.size := ⟨_, rfl⟩
  rw [← hg6] at hbox hlt6 ⊢
  clear hg6 k0 k2 k2' hg1 hg2
  go_loopw [7] (fun s wr => ∃ (k m : Nat) (pre : List (List Int)) (R : List UInt8) (Ar A2 : Option Addr) (cr c2 : Nat), s = .slice Ar (12 * m) cr ∧ TkI B w.heap.size g6 w t N (b.drop 8) k m pre R Ar A2 cr c2 wr) (fun s _ => slLen s)
  case atStart => exact ⟨0, N, [], b.drop 8, cutA A c 8 1, none, c - 8, 0, rfl, by omega, rfl, hR, hbox, hres, World.ownsRow_nil _ _ _ _, hb5, by simp, by simp⟩
  case round =>
    clear hR hbox hres hb5 h5 hcut8 hcutl w5
    obtain ⟨k, m, pre, R, Ar, A2, cr, c2, rfl, hkm, hpl, hR, hbox, hres, hown, hb, hst, hpre⟩ := hrel
    have Hpl := Lib.hid hpl
    have Hst := Lib.hid hst
    have Hpre := Lib.hid hpre
    clear hpl hst hpre
    by_cases hm : m = 0
    · subst hm
      have hE : 0 = satsTE b := by rw [HM.out, Hst.out]; rfl
      obtain ⟨hT1, hT2⟩ := HT.out hE.symm
      have hL : satsTl b = pre := by rw [hT2, Hst.out]; simp [satsTL]
      have HE := Lib.hid hE
      have HL := Lib.hid hL
      have HT1 := Lib.hid hT1
      clear hE hT1 hT2 hL
      rw [Nat.mul_zero] at hR
      rw [Nat.mul_zero]
      go_wp2_with (first | (with_reducible refine stop_loadT 26 ?_) | (with_reducible refine stop_storeT 26 ?_))
      refine go_ (wpList_load_row rfl _ _ rfl g6 rfl _ _ _ _ hbox Tryz.underlying26 rfl (by kernel_rfl) ?_)
      go_wp2_with (first | (with_reducible refine stop_loadT 26 ?_) | (with_reducible refine stop_storeT 26 ?_))
      refine go_ (wpList_store_row rfl _ _ _ rfl w.heap.size #[.int .i64 t, .slice A2 k c2] rfl rfl _ _ hres (by kernel_rfl) rfl (by kernel_rfl) ?_)
      have hres6 := setRow_heap _ _ _ (#[.int .i64 t, .slice A2 k c2] : Array Value) _ _ hres
      have hb6 := below_setRow hb (Nat.le_refl _) (#[.int .i64 t, .slice A2 k c2] : Array Value)
      have hown6 := own_aw hown (aw_setRow w.heap.size (#[.int .i64 t, .slice A2 k c2] : Array Value)) (fun k hk hu => by have := (own_blk hown hk).1; omega)
      generalize (wr.setRow w.heap.size #[.int .i64 t, .slice A2 k c2]) = v5 at *
      have e0 := blk_cell (i := 0) (v := .int .i64 t) hres6 rfl
      have e1 := blk_cell (i := 1) (v := .slice A2 k c2) hres6 rfl
      have hrr := RdR.own (ls := pre.map saC) hown6 (by rw [List.length_map]; exact Hpl.out) (fun r hr => by obtain ⟨s, hs, rfl⟩ := List.mem_map.1 hr; unfold saC; rw [List.length_map]; exact Hpre.out s hs)
      go_wp2
      refine bodyPost_ret (v := .tuple #[.agg #[.int .i64 t, .slice A2 k c2], .int .i64 0]) (by simp [results, go_sem, e0, e1]) rfl ⟨A2, k, c2, by rw [HT1.out, ← HE.out]; rfl, by rw [HL.out]; exact hrr, fun p hp => (by subst hp; exact Nat.le_trans (by omega) (own_blk hown rfl).1), hb6⟩
    · obtain ⟨m, rfl⟩ : ∃ j, m = j + 1 := ⟨m - 1, by omega⟩
      have hleR := hR.le
      have hmxR := hR.max
      unfold maxLen at hmxR
      have hcut12 : ∀ w, (Instr.slice 38 (.slice Ar (12 * (m + 1)) cr) none (some (.int .i64 12)) none).run Tryz.prog w = .ok (.slice Ar 12 cr) w := run_cut_h (P := Tryz.prog) Tryz.underlying38 Hi.out.1 Ar (12 * (m + 1)) cr 12 (by omega)
      have hcutn : ∀ w, (Instr.slice 38 (.slice Ar (12 * (m + 1)) cr) (some (.int .i64 12)) none none).run Tryz.prog w = .ok (.slice (cutA Ar cr 12 1) (12 * m) (cr - 12)) w := fun w => by
        have := run_cut_l (P := Tryz.prog) Tryz.underlying38 Hi.out.1 Hi.out.2.2.1 Ar (12 * (m + 1)) cr 12 (by omega) w
        rwa [show 12 * (m + 1) - 12 = 12 * m by omega] at this
      obtain ⟨sT, hsT⟩ : ∃ v, v = shT satF (R.take 12) := ⟨_, rfl⟩
      obtain ⟨sE, hsE⟩ : ∃ v, v = shTE satF (R.take 12) := ⟨_, rfl⟩
      have HsT := Lib.hid hsT
      have HsE := Lib.hid hsE
      have hg6 := blk_lt hbox
      have hg0 := blk_lt hres
      clear hsT hsE hm
      go_wp2_with fail
      refine Ord.region_ (fun _ => True) false [] (by kernel_rfl) (by kernel_rfl) trivial ?_
      replace hb := hb.drew
      replace hres : wr.drew.heap[w.heap.size]? = _ := hres
      replace hbox : wr.drew.heap[g6]? = _ := hbox
      replace hR := hR.up (w' := wr.drew) (Below.refl _ _).drew
      replace hown := own_up hown (w' := wr.drew) (Below.refl _ _).drew (Nat.le_refl _)
      replace hg6 : g6 < wr.drew.heap.size := hg6
      replace hg0 : w.heap.size < wr.drew.heap.size := hg0
      generalize wr.drew = v1 at *
      refine Ord.e_x rfl (by kernel_rfl) ?_
      go_wp2_with fail
      go_fit (satsShape_any v1)
      rintro e v2 ⟨Ag, ng, cg, rfl, hng, hrg, hb12⟩
      go_wp2_with fail
      refine Ord.Seg.go trivial (fun h => by cases h) ?_
      (try simp only [Act.put, List.setIfInBounds_toArray, List.set_cons_zero, List.set_cons_succ])
      ((with_reducible refine Ord.e_p (v := ?_) ?_ ?_ ?_ ?_); rotate_left; (· exact rfl); (· kernel_rfl); (· intro w2; go_simp; try with_reducible rfl))
      (try simp only [Act.put, List.setIfInBounds_toArray, List.set_cons_zero, List.set_cons_succ])
      ((with_reducible refine Ord.e_p (v := ?_) ?_ ?_ ?_ ?_); rotate_left; (· exact rfl); (· kernel_rfl); (· intro w2; go_simp; try with_reducible rfl))
      (try simp only [Act.put, List.setIfInBounds_toArray, List.set_cons_zero, List.set_cons_succ])
      replace hR := hR.up (hb12.mono (Nat.le_trans hB hb.size))
      replace hres := blk_old hres hb12 hg0
      replace hbox := blk_old hbox hb12 hg6
      replace hown := own_up hown hb12 (Nat.le_refl _)
      replace hb := bnx hb hb12
      clear hb12
      refine Ord.e_x rfl (by kernel_rfl) ?_
      go_wp2_with fail
      go_fit (shTake_any Ag ng cg v2.heap.size satF Ar 12 cr B (R.take 12) v2 hrg (Nat.le_refl _) (hR.btake (by omega)) (Nat.le_trans hB hb.size) (by omega) (by omega))
      rw [← HsE.out, ← HsT.out]
      rintro e v3 ⟨Av, nv, cv, rfl, hownv, hb23⟩
      replace hR := hR.up (hb23.mono (Nat.le_trans hB hb.size))
      replace hres := blk_old hres hb23 (blk_lt hres)
      replace hbox := blk_old hbox hb23 (blk_lt hbox)
      replace hown := own_up hown hb23 (Nat.le_refl _)
      replace hb := bnx hb hb23
      go_wp2_with fail
      refine Ord.Seg.go trivial (fun h => by cases h) ?_
      (try simp only [Act.put, List.setIfInBounds_toArray, List.set_cons_zero, List.set_cons_succ])
      ((with_reducible refine Ord.e_p (v := ?_) ?_ ?_ ?_ ?_); rotate_left; (· exact rfl); (· kernel_rfl); (· intro w2; go_simp; try with_reducible rfl))
      (try simp only [Act.put, List.setIfInBounds_toArray, List.set_cons_zero, List.set_cons_succ])
      ((with_reducible refine Ord.e_p (v := ?_) ?_ ?_ ?_ ?_); rotate_left; (· exact rfl); (· kernel_rfl); (· intro w2; go_simp; try with_reducible rfl))
      (try simp only [Act.put, List.setIfInBounds_toArray, List.set_cons_zero, List.set_cons_succ])
      ((with_reducible refine Ord.e_p (v := ?_) ?_ ?_ ?_ ?_); rotate_left; (· exact rfl); (· kernel_rfl); (· intro w2; go_simp; try with_reducible rfl))
      (try simp only [Act.put, List.setIfInBounds_toArray, List.set_cons_zero, List.set_cons_succ])
      ((with_reducible refine Ord.e_p (v := ?_) ?_ ?_ ?_ ?_); rotate_left; (· exact rfl); (· kernel_rfl); (· intro w2; go_simp; try with_reducible rfl))
      (try simp only [Act.put, List.setIfInBounds_toArray, List.set_cons_zero, List.set_cons_succ])
      ((with_reducible refine Ord.e_p (v := ?_) ?_ ?_ ?_ ?_); rotate_left; (· exact rfl); (· kernel_rfl); (· intro w2; go_simp; try with_reducible rfl))
      (try simp only [Act.put, List.setIfInBounds_toArray, List.set_cons_zero, List.set_cons_succ])
      refine Ord.e_nil ?_
      clear hb23 hrg hg0 hg6
      by_cases hs0 : ¬ sE = 0
      · have hs0' : ¬ (sE : Int) = 0 := by omega
        have E2 : Hid (sE = satsTE b) := Lib.hid (by rw [HM.out, Hst.out, satsTL_bad (by rw [← HsE.out]; exact hs0)]; exact HsE.out)
        clear hown hownv hR
        go_wp2_with (first | (with_reducible refine stop_loadT 26 ?_) | (with_reducible refine stop_storeT 26 ?_))
        refine go_ (wpList_store_row rfl _ _ _ rfl w.heap.size #[.int .i64 0, .slice none 0 0] rfl rfl _ _ hres (by kernel_rfl) rfl (by kernel_rfl) ?_)
        have hres5 := setRow_heap _ _ _ (#[.int .i64 0, .slice none 0 0] : Array Value) _ _ hres
        have hb5 := below_setRow hb (Nat.le_refl _) (#[.int .i64 0, .slice none 0 0] : Array Value)
        generalize (v3.setRow w.heap.size #[.int .i64 0, .slice none 0 0]) = v5 at *
        have e0 := blk_cell (i := 0) (v := .int .i64 0) hres5 rfl
        have e1 := blk_cell (i := 1) (v := .slice none 0 0) hres5 rfl
        go_wp2
        exact bodyPost_ret (v := .tuple #[.agg #[.int .i64 0, .slice none 0 0], .int .i64 sE]) (by simp [results, go_sem, e0, e1]) rfl (satsT_out (oE := sE) E2.out hs0 hb5)
      replace hs0 := Decidable.not_not.mp hs0
      have hstep : satsTL N (b.drop 8) = ((satsTL m (R.drop 12)).1, (pre ++ [sT]) ++ (satsTL m (R.drop 12)).2) := by
        rw [Hst.out, satsTL_ok (by rw [← HsE.out]; exact hs0), ← HsT.out]
        simp
      have hs7 : sT.length = 7 := by rw [HsT.out]; exact (shape_back (by rw [← HsE.out]; exact hs0)).2.2
      have Hstep := Lib.hid hstep
      have Hpre2 : Hid (∀ s ∈ pre ++ [sT], s.length = 7) := Lib.hid (fun s hs => by
        rcases List.mem_append.1 hs with hs | hs
        · exact Hpre.out s hs
        · simp at hs; rw [hs]; exact hs7)
      have Hpl2 : Hid ((pre ++ [sT]).length = k + 1) := Lib.hid (by rw [List.length_append, Hpl.out]; rfl)
      have hRn := hR.bdrop (k := 12) (by omega)
      rw [show 12 * (m + 1) - 12 = 12 * m by omega] at hRn
      obtain rfl : nv = 7 := by have := hownv.1; simp at this; omega
      have hrv := Rd.own hownv
      subst hs0
      rw [show ((0 : Nat) : Int) = 0 from rfl]
      obtain ⟨x0, x1, x2, x3, x4, x5, x6, rfl⟩ := len7 sT hs7
      have hof : ∀ w, Rd w v3.heap.size 1 Av 7 cv ([x0, x1, x2, x3, x4, x5, x6].map (Value.int .i64)) → v3.heap.size ≤ w.heap.size → Calls Tryz.prog 148 #[.slice Av 7 cv] w fun e w' => e = .returned (.agg #[.int .i64 x0, .int .i64 x1, .int .i64 x2, .int .i64 x3, .int .i64 x4, .int .i64 x5, .int .i64 x6]) ∧ Below w.heap.size w w' := fun w hrd hle => satsof_any Av cv v3.heap.size [x0, x1, x2, x3, x4, x5, x6] rfl w hrd hle
      have Hof := Lib.hid hof
      clear hstep hs7 hR hownv hof HsT HsE
      go_wp2_with fail
      refine Ord.region_ (fun _ => True) true [65] (by kernel_rfl) (by kernel_rfl) trivial ?_
      replace hb := hb.drew
      replace hres : v3.drew.heap[w.heap.size]? = _ := hres
      replace hbox : v3.drew.heap[g6]? = _ := hbox
      replace hRn := hRn.up (w' := v3.drew) (Below.refl _ _).drew
      replace hown := own_up hown (w' := v3.drew) (Below.refl _ _).drew (Nat.le_refl _)
      replace hrv := hrv.up (w' := v3.drew) (Below.refl _ _).drew
      have hsv : v3.heap.size ≤ v3.drew.heap.size := Nat.le_refl _
      generalize hv4 : v3.drew = v4 at *
      clear hv4
      have k1 : v4.cell? ⟨g6, 1, none⟩ = some (.slice A2 k c2) := blk_cell hbox rfl
      ((with_reducible refine Ord.e_p (v := ?_) ?_ ?_ ?_ ?_); rotate_left; (· exact rfl); (· kernel_rfl); (· intro w2; go_simp; try with_reducible rfl))
      (try simp only [Act.put, List.setIfInBounds_toArray, List.set_cons_zero, List.set_cons_succ])
      refine Ord.e_load Tryz.underlying24 rfl k1 rfl (by rfl) (by kernel_rfl) ?_
      (try simp only [Act.put, List.setIfInBounds_toArray, List.set_cons_zero, List.set_cons_succ])
      ((with_reducible refine Ord.e_p (v := ?_) ?_ ?_ ?_ ?_); rotate_left; (· exact rfl); (· kernel_rfl); (· intro w2; go_simp; try with_reducible rfl))
      (try simp only [Act.put, List.setIfInBounds_toArray, List.set_cons_zero, List.set_cons_succ])
      refine Ord.e_x rfl (by kernel_rfl) ?_
      go_wp2_with fail
      go_fit (Hof.out v4 hrv hsv)
      rintro e v5 ⟨rfl, hb45⟩
      go_wp2_with fail
      refine Ord.Seg.go trivial (fun _ => hb45) ?_
      (try simp only [Act.put, List.setIfInBounds_toArray, List.set_cons_zero, List.set_cons_succ])
      replace hRn := hRn.up (hb45.mono (Nat.le_trans hB hb.size))
      replace hres := blk_old hres hb45 (blk_lt hres)
      replace hbox := blk_old hbox hb45 (blk_lt hbox)
      replace hown := own_up hown hb45 (Nat.le_refl _)
      replace hb := bnx hb hb45
      clear hb45 hsv hrv k1
      refine Ord.e_x rfl (by kernel_rfl) ?_
      go_wp2
      have hbn : Below v5.heap.size v5 (v5.alloc (.cells #[.int .i64 x0, .int .i64 x1, .int .i64 x2, .int .i64 x3, .int .i64 x4, .int .i64 x5, .int .i64 x6] 99)) := (Below.refl _ _).alloc (Nat.le_refl _) _
      have hrd : Rd (v5.alloc (.cells #[.int .i64 x0, .int .i64 x1, .int .i64 x2, .int .i64 x3, .int .i64 x4, .int .i64 x5, .int .i64 x6] 99)) (v5.heap.size + 1) 7 (some ⟨v5.heap.size, 0, none⟩) 1 1 (saC [x0, x1, x2, x3, x4, x5, x6]) := by
        have := (RdR.lit (size := 7) (e := 99) v5 [saC [x0, x1, x2, x3, x4, x5, x6]] #[.int .i64 x0, .int .i64 x1, .int .i64 x2, .int .i64 x3, .int .i64 x4, .int .i64 x5, .int .i64 x6] rfl (by simp [saC]) (by simp [maxLen]) 1 rfl).rd (by omega)
        simpa using this
      refine Ord.Seg.go trivial (fun _ => hbn) ?_
      (try simp only [Act.put, List.setIfInBounds_toArray, List.set_cons_zero, List.set_cons_succ])
      replace hRn := hRn.up (hbn.mono (Nat.le_trans hB hb.size))
      replace hres := blk_old hres hbn (blk_lt hres)
      replace hbox := blk_old hbox hbn (blk_lt hbox)
      replace hown := own_up hown hbn (Nat.le_refl _)
      replace hb := bnx hb hbn
      clear hbn
      generalize (v5.alloc (.cells #[.int .i64 x0, .int .i64 x1, .int .i64 x2, .int .i64 x3, .int .i64 x4, .int .i64 x5, .int .i64 x6] 99)) = v6 at *
      refine Ord.e_x rfl (by kernel_rfl) ?_
      refine wpList_appG (base := g6 + 1) (n := k) Tryz.underlying24 Hi1.out rfl (by omega) hown rfl hrd rfl (saC_one _) (k := k + 1) rfl (saC_app _ _) (by unfold maxLen; omega) (by omega) (by have := blk_lt hbox; omega) ?_
      intro A7 c7 v7 hown7 hgr hob
      have hne6 : ∀ j, (Value.slice A2 k c2).ownBlock = some j → g6 < j := fun j hj => by have := (own_blk hown hj).1; omega
      have hbox7 := (hgr.block _ (blk_lt hbox) (fun e => by have := hne6 _ e.symm; omega)).trans hbox
      have hres7 := (hgr.block _ (blk_lt hres) (fun e => by have := hne6 _ e.symm; omega)).trans hres
      have hb7 := Below.grown hb hgr hb.size (fun j hj => by have := hne6 j hj; omega)
      have hbB : Below B v6 v7 := Below.grown (Below.refl B v6) hgr (Nat.le_trans hB hb.size) (fun j hj => by have := hne6 j hj; omega)
      replace hRn := hRn.up hbB
      clear hgr hob hown hbox hres hb hbB hrd hne6
      go_wp2_with fail
      refine Ord.Seg.go trivial (fun h => by cases h) ?_
      (try simp only [Act.put, List.setIfInBounds_toArray, List.set_cons_zero, List.set_cons_succ])
      ((with_reducible refine Ord.e_p (v := ?_) ?_ ?_ ?_ ?_); rotate_left; (· exact rfl); (· kernel_rfl); (· intro w2; go_simp; try with_reducible rfl))
      (try simp only [Act.put, List.setIfInBounds_toArray, List.set_cons_zero, List.set_cons_succ])
      have s1 : v7.cell? ⟨g6, 1, none⟩ = some (.slice A2 k c2) := blk_cell hbox7 rfl
      have s2 : v7.frozen? ⟨g6, 1, none⟩ = false := blk_free (i := 1) hbox7
      refine Ord.e_x rfl (by kernel_rfl) ?_
      go_wp2
      have hbox8 := blk_set (i := 1) hbox7 (.slice A7 (k + 1) c7)
      have haw8 : Aw (fun j => j = g6) v7 (v7.setCell ⟨g6, 1, none⟩ (.slice A7 (k + 1) c7)) := (Aw.refl _ _).set (p := ⟨g6, 1, none⟩) _ rfl
      have hres8 := haw8.keep hres7 (by omega)
      have hown8 := own_aw hown7 haw8 (fun j hj hu => by have := (own_blk hown7 hj).1; omega)
      have hb8 := below_aw hb7 haw8 (fun j hj => by omega) hb7.size
      have hR8 : Rd (v7.setCell ⟨g6, 1, none⟩ (.slice A7 (k + 1) c7)) B 1 (cutA Ar cr 12 1) (12 * m) (cr - 12) (bv (R.drop 12)) := hRn.up (below_aw (Below.refl B v7) haw8 (fun j hj => by omega) (Nat.le_trans hB hb7.size))
      refine Ord.Seg.go trivial (fun h => by cases h) ?_
      (try simp only [Act.put, List.setIfInBounds_toArray, List.set_cons_zero, List.set_cons_succ])
      refine Ord.e_nil ?_
      clear s1 s2 hres7 hbox7 hown7 hb7 haw8 hRn
      generalize (v7.setCell ⟨g6, 1, none⟩ (.slice A7 (k + 1) c7)) = v8 at *
      go_wp2
      go_roundw
      case rel => exact ⟨k + 1, m, pre ++ [[x0, x1, x2, x3, x4, x5, x6]], R.drop 12, cutA Ar cr 12 1, A7, cr - 12, c7, rfl, by omega, Hpl2.out, hR8, hbox8, hres8, hown8, hb8, Hstep.out, Hpre2.out⟩
      case measure => simp [slLen]

end Go.Proofs.YtmkidihcdljkiaaGreat
