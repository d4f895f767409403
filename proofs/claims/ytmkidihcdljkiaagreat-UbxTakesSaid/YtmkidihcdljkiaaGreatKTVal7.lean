/-
  The document's Take of layer 20 walked (printed by gen_val7.py).
-/
import Derived.Test.YtmkidihcdljkiaaGreatKTVal6
set_option linter.unusedSimpArgs false
set_option linter.unusedVariables false
namespace Go.Proofs.YtmkidihcdljkiaaGreat
open Go.RowKit NumLaw
attribute [local go_sem] Addr.add_mid
set_option maxRecDepth 10000 in
set_option maxHeartbeats 8000000 in
theorem qvalTake_anyF (A : Option Addr) (n c B : Nat) (b : List UInt8) (w : World) (h : Rd w B 1 A n c (bv b)) (hB : B ≤ w.heap.size) (hn : n ≤ 1000000000) :
    Calls Tryz.prog 37 #[.slice A n c] w (RetTValF b w) := by
  have hlb := h.blen
  have hle := h.le
  have hmx := h.max
  unfold maxLen at hmx
  obtain ⟨i0, hi⟩ := info_parts u8_info
  obtain ⟨i1, hi1⟩ := info_parts pair_info
  have hb1 : Below w.heap.size w (w.alloc (.cells #[.int .i64 0, .slice none 0 0] 33)) := (Below.refl _ _).alloc (Nat.le_refl _) _
  have hres := heap_alloc_new w (.cells #[.int .i64 0, .slice none 0 0] 33)
  have Hlb := Lib.hid hlb
  have Hi1 := Lib.hid hi1
  have Hi := Lib.hid hi
  by_cases h4 : n < 4
  · clear hlb hi hi1
    go_enter Tryz.func37, Tryz.ntmps37
    go_wp2_with (first | (with_reducible refine stop_loadT 33 ?_) | (with_reducible refine stop_storeT 33 ?_))
    generalize (w.alloc (.cells #[.int .i64 0, .slice none 0 0] 33)) = w1 at *
    have E2 : Hid (2 = valTE b) := Lib.hid (by unfold valTE; rw [if_pos (by rw [Hlb.out]; omega)])
    skip
    refine go_ (wpList_store_row rfl _ _ _ rfl w.heap.size #[.int .i64 0, .slice none 0 0] rfl rfl _ _ hres (by kernel_rfl) rfl (by kernel_rfl) ?_)
    have hres5 := setRow_heap _ _ _ (#[.int .i64 0, .slice none 0 0] : Array Value) _ _ hres
    have hb5 := below_setRow hb1 (Nat.le_refl _) (#[.int .i64 0, .slice none 0 0] : Array Value)
    generalize (w1.setRow w.heap.size #[.int .i64 0, .slice none 0 0]) = v5 at *
    have e0 := blk_cell (i := 0) (v := .int .i64 0) hres5 rfl
    have e1 := blk_cell (i := 1) (v := .slice none 0 0) hres5 rfl
    go_wp2
    exact bodyPost_ret (v := .tuple #[.agg #[.int .i64 0, .slice none 0 0], .int .i64 2]) (by simp [results, go_sem, e0, e1]) rfl (valT_out (oE := 2) E2.out (by omega) hb5)
  obtain ⟨r, rfl⟩ : ∃ r, n = r + 4 := ⟨n - 4, by omega⟩
  have hcut4 : ∀ w, (Instr.slice 38 (.slice A (r + 4) c) none (some (.int .i64 4)) none).run Tryz.prog w = .ok (.slice A 4 c) w := run_cut_h (P := Tryz.prog) Tryz.underlying38 hi.1 A (r + 4) c 4 (by omega)
  obtain ⟨qT, hqT⟩ : ∃ v, v = shT vhF (b.take 4) := ⟨_, rfl⟩
  obtain ⟨qE, hqE⟩ : ∃ v, v = shTE vhF (b.take 4) := ⟨_, rfl⟩
  have HqT := Lib.hid hqT
  have HqE := Lib.hid hqE
  clear hlb hqT hqE hi hi1
  go_enter Tryz.func37, Tryz.ntmps37
  go_wp2_with fail
  generalize (w.alloc (.cells #[.int .i64 0, .slice none 0 0] 33)) = w1 at *
  have hlt := blk_lt hres
  refine Ord.region_ (fun _ => True) false [] (by kernel_rfl) (by kernel_rfl) trivial ?_
  have hb2 : Below w.heap.size w w1.drew := hb1.drew
  replace hres : w1.drew.heap[w.heap.size]? = _ := hres
  have h2 : Rd w1.drew B 1 A (r + 4) c (bv b) := h.up (hb2.mono hB)
  generalize w1.drew = w2 at *
  clear hb1 hlt
  refine Ord.e_x rfl (by kernel_rfl) ?_
  go_wp2_with fail
  go_fit (qvhead_any w2)
  rintro e w3 ⟨Af, nf, cf, rfl, hnf, hrf, hb23⟩
  have hb3 := bnx hb2 hb23
  have h3 := h2.up (hb23.mono (Nat.le_trans hB hb2.size))
  replace hres := blk_old hres hb23 (blk_lt hres)
  go_wp2_with fail
  refine Ord.Seg.go trivial (fun h => by cases h) ?_
  (try simp only [Act.put, List.setIfInBounds_toArray, List.set_cons_zero, List.set_cons_succ])
  ((with_reducible refine Ord.e_p (v := ?_) ?_ ?_ ?_ ?_); rotate_left; (· exact rfl); (· kernel_rfl); (· intro w2; go_simp; try with_reducible rfl))
  (try simp only [Act.put, List.setIfInBounds_toArray, List.set_cons_zero, List.set_cons_succ])
  ((with_reducible refine Ord.e_p (v := ?_) ?_ ?_ ?_ ?_); rotate_left; (· exact rfl); (· kernel_rfl); (· intro w2; go_simp; try with_reducible rfl))
  (try simp only [Act.put, List.setIfInBounds_toArray, List.set_cons_zero, List.set_cons_succ])
  clear hb2 hb23 h2
  refine Ord.e_x rfl (by kernel_rfl) ?_
  go_wp2_with fail
  go_fit (qTake14_any Af nf cf w3.heap.size vhF A 4 c B (b.take 4) w3 hrf (Nat.le_refl _) (h3.btake (by omega)) (Nat.le_trans hB hb3.size) (by omega) (by omega))
  rw [← HqE.out, ← HqT.out]
  rintro e w4 ⟨At, nt, ct, rfl, hown, hb34⟩
  have hb4 := bnx hb3 hb34
  have h4' := h3.up (hb34.mono (Nat.le_trans hB hb3.size))
  replace hres := blk_old hres hb34 (blk_lt hres)
  go_wp2_with fail
  refine Ord.Seg.go trivial (fun h => by cases h) ?_
  (try simp only [Act.put, List.setIfInBounds_toArray, List.set_cons_zero, List.set_cons_succ])
  ((with_reducible refine Ord.e_p (v := ?_) ?_ ?_ ?_ ?_); rotate_left; (· exact rfl); (· kernel_rfl); (· intro w2; go_simp; try with_reducible rfl))
  (try simp only [Act.put, List.setIfInBounds_toArray, List.set_cons_zero, List.set_cons_succ])
  ((with_reducible refine Ord.e_p (v := ?_) ?_ ?_ ?_ ?_); rotate_left; (· exact rfl); (· kernel_rfl); (· intro w2; go_simp; try with_reducible rfl))
  (try simp only [Act.put, List.setIfInBounds_toArray, List.set_cons_zero, List.set_cons_succ])
  ((with_reducible refine Ord.e_p (v := ?_) ?_ ?_ ?_ ?_); rotate_left; (· exact rfl); (· kernel_rfl); (· intro w2; go_simp; try with_reducible rfl))
  (try simp only [Act.put, List.setIfInBounds_toArray, List.set_cons_zero, List.set_cons_succ])
  ((with_reducible refine Ord.e_p (v := ?_) ?_ ?_ ?_ ?_); rotate_left; (· exact rfl); (· kernel_rfl); (· intro w2; go_simp; try with_reducible rfl))
  (try simp only [Act.put, List.setIfInBounds_toArray, List.set_cons_zero, List.set_cons_succ])
  ((with_reducible refine Ord.e_p (v := ?_) ?_ ?_ ?_ ?_); rotate_left; (· exact rfl); (· kernel_rfl); (· intro w2; go_simp; try with_reducible rfl))
  (try simp only [Act.put, List.setIfInBounds_toArray, List.set_cons_zero, List.set_cons_succ])
  refine Ord.e_nil ?_
  by_cases hq : ¬ qE = 0
  · have hq' : ¬ (qE : Int) = 0 := by omega
    clear hb3 hb34 h3 hrf hown
    have E2 : Hid (qE = valTE b) := Lib.hid (by unfold valTE; rw [if_neg (by rw [Hlb.out]; omega), if_neg (by rw [← HqE.out]; exact hq)]; exact HqE.out)
    go_wp2_with (first | (with_reducible refine stop_loadT 33 ?_) | (with_reducible refine stop_storeT 33 ?_))
    refine go_ (wpList_store_row rfl _ _ _ rfl w.heap.size #[.int .i64 0, .slice none 0 0] rfl rfl _ _ hres (by kernel_rfl) rfl (by kernel_rfl) ?_)
    have hres5 := setRow_heap _ _ _ (#[.int .i64 0, .slice none 0 0] : Array Value) _ _ hres
    have hb5 := below_setRow hb4 (Nat.le_refl _) (#[.int .i64 0, .slice none 0 0] : Array Value)
    generalize (w4.setRow w.heap.size #[.int .i64 0, .slice none 0 0]) = v5 at *
    have e0 := blk_cell (i := 0) (v := .int .i64 0) hres5 rfl
    have e1 := blk_cell (i := 1) (v := .slice none 0 0) hres5 rfl
    go_wp2
    exact bodyPost_ret (v := .tuple #[.agg #[.int .i64 0, .slice none 0 0], .int .i64 qE]) (by simp [results, go_sem, e0, e1]) rfl (valT_out (oE := qE) E2.out (by omega) hb5)
  replace hq := Decidable.not_not.mp hq
  obtain ⟨t, hv, _⟩ := vheadT (b := b.take 4) (by rw [← HqE.out]; exact hq)
  have hqv : qT = [0, t, 0] := HqT.out.trans hv
  have Hv := Lib.hid hv
  subst hqv
  obtain rfl : nt = 3 := by have := hown.1; simp at this; omega
  obtain ⟨g4, rfl, hg1, hg2, hcell⟩ := own_at hown (by omega)
  have k1 : w4.cell? ⟨g4, 1, none⟩ = some (.int .i64 t) := hcell 1 _ rfl
  have Hq := Lib.hid (HqE.out.symm.trans hq)
  subst hq
  rw [show ((0 : Nat) : Int) = 0 from rfl]
  have hbx : Below w4.heap.size w4 (w4.alloc (.cells #[.int .i64 t, .slice none 0 0] 33)) := (Below.refl _ _).alloc (Nat.le_refl _) _
  have hb5 := bnx hb4 hbx
  have h5 := h4'.up (hbx.mono (Nat.le_trans hB hb4.size))
  have hbox := heap_alloc_new w4 (.cells #[.int .i64 t, .slice none 0 0] 33)
  have hlt6 := blk_lt hres
  replace hres := blk_old hres hbx hlt6
  have hR := h5
  have HM := Lib.hid (valTE_many (b := b) (by rw [Hlb.out]; omega) Hq.out)
  have HT : Hid (valTE b = 0 → valTt b = t ∧ valTl b = (valTL 32 (b.drop 4)).2) := Lib.hid (fun h => ⟨by unfold valTt; rw [if_pos h, Hv.out]; rfl, by unfold valTl; rw [if_pos h]⟩)
  clear hb3 hb34 h3 hrf hown hcell hv h4' hb4 hbx HqT
  go_wp2_with fail
  generalize (w4.alloc (.cells #[.int .i64 t, .slice none 0 0] 33)) = w5 at *
  obtain ⟨g6, hg6⟩ : ∃ g, g = w4.heap.size := ⟨_, rfl⟩
  rw [← hg6] at hbox hlt6 ⊢
  have hg06 : w.heap.size < g6 := by rw [hg6]; omega
  clear hg6 k1 hg1 hg2
  go_loopw [7] (fun i wr => ∃ (p k m : Nat) (pre : List (Int × Int)) (A2 : Option Addr) (c2 : Nat), i = .int .i64 p ∧ p ≤ r + 4 ∧ k + m = 32 ∧ pre.length = k ∧ Rd wr B 1 A (r + 4) c (bv b) ∧ wr.heap[g6]? = some (.cells #[.int .i64 t, .slice A2 k c2] 33) ∧ wr.heap[w.heap.size]? = some (.cells #[.int .i64 0, .slice none 0 0] 33) ∧ wr.ownsRow (g6 + 1) 103 2 (.slice A2 k c2) k (pre.map prC).flatten ∧ Below w.heap.size w wr ∧ Hid (valTL 32 (b.drop 4) = ((valTL m (b.drop p)).1, pre ++ (valTL m (b.drop p)).2))) (fun i _ => r + 4 - (intOf i).toNat)
  case atStart => exact ⟨4, 0, 32, [], none, 0, rfl, by omega, rfl, rfl, hR, hbox, hres, World.ownsRow_nil _ _ _ _, hb5, Lib.hid (by simp)⟩
  case round =>
    clear hR hbox hres hb5 h5 hcut4 w5
    obtain ⟨p, k, m, pre, A2, c2, rfl, hp, hkm, hpl, hR, hbox, hres, hown, hb, Hst⟩ := hrel
    have Hpl := Lib.hid hpl
    have k1 := blk_cell (i := 1) (v := .slice A2 k c2) hbox rfl
    have hdl : (b.drop p).length = r + 4 - p := by rw [List.length_drop, Hlb.out]
    have Hdl := Lib.hid hdl
    clear hpl hdl
    by_cases hR0 : ¬ p < r + 4
    · have hst0 := Hst.out
      rw [valTL_nil m (b.drop p) (by rw [Hdl.out]; omega)] at hst0
      have hE : 0 = valTE b := by rw [HM.out, hst0]
      obtain ⟨hT1, hT2⟩ := HT.out hE.symm
      have hL : valTl b = pre := by rw [hT2, hst0]; simp
      have HE := Lib.hid hE
      have HL := Lib.hid hL
      have HT1 := Lib.hid hT1
      clear hE hT1 hT2 hL hst0
      go_wp2_with (first | (with_reducible refine stop_loadT 33 ?_) | (with_reducible refine stop_storeT 33 ?_))
      refine go_ (wpList_load_row rfl _ _ rfl g6 rfl _ _ _ _ hbox Tryz.underlying33 rfl (by kernel_rfl) ?_)
      go_wp2_with (first | (with_reducible refine stop_loadT 33 ?_) | (with_reducible refine stop_storeT 33 ?_))
      refine go_ (wpList_store_row rfl _ _ _ rfl w.heap.size #[.int .i64 t, .slice A2 k c2] rfl rfl _ _ hres (by kernel_rfl) rfl (by kernel_rfl) ?_)
      have hres6 := setRow_heap _ _ _ (#[.int .i64 t, .slice A2 k c2] : Array Value) _ _ hres
      have hb6 := below_setRow hb (Nat.le_refl _) (#[.int .i64 t, .slice A2 k c2] : Array Value)
      have hown6 := own_aw hown (aw_setRow20 w.heap.size (#[.int .i64 t, .slice A2 k c2] : Array Value)) (fun k hk hu => by have := (own_blk hown hk).1; omega)
      generalize (wr.setRow w.heap.size #[.int .i64 t, .slice A2 k c2]) = v5 at *
      have e0 := blk_cell (i := 0) (v := .int .i64 t) hres6 rfl
      have e1 := blk_cell (i := 1) (v := .slice A2 k c2) hres6 rfl
      have hrr := RdR.own (ls := pre.map prC) hown6 (by rw [List.length_map]; exact Hpl.out) (fun r hr => by obtain ⟨s, hs, rfl⟩ := List.mem_map.1 hr; rfl)
      go_wp2
      refine bodyPost_ret (v := .tuple #[.agg #[.int .i64 t, .slice A2 k c2], .int .i64 0]) (by simp [results, go_sem, e0, e1]) rfl ⟨A2, k, c2, by rw [HT1.out, ← HE.out]; rfl, by rw [HL.out]; exact hrr, fun p hp => (by subst hp; exact Nat.le_trans (by omega) (own_blk hown rfl).1), hb6⟩
    replace hR0 := Decidable.not_not.mp hR0
    by_cases hm : m = 0
    · subst hm
      obtain rfl : k = 32 := by omega
      have E2 : Hid (7 = valTE b) := Lib.hid (by rw [HM.out, Hst.out]; exact (valTL_full (by rw [Hdl.out]; omega)).symm)
      go_wp2_with (first | (with_reducible refine stop_loadT 33 ?_) | (with_reducible refine stop_storeT 33 ?_))
      refine go_ (wpList_store_row rfl _ _ _ rfl w.heap.size #[.int .i64 0, .slice none 0 0] rfl rfl _ _ hres (by kernel_rfl) rfl (by kernel_rfl) ?_)
      have hres5 := setRow_heap _ _ _ (#[.int .i64 0, .slice none 0 0] : Array Value) _ _ hres
      have hb5 := below_setRow hb (Nat.le_refl _) (#[.int .i64 0, .slice none 0 0] : Array Value)
      generalize (wr.setRow w.heap.size #[.int .i64 0, .slice none 0 0]) = v5 at *
      have e0 := blk_cell (i := 0) (v := .int .i64 0) hres5 rfl
      have e1 := blk_cell (i := 1) (v := .slice none 0 0) hres5 rfl
      go_wp2
      exact bodyPost_ret (v := .tuple #[.agg #[.int .i64 0, .slice none 0 0], .int .i64 7]) (by simp [results, go_sem, e0, e1]) rfl (valT_out (oE := 7) E2.out (by omega) hb5)
    obtain ⟨m, rfl⟩ : ∃ j, m = j + 1 := ⟨m - 1, by omega⟩
    have hk32 : ¬ (32 : Int) ≤ (k : Int) := by omega
    have hw1 : IntKind.i64.wrap ((p : Int) + 4) = (p : Int) + 4 := by rw [IntKind.wrap_i64]; omega
    by_cases hR4 : r + 4 < p + 4
    · have hR4' : (b.drop p).length < 4 := by rw [Hdl.out]; omega
      have HR4' := Lib.hid hR4'
      clear hR4'
      have E2 : Hid (2 = valTE b) := Lib.hid (by rw [HM.out, Hst.out]; exact (valTL_short (by rw [Hdl.out]; omega) HR4'.out).symm)
      go_wp2_with (first | (with_reducible refine stop_loadT 33 ?_) | (with_reducible refine stop_storeT 33 ?_))
      refine go_ (wpList_store_row rfl _ _ _ rfl w.heap.size #[.int .i64 0, .slice none 0 0] rfl rfl _ _ hres (by kernel_rfl) rfl (by kernel_rfl) ?_)
      have hres5 := setRow_heap _ _ _ (#[.int .i64 0, .slice none 0 0] : Array Value) _ _ hres
      have hb5 := below_setRow hb (Nat.le_refl _) (#[.int .i64 0, .slice none 0 0] : Array Value)
      generalize (wr.setRow w.heap.size #[.int .i64 0, .slice none 0 0]) = v5 at *
      have e0 := blk_cell (i := 0) (v := .int .i64 0) hres5 rfl
      have e1 := blk_cell (i := 1) (v := .slice none 0 0) hres5 rfl
      go_wp2
      exact bodyPost_ret (v := .tuple #[.agg #[.int .i64 0, .slice none 0 0], .int .i64 2]) (by simp [results, go_sem, e0, e1]) rfl (valT_out (oE := 2) E2.out (by omega) hb5)
    have HR4 : Hid (¬ (b.drop p).length < 4) := Lib.hid (by rw [Hdl.out]; omega)
    have hcut1 : ∀ w, (Instr.slice 38 (.slice A (r + 4) c) (some (.int .i64 (p : Int))) (some (.int .i64 ((p : Int) + 4))) none).run Tryz.prog w = .ok (.slice (cutA A c p 1) 4 (c - p)) w := fun w => by
      have := run_cut_lh (P := Tryz.prog) Tryz.underlying38 Hi.out.1 Hi.out.2.2.1 A (r + 4) c p (p + 4) (by omega) (by omega) w
      rwa [show p + 4 - p = 4 by omega, show ((p + 4 : Nat) : Int) = (p : Int) + 4 by omega] at this
    have hrp := (hR.bdrop (k := p) (by omega)).btake (k := 4) (by omega)
    have hnum := number_any (cutA A c p 1) 4 (c - p) B ((b.drop p).take 4) wr hrp (by omega)
    have hkl := num_lt ((b.drop p).take 4)
    have hl4 : ((b.drop p).take 4).length = 4 := by rw [List.length_take, Hdl.out]; omega
    rw [hl4] at hkl
    have hkl : num ((b.drop p).take 4) < 4294967296 := hkl
    obtain ⟨kx, hkx⟩ : ∃ v, v = num ((b.drop p).take 4) := ⟨_, rfl⟩
    rw [← hkx] at hkl hnum
    have Hkx := Lib.hid hkx
    have hwk : IntKind.i64.wrap (kx : Int) = kx := by rw [IntKind.wrap_i64]; omega
    clear hkx hl4 hrp
    go_wp2_with fail
    go_fit hnum
    rintro e w7 ⟨rfl, rfl⟩
    clear hnum hcut1
    have hs := qvsize_any kx wr (by omega)
    by_cases hz : szN kx = 0
    · rw [hz, show decide ((0 : Nat) ≠ 0) = false from rfl] at hs
      go_wp2_with fail
      go_fit hs
      rintro e w8 ⟨rfl, hb78⟩
      replace hbox := blk_old hbox hb78 (blk_lt hbox)
      replace hres := blk_old hres hb78 (blk_lt hres)
      replace hown := own_up hown hb78 (Nat.le_refl _)
      replace hR := hR.up (hb78.mono (Nat.le_trans hB hb.size))
      replace hb := bnx hb hb78
      clear hb78 k1
      have k1 : w8.cell? ⟨g6, 1, none⟩ = some (.slice A2 k c2) := blk_cell hbox rfl
      have E2 : Hid (6 = valTE b) := Lib.hid (by rw [HM.out, Hst.out]; exact (valTL_kind HR4.out (by rw [← Hkx.out]; exact hz)).symm)
      go_wp2_with (first | (with_reducible refine stop_loadT 33 ?_) | (with_reducible refine stop_storeT 33 ?_))
      refine go_ (wpList_store_row rfl _ _ _ rfl w.heap.size #[.int .i64 0, .slice none 0 0] rfl rfl _ _ hres (by kernel_rfl) rfl (by kernel_rfl) ?_)
      have hres5 := setRow_heap _ _ _ (#[.int .i64 0, .slice none 0 0] : Array Value) _ _ hres
      have hb5 := below_setRow hb (Nat.le_refl _) (#[.int .i64 0, .slice none 0 0] : Array Value)
      generalize (w8.setRow w.heap.size #[.int .i64 0, .slice none 0 0]) = v5 at *
      have e0 := blk_cell (i := 0) (v := .int .i64 0) hres5 rfl
      have e1 := blk_cell (i := 1) (v := .slice none 0 0) hres5 rfl
      go_wp2
      exact bodyPost_ret (v := .tuple #[.agg #[.int .i64 0, .slice none 0 0], .int .i64 6]) (by simp [results, go_sem, e0, e1]) rfl (valT_out (oE := 6) E2.out (by omega) hb5)
    rw [show decide (szN kx ≠ 0) = true from decide_eq_true hz] at hs
    have hsl := sz_le (kx : Int)
    obtain ⟨sn, hsn⟩ : ∃ v, v = szN (kx : Int) := ⟨_, rfl⟩
    have Hsn := Lib.hid hsn
    rw [← hsn] at hs hz hsl
    clear hsn
    go_wp2_with fail
    go_fit hs
    rintro e w8 ⟨rfl, hb78⟩
    replace hbox := blk_old hbox hb78 (blk_lt hbox)
    replace hres := blk_old hres hb78 (blk_lt hres)
    replace hown := own_up hown hb78 (Nat.le_refl _)
    replace hR := hR.up (hb78.mono (Nat.le_trans hB hb.size))
    replace hb := bnx hb hb78
    clear hb78 k1
    have k1 : w8.cell? ⟨g6, 1, none⟩ = some (.slice A2 k c2) := blk_cell hbox rfl
    clear hs
    have hw2 : IntKind.i64.wrap ((p : Int) + 4 + (sn : Int)) = (p : Int) + 4 + (sn : Int) := by rw [IntKind.wrap_i64]; omega
    by_cases hR5 : r + 4 < p + 4 + sn
    · have hR5' : ((r + 4 : Nat) : Int) < (p : Int) + 4 + (sn : Int) := by omega
      have HR5 : Hid ((b.drop p).length < 4 + sn) := Lib.hid (by rw [Hdl.out]; omega)
      have E2 : Hid (2 = valTE b) := Lib.hid (by rw [HM.out, Hst.out]; exact (valTL_short2 HR4.out (by rw [← Hkx.out, ← Hsn.out]; exact hz) (by rw [← Hkx.out, ← Hsn.out]; exact HR5.out)).symm)
      go_wp2_with (first | (with_reducible refine stop_loadT 33 ?_) | (with_reducible refine stop_storeT 33 ?_))
      refine go_ (wpList_store_row rfl _ _ _ rfl w.heap.size #[.int .i64 0, .slice none 0 0] rfl rfl _ _ hres (by kernel_rfl) rfl (by kernel_rfl) ?_)
      have hres5 := setRow_heap _ _ _ (#[.int .i64 0, .slice none 0 0] : Array Value) _ _ hres
      have hb5 := below_setRow hb (Nat.le_refl _) (#[.int .i64 0, .slice none 0 0] : Array Value)
      generalize (w8.setRow w.heap.size #[.int .i64 0, .slice none 0 0]) = v5 at *
      have e0 := blk_cell (i := 0) (v := .int .i64 0) hres5 rfl
      have e1 := blk_cell (i := 1) (v := .slice none 0 0) hres5 rfl
      go_wp2
      exact bodyPost_ret (v := .tuple #[.agg #[.int .i64 0, .slice none 0 0], .int .i64 2]) (by simp [results, go_sem, e0, e1]) rfl (valT_out (oE := 2) E2.out (by omega) hb5)
    have HR5 : Hid (¬ (b.drop p).length < 4 + sn) := Lib.hid (by rw [Hdl.out]; omega)
    have hcut2 : ∀ w, (Instr.slice 38 (.slice A (r + 4) c) (some (.int .i64 ((p : Int) + 4))) (some (.int .i64 ((p : Int) + 4 + (sn : Int)))) none).run Tryz.prog w = .ok (.slice (cutA A c (p + 4) 1) sn (c - (p + 4))) w := fun w => by
      have := run_cut_lh (P := Tryz.prog) Tryz.underlying38 Hi.out.1 Hi.out.2.2.1 A (r + 4) c (p + 4) (p + 4 + sn) (by omega) (by omega) w
      rwa [show p + 4 + sn - (p + 4) = sn by omega, show ((p + 4 : Nat) : Int) = (p : Int) + 4 by omega, show ((p + 4 + sn : Nat) : Int) = (p : Int) + 4 + (sn : Int) by omega] at this
    have hrp := (hR.bdrop (k := p + 4) (by omega)).btake (k := sn) (by omega)
    have hdd : (b.drop p).drop 4 = b.drop (p + 4) := List.drop_drop
    have hnum := number_any (cutA A c (p + 4) 1) sn (c - (p + 4)) B ((b.drop (p + 4)).take sn) w8 hrp (by omega)
    have hvl := num_lt ((b.drop (p + 4)).take sn)
    have hl5 : ((b.drop (p + 4)).take sn).length = sn := by rw [List.length_take, List.length_drop, Hlb.out]; omega
    rw [hl5] at hvl
    have hv64 : num ((b.drop (p + 4)).take sn) < 18446744073709551616 := Nat.lt_of_lt_of_le hvl (pow_le8 hsl)
    obtain ⟨vx, hvx⟩ : ∃ v, v = num (((b.drop p).drop 4).take sn) := ⟨_, rfl⟩
    rw [← hdd, ← hvx] at hv64 hnum
    have Hvx := Lib.hid hvx
    have Hdd := Lib.hid hdd
    clear hvl hl5 hvx hrp hdd
    go_wp2_with fail
    go_fit hnum
    rintro e w9 ⟨rfl, rfl⟩
    clear hnum hcut2
    have hml := ms_le (kx : Int)
    obtain ⟨mx, hmx2⟩ : ∃ v, v = msN (kx : Int) := ⟨_, rfl⟩
    have Hmx := Lib.hid hmx2
    have hmo := qvmost_any (kx : Int) w8 (by omega)
    rw [← hmx2] at hmo hml
    have hwm : IntKind.u64.wrap (mx : Int) = mx := IntWalk.u64_in _ (by omega)
    clear hmx2
    go_wp2_with fail
    go_fit hmo
    rintro e wa ⟨rfl, hb9a⟩
    clear hmo
    replace hbox := blk_old hbox hb9a (blk_lt hbox)
    replace hres := blk_old hres hb9a (blk_lt hres)
    replace hown := own_up hown hb9a (Nat.le_refl _)
    replace hR := hR.up (hb9a.mono (Nat.le_trans hB hb.size))
    replace hb := bnx hb hb9a
    clear hb9a k1
    have k1 : wa.cell? ⟨g6, 1, none⟩ = some (.slice A2 k c2) := blk_cell hbox rfl
    by_cases hbig : mx < vx
    · have hbig' : (mx : Int) < (vx : Int) := by omega
      have E2 : Hid (5 = valTE b) := Lib.hid (by rw [HM.out, Hst.out]; exact (valTL_range HR4.out (by rw [← Hkx.out, ← Hsn.out]; exact hz) (by rw [← Hkx.out, ← Hsn.out]; exact HR5.out) (by rw [← Hkx.out, ← Hsn.out, ← Hmx.out, ← Hvx.out]; exact hbig)).symm)
      go_wp2_with (first | (with_reducible refine stop_loadT 33 ?_) | (with_reducible refine stop_storeT 33 ?_))
      refine go_ (wpList_store_row rfl _ _ _ rfl w.heap.size #[.int .i64 0, .slice none 0 0] rfl rfl _ _ hres (by kernel_rfl) rfl (by kernel_rfl) ?_)
      have hres5 := setRow_heap _ _ _ (#[.int .i64 0, .slice none 0 0] : Array Value) _ _ hres
      have hb5 := below_setRow hb (Nat.le_refl _) (#[.int .i64 0, .slice none 0 0] : Array Value)
      generalize (wa.setRow w.heap.size #[.int .i64 0, .slice none 0 0]) = v5 at *
      have e0 := blk_cell (i := 0) (v := .int .i64 0) hres5 rfl
      have e1 := blk_cell (i := 1) (v := .slice none 0 0) hres5 rfl
      go_wp2
      exact bodyPost_ret (v := .tuple #[.agg #[.int .i64 0, .slice none 0 0], .int .i64 5]) (by simp [results, go_sem, e0, e1]) rfl (valT_out (oE := 5) E2.out (by omega) hb5)
    have hbig' : ¬ (mx : Int) < (vx : Int) := by omega
    have hwv : IntKind.i64.wrap (vx : Int) = vx := by rw [IntKind.wrap_i64]; omega
    have Hstep : Hid (valTL 32 (b.drop 4) = ((valTL m (b.drop (p + 4 + sn))).1, (pre ++ [((kx : Int), (vx : Int))]) ++ (valTL m (b.drop (p + 4 + sn))).2)) := Lib.hid (by
      rw [Hst.out, valTL_step (k := (kx : Int)) (v := (vx : Int)) (R := b.drop (p + 4 + sn)) (by rw [Hkx.out]) (by rw [← Hsn.out, Hdl.out]; omega) (by rw [← Hsn.out, Hvx.out]) (by rw [← Hsn.out, Hdd.out, List.drop_drop]) (by rw [← Hsn.out]; exact hz) (by rw [← Hmx.out]; omega)]
      simp)
    have Hpl2 : Hid ((pre ++ [((kx : Int), (vx : Int))]).length = k + 1) := Lib.hid (by rw [List.length_append, Hpl.out]; rfl)
    have k1 : wa.cell? ⟨g6, 1, none⟩ = some (.slice A2 k c2) := blk_cell hbox rfl
    have hbn : Below wa.heap.size wa (wa.alloc (.cells #[.int .i64 kx, .int .i64 vx] 103)) := (Below.refl _ _).alloc (Nat.le_refl _) _
    have hnew : Rd (wa.alloc (.cells #[.int .i64 kx, .int .i64 vx] 103)) (wa.heap.size + 1) 2 (some ⟨wa.heap.size, 0, none⟩) 1 1 (prC ((kx : Int), (vx : Int))) := by
      have := (RdR.lit (size := 2) (e := 103) wa [prC ((kx : Int), (vx : Int))] #[.int .i64 kx, .int .i64 vx] rfl (by simp [prC]) (by simp [maxLen]) 1 rfl).rd (by omega)
      simpa using this
    have hresn := blk_old hres hbn (blk_lt hres)
    have hboxn := blk_old hbox hbn (blk_lt hbox)
    have hownn := own_up hown hbn (Nat.le_refl _)
    have hRn := hR.up (hbn.mono (Nat.le_trans hB hb.size))
    have hbb := bnx hb hbn
    go_wp2_with (at_builtin; refine stop_ ?_)
    clear k1 hbn hres hbox hown hb hR
    generalize (wa.alloc (.cells #[.int .i64 kx, .int .i64 vx] 103)) = wb at *
    refine go_ (wpList_appG (base := g6 + 1) (n := k) Tryz.underlying31 Hi1.out rfl (by omega) hownn rfl hnew rfl (prC_one _) (k := k + 1) rfl (prC_app _ _) (by unfold maxLen; omega) (by omega) (by have := blk_lt hboxn; omega) ?_)
    intro A7 c7 v7 hown7 hgr hob
    have hne6 : ∀ j, (Value.slice A2 k c2).ownBlock = some j → g6 < j := fun j hj => by have := (own_blk hownn hj).1; omega
    have hbox7 := (hgr.block _ (blk_lt hboxn) (fun e => by have := hne6 _ e.symm; omega)).trans hboxn
    have hres7 := (hgr.block _ (blk_lt hresn) (fun e => by have := hne6 _ e.symm; omega)).trans hresn
    have hb7 := Below.grown hbb hgr hbb.size (fun j hj => by have := hne6 j hj; omega)
    have hbB : Below B wb v7 := Below.grown (Below.refl B wb) hgr (Nat.le_trans hB hbb.size) (fun j hj => by have := hne6 j hj; omega)
    have hR7 := hRn.up hbB
    clear hgr hob hownn hboxn hresn hbb hnew hne6 hRn hbB
    have s1 : v7.cell? ⟨g6, 1, none⟩ = some (.slice A2 k c2) := blk_cell hbox7 rfl
    have s2 : v7.frozen? ⟨g6, 1, none⟩ = false := blk_free (i := 1) hbox7
    have hbox8 := blk_set (i := 1) hbox7 (.slice A7 (k + 1) c7)
    have haw8 : Aw (fun j => j = g6) v7 (v7.setCell ⟨g6, 1, none⟩ (.slice A7 (k + 1) c7)) := (Aw.refl _ _).set (p := ⟨g6, 1, none⟩) _ rfl
    have hres8 := haw8.keep hres7 (by omega)
    have hown8 := own_aw hown7 haw8 (fun j hj hu => by have := (own_blk hown7 hj).1; omega)
    have hb8 := below_aw20 hb7 haw8 (fun j hj => by omega) hb7.size
    have hR8 := hR7.up (below_aw20 (Below.refl B v7) haw8 (fun j hj => by omega) (Nat.le_trans hB hb7.size))
    clear hres7 hbox7 hown7 hb7 haw8 hR7
    go_wp2
    go_roundw
    case rel => exact ⟨p + 4 + sn, k + 1, m, pre ++ [((kx : Int), (vx : Int))], A7, c7, by first | rfl | go_num, by omega, by omega, Hpl2.out, hR8, hbox8, hres8, hown8, hb8, Hstep⟩
    case measure => simp [intOf]; omega

end Go.Proofs.YtmkidihcdljkiaaGreat
