/-
  Several texts in one: Blk8 BlkOpen.
-/
import Derived.Test.YtplgcfjcdjlnbaaKGQ
import Derived.Test.YtplgcfjcdjlnbaaKGP
import Derived.Test.YtplgcfjcdjlnbaaKGB
/-
  Entries, Same, knows of layer 35 walked (printed by gen_blk8.py).
-/
set_option linter.unusedSimpArgs false
set_option linter.unusedVariables false
namespace Go.Proofs.Ytplgcfjcdjlnbaa
open Go.RowKit NumLaw CrcLaw
attribute [local go_sem] Addr.add_mid
attribute [-go_sem] run_eql_struct run_neq_struct

theorem RdE.v12 {w : World} {B : Nat} {A : Option Addr} {n c : Nat} {L : List En} (h : RdE w B A n c L) : ∀ x ∈ L, x.V.length = 12 := fun x hx => by
  have := h.2.1 (enC x) (List.mem_map.2 ⟨x, hx, rfl⟩)
  unfold enC rcC at this
  simp at this
  omega
theorem en_guard : Try.prog.eqGuardType Try.prog.depth 46 = false := by kernel_rfl
theorem take_ne {α : Type} {a b : List α} {k : Nat} {x y : α} (hx : a[k]? = some x) (hy : b[k]? = some y) (h : x ≠ y) : a ≠ b := fun e => by
  subst e
  rw [hx] at hy
  injection hy with hy
  exact h hy
set_option maxRecDepth 10000 in
set_option maxHeartbeats 4000000 in
theorem entries_any (A : Option Addr) (n c : Nat) (A' : Option Addr) (n' c' : Nat) (L L' : List En) (B : Nat) (w : World) (h : RdE w B A n c L) (h' : RdE w B A' n' c' L') (hB : B ≤ w.heap.size) :
    Calls Try.prog 96 #[.slice A n c, .slice A' n' c'] w fun e w' => e = .returned (.bool (decide (L = L'))) ∧ Below w.heap.size w w' := by
  have hl := h.len
  have hl' := h'.len
  have hmx := h.2.2.2.1
  have hle := h.2.2.1
  have hmx' := h'.2.2.2.1
  have hle' := h'.2.2.1
  unfold maxLen at hmx hmx'
  have hv := h.v12
  have hv' := h'.v12
  have Hl := Lib.hid hl
  have Hl' := Lib.hid hl'
  have Hv := Lib.hid hv
  have Hv' := Lib.hid hv'
  clear hl hl' hv hv'
  by_cases hn : n = n'
  case neg =>
    have hd : decide (L = L') = false := decide_eq_false (fun e => hn (by rw [← Hl.out, ← Hl'.out, e]))
    have Hd := Lib.hid hd
    have hn' : ¬ (n : Int) = (n' : Int) := by omega
    have hnq : ((n : Int) != (n' : Int)) = true := by simp; omega
    clear hd
    go_enter Try.func96, Try.ntmps96
    go_wp2
    go_ret
    exact ⟨by rw [Hd.out]; rfl, Below.refl _ _⟩
  subst hn
  have qg := en_guard
  go_enter Try.func96, Try.ntmps96
  go_wp2_with fail
  go_loopw [5] (fun i wr => ∃ k : Nat, k ≤ n ∧ i = .int .i64 k ∧ Below w.heap.size w wr ∧ Hid (L.take k = L'.take k)) (fun i _ => n - (intOf i).toNat)
  case atStart => exact ⟨0, by omega, rfl, Below.refl _ _, Lib.hid rfl⟩
  case round =>
    obtain ⟨k, hk, rfl, hb, ht⟩ := hrel
    by_cases hlt : k < n
    · have hlt' : (k : Int) < (n : Int) := by omega
      obtain ⟨g, off, x, rfl, hg, hx, hr⟩ := h.at_ hlt
      obtain ⟨g', off', y, rfl, hg', hy, hr'⟩ := h'.at_ hlt
      have HxV := Lib.hid (Hv.out x (List.mem_of_getElem? hx))
      have HyV := Lib.hid (Hv'.out y (List.mem_of_getElem? hy))
      have Hr := Lib.hid (show ∀ wq, Below w.heap.size w wq → wq.rangeAt g (off + k * 14) (enC x) from fun wq hbq j v hv => (hbq.cell (p := ⟨g, off + k * 14 + j, none⟩) (show g < w.heap.size by omega)).trans (hr j v hv))
      have Hr' := Lib.hid (show ∀ wq, Below w.heap.size w wq → wq.rangeAt g' (off' + k * 14) (enC y) from fun wq hbq j v hv => (hbq.cell (p := ⟨g', off' + k * 14 + j, none⟩) (show g' < w.heap.size by omega)).trans (hr' j v hv))
      have hq := fun w => en_neq x y HxV.out HyV.out w
      have Hne := Lib.hid (take_ne hx hy)
      have Htx := Lib.hid (take_succ hx)
      have Hty := Lib.hid (take_succ hy)
      clear hx hy hr hr'
      go_wp2_with fail
      refine Ord.region_ (fun w' => Below w.heap.size w w') false [] (by kernel_rfl) (by kernel_rfl) hb.drew ?_
      replace hb := hb.drew
      generalize wr.drew = wd at *
      ((with_reducible refine Ord.e_p (v := ?_) ?_ ?_ ?_ ?_); rotate_left; (· exact rfl); (· kernel_rfl); (· intro w2; go_simp; try with_reducible rfl))
      (try simp only [Act.put, List.setIfInBounds_toArray, List.set_cons_zero, List.set_cons_succ])
      ((with_reducible refine Ord.e_p (v := ?_) ?_ ?_ ?_ ?_); rotate_left; (· exact rfl); (· kernel_rfl); (· intro w2; go_simp; try with_reducible rfl))
      (try simp only [Act.put, List.setIfInBounds_toArray, List.set_cons_zero, List.set_cons_succ])
      ((with_reducible refine Ord.e_p (v := ?_) ?_ ?_ ?_ ?_); rotate_left; (· exact rfl); (· kernel_rfl); (· intro w2; go_simp; try with_reducible rfl))
      (try simp only [Act.put, List.setIfInBounds_toArray, List.set_cons_zero, List.set_cons_succ])
      refine Ord.e_rowS (b := g) (o := off + k * 14) Try.underlying46 rfl (by rw [enC_len x HxV.out]; kernel_rfl) rfl (by unfold enC; simp) (fun w' hS => Hr.out w' hS) hb (by kernel_rfl) ?_
      (try simp only [Act.put, List.setIfInBounds_toArray, List.set_cons_zero, List.set_cons_succ])
      ((with_reducible refine Ord.e_p (v := ?_) ?_ ?_ ?_ ?_); rotate_left; (· exact rfl); (· kernel_rfl); (· intro w2; go_simp; try with_reducible rfl))
      (try simp only [Act.put, List.setIfInBounds_toArray, List.set_cons_zero, List.set_cons_succ])
      ((with_reducible refine Ord.e_p (v := ?_) ?_ ?_ ?_ ?_); rotate_left; (· exact rfl); (· kernel_rfl); (· intro w2; go_simp; try with_reducible rfl))
      (try simp only [Act.put, List.setIfInBounds_toArray, List.set_cons_zero, List.set_cons_succ])
      ((with_reducible refine Ord.e_p (v := ?_) ?_ ?_ ?_ ?_); rotate_left; (· exact rfl); (· kernel_rfl); (· intro w2; go_simp; try with_reducible rfl))
      (try simp only [Act.put, List.setIfInBounds_toArray, List.set_cons_zero, List.set_cons_succ])
      refine Ord.e_rowS (b := g') (o := off' + k * 14) Try.underlying46 rfl (by rw [enC_len y HyV.out]; kernel_rfl) rfl (by unfold enC; simp) (fun w' hS => Hr'.out w' hS) hb (by kernel_rfl) ?_
      (try simp only [Act.put, List.setIfInBounds_toArray, List.set_cons_zero, List.set_cons_succ])
      ((with_reducible refine Ord.e_p (v := ?_) ?_ ?_ ?_ ?_); rotate_left; (· exact rfl); (· kernel_rfl); (· intro w2; go_simp; try with_reducible rfl))
      (try simp only [Act.put, List.setIfInBounds_toArray, List.set_cons_zero, List.set_cons_succ])
      refine Ord.e_nil ?_
      clear hq
      by_cases hxy : x = y
      · subst hxy
        have hxb : (!decide (x = x)) = false := by simp
        have Ht2 : Hid (L.take (k + 1) = L'.take (k + 1)) := Lib.hid (by rw [Htx.out, Hty.out, ht.out])
        go_wp2
        go_roundw
        case rel => exact ⟨k + 1, by omega, by go_num, hb, Ht2⟩
        case measure => simp [intOf]; omega
      · have hd : decide (L = L') = false := decide_eq_false (Hne.out hxy)
        have Hd := Lib.hid hd
        rw [show (!decide (x = y)) = true by rw [decide_eq_false hxy]; rfl]
        clear hd
        go_wp2
        go_ret
        exact ⟨by rw [Hd.out]; rfl, hb⟩
    · obtain rfl : k = n := by omega
      have hd : decide (L = L') = true := decide_eq_true (by
        have := ht.out
        rwa [List.take_of_length_le (by rw [Hl.out]; exact Nat.le_refl _), List.take_of_length_le (by rw [Hl'.out]; exact Nat.le_refl _)] at this)
      have Hd := Lib.hid hd
      clear hd
      go_wp2
      go_ret
      exact ⟨by rw [Hd.out]; rfl, hb⟩
set_option maxRecDepth 10000 in
set_option maxHeartbeats 4000000 in
theorem same35_any (no : Nat) (A : Option Addr) (n c : Nat) (no' : Nat) (A' : Option Addr) (n' c' : Nat) (L L' : List En) (B : Nat) (w : World) (h : RdE w B A n c L) (h' : RdE w B A' n' c' L') (hB : B ≤ w.heap.size) :
    Calls Try.prog 41 #[.agg #[.int .u32 (no : Int), .slice A n c], .agg #[.int .u32 (no' : Int), .slice A' n' c']] w fun e w' => e = .returned (.bool (decide (no = no' ∧ L = L'))) ∧ Below w.heap.size w w' := by
  obtain ⟨a0, a1, hs, hb⟩ := al2 w (.cells #[.int .u32 (no : Int), .slice A n c] 41) (.cells #[.int .u32 (no' : Int), .slice A' n' c'] 41)
  have hb' : ∀ w1, Below w.heap.size w w1 → RdE w1 B A n c L ∧ RdE w1 B A' n' c' L' := fun w1 h1 => ⟨h.up (h1.mono hB), h'.up (h1.mono hB)⟩
  go_enter Try.func41, Try.ntmps41
  go_wp2_with (with_reducible refine stop_loadT 22 ?_)
  (try rw [hs])
  generalize ((w.alloc (.cells #[.int .u32 (no : Int), .slice A n c] 41)).alloc (.cells #[.int .u32 (no' : Int), .slice A' n' c'] 41)) = w1 at *
  have c0 := blk_cell (i := 0) (v := .int .u32 (no : Int)) a0 rfl
  have c1 := blk_cell (i := 1) (v := .slice A n c) a0 rfl
  have d0 := blk_cell (i := 0) (v := .int .u32 (no' : Int)) a1 rfl
  have d1 := blk_cell (i := 1) (v := .slice A' n' c') a1 rfl
  obtain ⟨r1, r2⟩ := hb' w1 hb
  have He := Lib.hid (entries_any A n c A' n' c' L L' B w1 r1 r2 (Nat.le_trans hB hb.size))
  clear r1 r2 hb'
  refine go_ ?_
  by_cases hn : no = no'
  · subst hn
    have hnq : ((no : Int) == (no : Int)) = true := by simp
    go_wp2_with fail
    go_fit He.out
    rintro e w2 ⟨rfl, hb2⟩
    go_wp2
    go_ret
    exact ⟨by simp, bnx hb hb2⟩
  · have hn' : ¬ (no : Int) = (no' : Int) := by omega
    have hnq : ((no : Int) == (no' : Int)) = false := by simp; omega
    have hd : decide (no = no' ∧ L = L') = false := decide_eq_false (fun e => hn e.1)
    have Hd := Lib.hid hd
    clear hd
    go_wp2
    go_ret
    exact ⟨by rw [Hd.out]; rfl, hb⟩
theorem num35_any (n : Int) (w : World) : Calls Try.prog 36 #[.int .i64 n] w fun e w' => e = .returned (.int .i64 n) ∧ w = w' := by
  go_enter Try.func36, Try.ntmps36
  go_wp2
  go_ret
  exact ⟨rfl, rfl⟩
def knE : En := ⟨true, 0, z12⟩
theorem knE_ent : entB [knE] = 75 :: recK 0 z12 := by
  show layB 0 z12L knE ++ [] = _
  rw [List.append_nil]
  unfold layB
  rw [if_pos (show knE.key = true from rfl)]
  rfl
theorem knE_len : (entB [knE]).length = 53 := by rw [knE_ent, List.length_cons, recK_len0 0 z12 rfl]
theorem knE_q : ∀ x ∈ [knE], EnQ x := fun x hx => by
  rw [List.mem_singleton.1 hx]
  exact ⟨by decide, rfl, z12_32⟩
theorem knE_put : putE [knE] = 0 := by
  rw [putE_first (x := knE) rfl, knE_len]
  rfl
theorem knE_putB : (putB 0 [knE]).length = 256 ∧ (putB 0 [knE])[0]? = some 76 ∧ (putB 0 [knE])[6]? = some 75 := by
  have e : putB 0 [knE] = pageB 0 [knE] ++ tailN (pageB 0 [knE]) := by unfold putB; rw [if_pos knE_put]
  have hl : (pageB 0 [knE]).length = 254 := pageB_len (by rw [knE_len]; omega)
  refine ⟨by rw [e, List.length_append, hl]; rfl, ?_, ?_⟩
  · rw [e, List.getElem?_append_left (by omega)]; rfl
  · rw [e, List.getElem?_append_left (by omega)]
    unfold pageB
    rw [knE_ent]
    rfl
theorem kn_row : (enC knE).toArray = #[.bool true, .int .u32 0, .int .i32 0, .int .i32 0, .int .i32 0, .int .i32 0, .int .i32 0, .int .i32 0, .int .i32 0, .int .i32 0, .int .i32 0, .int .i32 0, .int .i32 0, .int .i32 0] := rfl
set_option maxRecDepth 10000 in
set_option maxHeartbeats 4000000 in
theorem knows35 (w : World) : Calls Try.prog 31 #[] w fun e w' => e = .returned (.bool true) ∧ Below w.heap.size w w' := by
  have hb1 : Below w.heap.size w (w.alloc (.cells #[.bool true, .int .u32 0, .int .i32 0, .int .i32 0, .int .i32 0, .int .i32 0, .int .i32 0, .int .i32 0, .int .i32 0, .int .i32 0, .int .i32 0, .int .i32 0, .int .i32 0, .int .i32 0] 46)) := (Below.refl _ _).alloc (Nat.le_refl _) _
  have hr1 : ∀ w : World, RdE (w.alloc (.cells #[.bool true, .int .u32 0, .int .i32 0, .int .i32 0, .int .i32 0, .int .i32 0, .int .i32 0, .int .i32 0, .int .i32 0, .int .i32 0, .int .i32 0, .int .i32 0, .int .i32 0, .int .i32 0] 46)) (w.heap.size + 1) (some ⟨w.heap.size, 0, none⟩) 1 1 [knE] := fun w => RdR.lit (size := 14) w [enC knE] _ (by rw [← kn_row]; simp) (by intro r hr; rw [List.mem_singleton.1 hr]; exact enC_len knE rfl) (by simp [maxLen]) 1 rfl
  have hput := blkPut_any 0 (some ⟨w.heap.size, 0, none⟩) 1 1 (w.heap.size + 1) [knE] _ (by omega) (hr1 w) (by simp) knE_q (by omega)
  rw [knE_put] at hput
  obtain ⟨p1, p2, p3⟩ := knE_putB
  have hsz := fun w => bsize_any (some ⟨w.heap.size, 0, none⟩) 1 1 (w.heap.size + 1) [knE] _ (hr1 w) (by simp) knE_q (by omega)
  rw [knE_len] at hsz
  generalize putB 0 [knE] = P at *
  have P1 := Lib.hid p1
  have P2 := Lib.hid p2
  have P3 := Lib.hid p3
  have Hsz := Lib.hid hsz
  have Hput := Lib.hid hput
  clear p1 p2 p3 hsz hput hr1
  go_enter Try.func31, Try.ntmps31
  go_wp2_with fail
  go_fit Hput.out
  rintro e w2 ⟨A2, c2, n2, rfl, own2, hb12⟩
  have hl2 := own_len own2
  rw [P1.out] at hl2
  subst hl2
  obtain ⟨g, rfl, hg1, hg2, hcell⟩ := own_at own2 (by omega)
  have k0 : w2.cell? ⟨g, 0, none⟩ = some (.int .u8 76) := hcell 0 _ (bv_at P2.out)
  have k6 : w2.cell? ⟨g, 6, none⟩ = some (.int .u8 75) := hcell 6 _ (bv_at P3.out)
  have hb2 := bnx hb1 hb12
  clear hb12 own2 hcell hb1
  go_wp2_with fail
  have hbx : Below w2.heap.size w2 (w2.alloc (.cells #[.bool true, .int .u32 0, .int .i32 0, .int .i32 0, .int .i32 0, .int .i32 0, .int .i32 0, .int .i32 0, .int .i32 0, .int .i32 0, .int .i32 0, .int .i32 0, .int .i32 0, .int .i32 0] 46)) := (Below.refl _ _).alloc (Nat.le_refl _) _
  go_fit (Hsz.out w2)
  rintro e w4 ⟨rfl, hb4⟩
  replace hb4 := bnx hbx hb4
  replace k0 := (hb4.cell (p := ⟨g, 0, none⟩) hg2).trans k0
  replace k6 := (hb4.cell (p := ⟨g, 6, none⟩) hg2).trans k6
  replace hb2 := bnx hb2 hb4
  clear hb4 hbx hg1 hg2
  go_wp2_with fail
  go_fit (num35_any 0 w4)
  rintro e w5 ⟨rfl, rfl⟩
  go_wp2
  go_ret
  exact ⟨rfl, hb2⟩

end Go.Proofs.Ytplgcfjcdjlnbaa

/-
  A block, and a record's entry, that came in, opened.
-/
set_option linter.unusedSimpArgs false
set_option linter.unusedVariables false
namespace Go.Proofs.Ytplgcfjcdjlnbaa
open Go.RowKit Go.ChangeShapes Go.WideShapes Go.ChangeAt

section
variable {H : Type} {enc : TypeId × Value → H} {W : World}
set_option maxRecDepth 10000 in
theorem en_of (m : Nat) (cs : List Value) (y : DataW H × List MemPlace) (hl : cs.length = 14) (h : DataW.trod enc Try.prog W 0 (fun _ => true) true m 46 cs = some y) :
    ∃ x : En, EnQ x ∧ cs = enC x := by
  match cs, hl with
  | c0 :: cs, hl =>
    have hl3 : cs.length = 13 := by simpa using hl
    obtain ⟨xs, k, _, _, _, hxl, hfs⟩ := DataW.trod_struct Try.underlying46 h
    have hxl : xs.length = 2 := hxl
    have t0 := hfs 0 _ rfl
    rw [List.getElem?_eq_getElem (by omega)] at t0
    have t0 : DataW.trod enc Try.prog W 0 (fun _ => true) true k 4 [c0] = some xs[0] := t0
    obtain ⟨b, e0, _⟩ := DataW.trod_bool Try.underlying4 t0
    injection e0 with e0
    subst e0
    have t1 := hfs 1 _ rfl
    rw [List.getElem?_eq_getElem (by omega)] at t1
    have t1 : DataW.trod enc Try.prog W 0 (fun _ => true) true k 25 (cs.take 13) = some xs[1] := t1
    rw [List.take_of_length_le (by omega)] at t1
    obtain ⟨t, V, h1, h2, h3, rfl⟩ := rec_of k cs xs[1] hl3 t1
    exact ⟨⟨b, t, V⟩, ⟨h1, h2, h3⟩, rfl⟩
set_option maxRecDepth 10000 in
theorem open_block {b0 : Nat} {v : Value} {d : DataW H} {p : List MemPlace} (hv : Value.okWide Try.prog W .any b0 41 v) (h : DataW.Trod enc Try.prog W 0 (fun _ => true) true 41 v d p) :
    ∃ (no : Nat) (A : Option Addr) (n c : Nat) (L : List En), v = .agg #[.int .u32 (no : Int), .slice A n c] ∧ RdE W W.heap.size A n c L ∧ no < 4294967296 ∧ ∀ x ∈ L, EnQ x := by
  obtain ⟨cs, rfl, hs, hat⟩ := open_row Try.underlying41 (by kernel_rfl) (by kernel_rfl) hv h
  obtain ⟨u0, m0, y0, c0, t0⟩ := hat 0 _ rfl
  obtain ⟨u1, m1, y1, c1, t1⟩ := hat 1 _ rfl
  obtain ⟨z0, e0, _, w0⟩ := DataW.trod_int Try.underlying22 t0
  obtain ⟨A, n, c, rfl, hn, hc, hel⟩ := cell_els Try.underlying39 Try.underlying46 (sz := 14) (by kernel_rfl) (by omega) t1
  injection e0 with e0
  subst e0
  obtain ⟨L, hr, hq⟩ := rows_of (C := enC) (Q := EnQ) (fun x => by
    by_cases hx : EnQ x
    · exact .inl (enC_len x hx.2.1)
    · exact .inr hx) hn hc (fun m cs y hl ht => en_of m cs y hl ht) hel
  have hu := bounds_u32 w0
  refine ⟨z0.toNat, A, n, c, L, ?_, hr, by omega, hq⟩
  have hs2 : cs.size = 2 := hs
  rw [show ((z0.toNat : Nat) : Int) = z0 by omega]
  congr 1
  apply Array.ext
  · simpa using hs2
  · intro i h1 h2
    have h2 : i < 2 := by simpa using h2
    match i, h2 with
    | 0, _ => simpa [Array.getElem?_eq_getElem h1] using c0
    | 1, _ => simpa [Array.getElem?_eq_getElem h1] using c1
end

end Go.Proofs.Ytplgcfjcdjlnbaa
