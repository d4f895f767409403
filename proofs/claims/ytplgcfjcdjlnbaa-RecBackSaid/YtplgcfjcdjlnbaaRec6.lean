/-
  rec's eye: next and by, walked.
-/
import Derived.Test.YtplgcfjcdjlnbaaRec5
set_option linter.unusedSimpArgs false
set_option linter.unusedVariables false
namespace Go.Proofs.Ytplgcfjcdjlnbaa
open Go.RowKit NumLaw
attribute [local go_sem] Addr.add_mid

/-- An eye's block. -/
def EyeB (w : World) (g : Nat) (A : Option Addr) (n c k e : Nat) : Prop := w.heap[g]? = some (.cells #[.slice A n c, .int .i64 (k : Int), .int .i64 (e : Int)] 125)
/-- The error of a number that was read. -/
def nxE (q : Nat × Nat × Nat) (most : Nat) : Nat := if q.2.2 = 0 then if most < q.1 then 5 else 0 else q.2.2
theorem nextBad_any (g : Nat) (A : Option Addr) (n c k e most : Nat) (w : World) (h : EyeB w g A n c k e) (he : e ≠ 0) :
    Calls Try.prog 83 #[.pointer (some ⟨g, 0, none⟩), .int .u64 (most : Int)] w fun x w' => x = .returned (.int .u64 0) ∧ w = w' := by
  have c2 := blk_cell (i := 2) (v := .int .i64 (e : Int)) h rfl
  have he' : ¬ (e : Int) = 0 := by omega
  go_enter Try.func83, Try.ntmps83
  go_wp2
  go_ret
  exact ⟨rfl, rfl⟩
set_option maxRecDepth 10000 in
set_option maxHeartbeats 2000000 in
theorem next34_any (g : Nat) (A : Option Addr) (n c k B most : Nat) (b : List UInt8) (w : World) (hE : EyeB w g A n c k 0) (h : Rd w B 1 A n c (bv b)) (hB : B ≤ w.heap.size) (hk : k ≤ n) (hn : n ≤ 1000000) (hm : most < 18446744073709551616) :
    Calls Try.prog 83 #[.pointer (some ⟨g, 0, none⟩), .int .u64 (most : Int)] w fun x w' =>
      x = .returned (.int .u64 ((varT (b.drop k)).1 : Int)) ∧ EyeB w' g A n c (k + (varT (b.drop k)).2.1) (nxE (varT (b.drop k)) most) ∧ Aw (fun j => j = g) w w' := by
  have hlb := h.blen
  have hle := h.le
  have hmx := h.max
  unfold maxLen at hmx
  obtain ⟨i0, hi⟩ := info_parts u8_info
  have hcut : ∀ w, (Instr.slice 26 (.slice A n c) (some (.int .i64 (k : Int))) none none).run Try.prog w = .ok (.slice (cutA A c k 1) (n - k) (c - k)) w := fun w => run_cut_l (P := Try.prog) Try.underlying26 hi.1 hi.2.2.1 A n c k hk w
  have hd := h.up (w' := w.drew) (Below.refl _ _).drew
  have hd := hd.bdrop hk
  have htk := varyTake_any (cutA A c k 1) (n - k) (c - k) B (b.drop k) w.drew hd
  unfold RetTk at htk
  have hq : (varT (b.drop k)).2.1 ≤ n := by
    by_cases hz : (varT (b.drop k)).2.2 = 0
    · have := (varT_back hz).2.1
      rw [List.length_drop, hlb] at this
      omega
    · have := (varTL_none (b.drop k) 0 hz).2
      unfold varT
      omega
  have hu : (varT (b.drop k)).1 < 18446744073709551616 := by
    by_cases hz : (varT (b.drop k)).2.2 = 0
    · exact (varT_back hz).2.2.2
    · have := (varTL_none (b.drop k) 0 hz).1
      unfold varT
      omega
  generalize varT (b.drop k) = q at *
  obtain ⟨u, m, er⟩ := q
  simp only at htk hq hu ⊢
  have Hd := Lib.hid htk
  have hE2 : EyeB w.drew g A n c k 0 := hE
  have hA0 : Aw (fun j => j = g) w w.drew := (Aw.refl _ w).drew
  obtain ⟨kk, hkk⟩ : ∃ kk, kk = k + m := ⟨_, rfl⟩
  have hwk : IntKind.i64.wrap (kk : Int) = (kk : Int) := by rw [IntKind.wrap_i64]; omega
  have hwk2 : (k : Int) + (m : Int) = (kk : Int) := by omega
  have Hkk := Lib.hid hkk
  clear hkk
  clear htk hd hlb hi hle hmx
  have c2 := blk_cell (i := 2) (v := .int .i64 0) hE rfl
  have c0 : w.drew.cell? ⟨g, 0, none⟩ = _ := blk_cell (i := 0) (v := .slice A n c) hE rfl
  have c1 : w.drew.cell? ⟨g, 1, none⟩ = _ := blk_cell (i := 1) (v := .int .i64 (k : Int)) hE rfl
  go_enter Try.func83, Try.ntmps83
  go_wp2_with fail
  refine Ord.region_ (fun w' => EyeB w' g A n c k 0) false [] (by kernel_rfl) (by kernel_rfl) hE2 ?_
  generalize w.drew = w1 at *
  ((with_reducible refine Ord.e_p (v := ?_) ?_ ?_ ?_ ?_); rotate_left; (· exact rfl); (· kernel_rfl); (· intro w2; go_simp; try with_reducible rfl))
  (try simp only [Act.put, List.setIfInBounds_toArray, List.set_cons_zero, List.set_cons_succ])
  ((with_reducible refine Ord.e_p (v := ?_) ?_ ?_ ?_ ?_); rotate_left; (· exact rfl); (· kernel_rfl); (· intro w2; go_simp; try with_reducible rfl))
  (try simp only [Act.put, List.setIfInBounds_toArray, List.set_cons_zero, List.set_cons_succ])
  ((with_reducible refine Ord.e_p (v := ?_) ?_ ?_ ?_ ?_); rotate_left; (· exact rfl); (· kernel_rfl); (· intro w2; go_simp; try with_reducible rfl))
  (try simp only [Act.put, List.setIfInBounds_toArray, List.set_cons_zero, List.set_cons_succ])
  refine Ord.e_loadS Try.underlying26 rfl (fun w' hS => blk_cell (i := 0) (v := .slice A n c) (show EyeB w' g A n c k 0 from hS) rfl) hE2 rfl (by kernel_rfl) ?_
  (try simp only [Act.put, List.setIfInBounds_toArray, List.set_cons_zero, List.set_cons_succ])
  ((with_reducible refine Ord.e_p (v := ?_) ?_ ?_ ?_ ?_); rotate_left; (· exact rfl); (· kernel_rfl); (· intro w2; go_simp; try with_reducible rfl))
  (try simp only [Act.put, List.setIfInBounds_toArray, List.set_cons_zero, List.set_cons_succ])
  ((with_reducible refine Ord.e_p (v := ?_) ?_ ?_ ?_ ?_); rotate_left; (· exact rfl); (· kernel_rfl); (· intro w2; go_simp; try with_reducible rfl))
  (try simp only [Act.put, List.setIfInBounds_toArray, List.set_cons_zero, List.set_cons_succ])
  ((with_reducible refine Ord.e_p (v := ?_) ?_ ?_ ?_ ?_); rotate_left; (· exact rfl); (· kernel_rfl); (· intro w2; go_simp; try with_reducible rfl))
  (try simp only [Act.put, List.setIfInBounds_toArray, List.set_cons_zero, List.set_cons_succ])
  refine Ord.e_loadS Try.underlying3 rfl (fun w' hS => blk_cell (i := 1) (v := .int .i64 (k : Int)) (show EyeB w' g A n c k 0 from hS) rfl) hE2 rfl (by kernel_rfl) ?_
  (try simp only [Act.put, List.setIfInBounds_toArray, List.set_cons_zero, List.set_cons_succ])
  ((with_reducible refine Ord.e_p (v := ?_) ?_ ?_ ?_ ?_); rotate_left; (· exact rfl); (· kernel_rfl); (· intro w2; go_simp; try with_reducible rfl))
  (try simp only [Act.put, List.setIfInBounds_toArray, List.set_cons_zero, List.set_cons_succ])
  refine Ord.e_x rfl (by kernel_rfl) ?_
  go_wp2_with fail
  go_fit Hd.out
  rintro e w2 ⟨rfl, rfl⟩
  go_wp2_with fail
  refine Ord.Seg.go hE2 (fun h => by cases h) ?_
  (try simp only [Act.put, List.setIfInBounds_toArray, List.set_cons_zero, List.set_cons_succ])
  ((with_reducible refine Ord.e_p (v := ?_) ?_ ?_ ?_ ?_); rotate_left; (· exact rfl); (· kernel_rfl); (· intro w2; go_simp; try with_reducible rfl))
  (try simp only [Act.put, List.setIfInBounds_toArray, List.set_cons_zero, List.set_cons_succ])
  ((with_reducible refine Ord.e_p (v := ?_) ?_ ?_ ?_ ?_); rotate_left; (· exact rfl); (· kernel_rfl); (· intro w2; go_simp; try with_reducible rfl))
  (try simp only [Act.put, List.setIfInBounds_toArray, List.set_cons_zero, List.set_cons_succ])
  ((with_reducible refine Ord.e_p (v := ?_) ?_ ?_ ?_ ?_); rotate_left; (· exact rfl); (· kernel_rfl); (· intro w2; go_simp; try with_reducible rfl))
  (try simp only [Act.put, List.setIfInBounds_toArray, List.set_cons_zero, List.set_cons_succ])
  ((with_reducible refine Ord.e_p (v := ?_) ?_ ?_ ?_ ?_); rotate_left; (· exact rfl); (· kernel_rfl); (· intro w2; go_simp; try with_reducible rfl))
  (try simp only [Act.put, List.setIfInBounds_toArray, List.set_cons_zero, List.set_cons_succ])
  ((with_reducible refine Ord.e_p (v := ?_) ?_ ?_ ?_ ?_); rotate_left; (· exact rfl); (· kernel_rfl); (· intro w2; go_simp; try with_reducible rfl))
  (try simp only [Act.put, List.setIfInBounds_toArray, List.set_cons_zero, List.set_cons_succ])
  ((with_reducible refine Ord.e_p (v := ?_) ?_ ?_ ?_ ?_); rotate_left; (· exact rfl); (· kernel_rfl); (· intro w2; go_simp; try with_reducible rfl))
  (try simp only [Act.put, List.setIfInBounds_toArray, List.set_cons_zero, List.set_cons_succ])
  ((with_reducible refine Ord.e_p (v := ?_) ?_ ?_ ?_ ?_); rotate_left; (· exact rfl); (· kernel_rfl); (· intro w2; go_simp; try with_reducible rfl))
  (try simp only [Act.put, List.setIfInBounds_toArray, List.set_cons_zero, List.set_cons_succ])
  refine Ord.e_nil ?_
  have f1 := blk_free (i := 1) hE2
  have f2 := blk_free (i := 2) hE2
  have c2' := blk_cell (i := 2) (v := .int .i64 0) hE2 rfl
  clear c2 hcut Hd
  by_cases hz : er = 0
  · subst hz
    by_cases hb : most < u
    · have hb' : (most : Int) < (u : Int) := by omega
      have g1 := blk_set (i := 2) hE2 (.int .i64 5)
      have k1 := blk_cell (i := 1) (v := .int .i64 (k : Int)) g1 rfl
      have k2 := blk_free (i := 1) g1
      have g2 := blk_set (i := 1) g1 (.int .i64 (kk : Int))
      have e5 : nxE (u, m, 0) most = 5 := by unfold nxE; rw [if_pos rfl, if_pos hb]
      have E5 := Lib.hid e5
      have hAA : Aw (fun j => j = g) w ((w1.setCell ⟨g, 2, none⟩ (.int .i64 5)).setCell ⟨g, 1, none⟩ (.int .i64 (kk : Int))) := (hA0.set (p := ⟨g, 2, none⟩) _ rfl).set (p := ⟨g, 1, none⟩) _ rfl
      clear e5 g1
      go_wp2
      go_ret
      exact ⟨rfl, by rw [E5.out, ← Hkk.out]; exact g2, hAA⟩
    · have hb' : ¬ (most : Int) < (u : Int) := by omega
      have g2 := blk_set (i := 1) hE2 (.int .i64 (kk : Int))
      have e5 : nxE (u, m, 0) most = 0 := by unfold nxE; rw [if_pos rfl, if_neg hb]
      have E5 := Lib.hid e5
      have hAA : Aw (fun j => j = g) w (w1.setCell ⟨g, 1, none⟩ (.int .i64 (kk : Int))) := hA0.set (p := ⟨g, 1, none⟩) _ rfl
      clear e5
      go_wp2
      go_ret
      exact ⟨rfl, by rw [E5.out, ← Hkk.out]; exact g2, hAA⟩
  · have hz' : ¬ (er : Int) = 0 := by omega
    have g1 := blk_set (i := 2) hE2 (.int .i64 (er : Int))
    have k1 := blk_cell (i := 1) (v := .int .i64 (k : Int)) g1 rfl
    have k2 := blk_free (i := 1) g1
    have g2 := blk_set (i := 1) g1 (.int .i64 (kk : Int))
    have e5 : nxE (u, m, er) most = er := by unfold nxE; rw [if_neg hz]
    have E5 := Lib.hid e5
    have hAA : Aw (fun j => j = g) w ((w1.setCell ⟨g, 2, none⟩ (.int .i64 (er : Int))).setCell ⟨g, 1, none⟩ (.int .i64 (kk : Int))) := (hA0.set (p := ⟨g, 2, none⟩) _ rfl).set (p := ⟨g, 1, none⟩) _ rfl
    clear e5 g1
    go_wp2
    go_ret
    exact ⟨rfl, by rw [E5.out, ← Hkk.out]; exact g2, hAA⟩

/-- The error of a number by which another one changes. -/
def byE (q : Nat × Nat × Nat) (x : Int) : Nat := if q.2.2 = 0 then if zagV q.1 = 0 ∨ x + zagV q.1 < -2147483648 ∨ 2147483647 < x + zagV q.1 then 5 else 0 else q.2.2
theorem zag_far {u : Nat} (h : 8589934592 < u) : zagV u < -4294967296 ∨ 4294967296 < zagV u := by
  unfold zagV
  split <;> omega
theorem i32_wrap_in {y : Int} (h : -2147483648 ≤ y ∧ y ≤ 2147483647) : IntKind.i32.wrap y = y := by rw [IntKind.wrap_i32]; omega
theorem i32_wrap_out {y : Int} (h : y < -2147483648 ∨ 2147483647 < y) : ¬ y = IntKind.i32.wrap y := by rw [IntKind.wrap_i32]; omega
theorem i32_wrap_rng (y : Int) : -2147483648 ≤ IntKind.i32.wrap y ∧ IntKind.i32.wrap y ≤ 2147483647 := by rw [IntKind.wrap_i32]; omega
set_option maxRecDepth 10000 in
set_option maxHeartbeats 2000000 in
theorem by34_any (g : Nat) (A : Option Addr) (n c k B : Nat) (x : Int) (b : List UInt8) (w : World) (hE : EyeB w g A n c k 0) (h : Rd w B 1 A n c (bv b)) (hB : B ≤ w.heap.size) (hk : k ≤ n) (hn : n ≤ 1000000) (hx : in32 x) :
    Calls Try.prog 84 #[.pointer (some ⟨g, 0, none⟩), .int .i32 x] w fun e w' => ∃ z : Int,
      e = .returned (.int .i32 z) ∧ in32 z ∧ EyeB w' g A n c (k + (varT (b.drop k)).2.1) (byE (varT (b.drop k)) x) ∧ Aw (fun j => j = g) w w' ∧ (byE (varT (b.drop k)) x = 0 → z = x + zagV (varT (b.drop k)).1) := by
  have hz := varyZig_any 4294967296 w (by omega)
  rw [show ((zigV 4294967296 : Nat) : Int) = 8589934592 from rfl] at hz
  have hnx := next34_any g A n c k B 8589934592 b w hE h hB hk hn (by omega)
  rw [show ((8589934592 : Nat) : Int) = 8589934592 from rfl] at hnx
  have hu : (varT (b.drop k)).1 < 18446744073709551616 := by
    by_cases hz : (varT (b.drop k)).2.2 = 0
    · exact (varT_back hz).2.2.2
    · have := (varTL_none (b.drop k) 0 hz).1
      unfold varT
      omega
  have hu0 : (varT (b.drop k)).2.2 ≠ 0 → (varT (b.drop k)).1 = 0 := fun hz => (varTL_none (b.drop k) 0 hz).1
  unfold in32 at hx
  generalize varT (b.drop k) = q at *
  obtain ⟨u, m, er⟩ := q
  simp only at hnx hu hu0 ⊢
  have hzr := zag_in hu
  have hzg := fun w => varyZag_any u w hu
  obtain ⟨d, hd⟩ : ∃ d, d = zagV u := ⟨_, rfl⟩
  rw [← hd] at hzg hzr
  obtain ⟨y, hy⟩ : ∃ y, y = IntKind.i64.wrap (x + d) := ⟨_, rfl⟩
  obtain ⟨z, hzz⟩ : ∃ z, z = IntKind.i32.wrap y := ⟨_, rfl⟩
  have hzin : -2147483648 ≤ z ∧ z ≤ 2147483647 := by rw [hzz]; exact i32_wrap_rng y
  have Hby : Hid (nxE (u, m, er) 8589934592 = 0 → ((byE (u, m, er) x = if (d = 0 ∨ ¬ y = z) then 5 else 0) ∧ (¬ (d = 0 ∨ ¬ y = z) → z = x + d))) := Lib.hid (fun h0 => by
    unfold nxE at h0
    simp only at h0
    split at h0
    · rename_i her
      split at h0
      · cases h0
      · rename_i hfar
        have hdr : -4294967296 ≤ d ∧ d ≤ 4294967296 := by rw [hd]; unfold zagV; split <;> omega
        have hy2 : y = x + d := by rw [hy, IntKind.wrap_i64]; omega
        unfold byE
        simp only
        rw [if_pos her, ← hd]
        have hcond : (d = 0 ∨ x + d < -2147483648 ∨ 2147483647 < x + d) ↔ (d = 0 ∨ ¬ y = z) := by
          constructor
          · rintro (h | h)
            · exact .inl h
            · refine .inr ?_
              rw [hzz, hy2]
              exact i32_wrap_out h
          · rintro (h | h)
            · exact .inl h
            · by_cases hin : -2147483648 ≤ x + d ∧ x + d ≤ 2147483647
              · rw [hzz, hy2, i32_wrap_in hin] at h
                exact absurd rfl h
              · omega
        refine ⟨?_, fun h => ?_⟩
        · by_cases hc : d = 0 ∨ ¬ y = z
          · rw [if_pos hc, if_pos (hcond.2 hc)]
          · rw [if_neg hc, if_neg (fun h => hc (hcond.1 h))]
        · have h' : ¬ (d = 0 ∨ x + d < -2147483648 ∨ 2147483647 < x + d) := fun hh => h (hcond.1 hh)
          rw [hzz, hy2, i32_wrap_in (by omega)]
    · exact absurd h0 (by assumption))
  have Hbad : Hid (nxE (u, m, er) 8589934592 ≠ 0 → byE (u, m, er) x = nxE (u, m, er) 8589934592) := Lib.hid (fun h0 => by
    unfold nxE byE at *
    simp only at *
    split at h0
    · rename_i her
      split at h0
      · rename_i hfar
        rw [if_pos her, if_pos her, if_pos hfar]
        have := zag_far hfar
        rw [if_pos (by omega)]
      · exact absurd rfl h0
    · rename_i her
      rw [if_neg her, if_neg her])
  have Hd := Lib.hid hd
  have hsum : IntKind.i64.wrap (x + d) = y := hy.symm
  have hcv : IntKind.i32.wrap y = z := hzz.symm
  have Hnx := Lib.hid hnx
  generalize nxE (u, m, er) 8589934592 = ne at *
  clear hnx hd hy hzz hu0
  go_enter Try.func84, Try.ntmps84
  go_wp2_with fail
  go_fit hz
  rintro e w1 ⟨rfl, rfl⟩
  go_wp2_with fail
  go_fit Hnx.out
  rintro e w2 ⟨rfl, hE2, hA2⟩
  go_wp2_with fail
  go_fit (hzg w2)
  rintro e w3 ⟨rfl, rfl⟩
  have c2 := blk_cell (i := 2) (v := .int .i64 (ne : Int)) hE2 rfl
  have f2 := blk_free (i := 2) hE2
  clear hzg hz
  by_cases hne : ne = 0
  · obtain ⟨e1, e2⟩ := Hby.out hne
    subst hne
    by_cases hd0 : d = 0
    · rw [if_pos (.inl hd0)] at e1
      have g2 := blk_set (i := 2) hE2 (.int .i64 5)
      have E1 := Lib.hid e1
      have hAA : Aw (fun j => j = g) w (w2.setCell ⟨g, 2, none⟩ (.int .i64 5)) := hA2.set (p := ⟨g, 2, none⟩) _ rfl
      have E2 := Lib.hid e2
      clear e1 e2
      go_wp2
      go_ret
      exact ⟨x, rfl, hx, by rw [E1.out]; exact g2, hAA, fun h => by rw [E1.out] at h; cases h⟩
    · by_cases hyz : y = z
      · rw [if_neg (by rintro (h | h); exact hd0 h; exact h hyz)] at e1
        have E1 := Lib.hid e1
        have e3 := e2 (by rintro (h | h); exact hd0 h; exact h hyz)
        have E2 := Lib.hid e3
        clear e1 e2 e3
        go_wp2
        go_ret
        exact ⟨z, rfl, hzin, by rw [E1.out]; exact hE2, hA2, fun _ => by rw [← Hd.out]; exact E2.out⟩
      · rw [if_pos (.inr hyz)] at e1
        have hyb : (y != z) = true := bne_iff_ne.2 hyz
        have g2 := blk_set (i := 2) hE2 (.int .i64 5)
        have E1 := Lib.hid e1
        have hAA : Aw (fun j => j = g) w (w2.setCell ⟨g, 2, none⟩ (.int .i64 5)) := hA2.set (p := ⟨g, 2, none⟩) _ rfl
        have E2 := Lib.hid e2
        clear e1 e2
        go_wp2
        go_ret
        exact ⟨z, rfl, hzin, by rw [E1.out]; exact g2, hAA, fun h => by rw [E1.out] at h; cases h⟩
  · have e1 := Hbad.out hne
    have hne' : ¬ (ne : Int) = 0 := by omega
    have E1 := Lib.hid e1
    have HN := Lib.hid hne
    clear e1 hne
    go_wp2
    go_ret
    exact ⟨z, rfl, hzin, by rw [E1.out]; exact hE2, hA2, fun h => by rw [E1.out] at h; exact absurd h HN.out⟩

end Go.Proofs.Ytplgcfjcdjlnbaa
