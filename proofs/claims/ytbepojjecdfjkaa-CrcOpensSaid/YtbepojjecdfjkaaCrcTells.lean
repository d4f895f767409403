/-
  The laws CrcTells and CrcOpens walked: each returns true and turns nothing that was there.
-/
import Derived.Test.YtbepojjecdfjkaaCrcKnows
import Derived.Test.YtbepojjecdfjkaaCrcOpen
set_option linter.unusedSimpArgs false
set_option linter.unusedVariables false
namespace Go.Proofs.Ytbepojjecdfjkaa
open Go.RowKit CrcLaw

theorem short_ne {l : List UInt8} (h : l.length < 2) : moreN 65535 l ≠ 0 := by
  intro h0
  rw [moreN_eq] at h0
  have hn := num_lt l
  have h1 : num l < 65536 := by
    rcases (by omega : l.length = 0 ∨ l.length = 1) with h' | h' <;> rw [h'] at hn <;> simp at hn <;> omega
  have h2 := xor_zero_eq (Tn_zero_of _ (xor_lt (by omega) h1) h0)
  rcases (by omega : l.length = 0 ∨ l.length = 1) with h' | h' <;> rw [h'] at hn <;> simp at hn <;> omega
theorem openA_any (A : Option Addr) (n c B : Nat) (l : List UInt8) (w : World) (h : Rd w B 1 A n c (bv l)) (hB : B ≤ w.heap.size) (hn : n ≤ 1000000) : Calls Try.prog 16 #[.slice A n c] w (RetO w (openL l) (openB l)) := by
  rcases Nat.lt_or_ge n 2 with h2 | h2
  · have hz := short_ne (l := l) (by rw [h.blen]; exact h2)
    have e1 : openL l = [] := by simp [openL, hz]
    have e2 : openB l = false := by simp [openB, hz]
    rw [e1, e2]
    exact open_short A n c w h2
  · obtain ⟨m, rfl⟩ : ∃ m, n = m + 2 := ⟨n - 2, by omega⟩
    exact open_any A m c B l w h hB (by omega)
theorem ropenA_any (A : Option Addr) (n c B : Nat) (l : List UInt8) (w : World) (h : Rd w B 1 A n c (bv l)) (hB : B ≤ w.heap.size) (hn : n ≤ 1000000) : Calls Try.prog 17 #[.slice A n c] w (RetO w (openL l) (openB l)) := by
  rcases Nat.lt_or_ge n 2 with h2 | h2
  · have hz := short_ne (l := l) (by rw [h.blen]; exact h2)
    have e1 : openL l = [] := by simp [openL, hz]
    have e2 : openB l = false := by simp [openB, hz]
    rw [e1, e2]
    exact ropen_short A n c w h2
  · obtain ⟨m, rfl⟩ : ∃ m, n = m + 2 := ⟨n - 2, by omega⟩
    exact ropen_any A m c B l w h hB (by omega)

set_option maxHeartbeats 1000000 in
theorem tells_walk (c x : Nat) (A : Option Addr) (n cap : Nat) (l : List UInt8) (w : World) (hc : c < 65536) (hx : x < 256) (h : Rd w w.heap.size 1 A n cap (bv l)) :
    Calls Try.prog 4 #[.int .u16 c, .int .u8 x, .slice A n cap] w fun e w' => e = .returned (.bool true) ∧ Below w.heap.size w w' := by
  have m3 := h.max
  have m1 := h.le
  unfold maxLen at m3
  by_cases t1 : 2000 < n
  · go_enter Try.func4, Try.ntmps4
    go_wp2_with fail
    refine (knows05 _).mono ?_
    rintro e w1 ⟨rfl, hb1⟩
    go_wp2
    go_ret
    exact ⟨rfl, hb1⟩
  go_enter Try.func4, Try.ntmps4
  go_wp2_with fail
  refine (knows05 _).mono ?_
  rintro e w1 ⟨rfl, hb1⟩
  go_wp2
  refine Ord.region_ true (by kernel_rfl) (by kernel_rfl) ?_
  have hb2 : Below w.heap.size w w1.drew := hb1.drew
  clear hb1
  generalize w1.drew = w2 at *
  clear w1
  repeat (first | (refine Ord.e_p (v := ?_) rfl (by rfl) ?_ ?_; rotate_left; · (intro w2; go_simp; try with_reducible rfl)) | (refine Ord.e_u (by rfl) ?_)); (try simp only [Act.put, List.setIfInBounds_toArray, List.set_cons_zero, List.set_cons_succ])
  refine Ord.e_x rfl (by rfl) ?_
  go_wp2_with fail
  go_fit (step_any c x w2 hc hx)
  rintro e w3 ⟨rfl, rfl⟩
  go_wp2_with fail
  refine Ord.Seg.go (fun _ => Below.refl _ _) ?_
  (try simp only [Act.put, List.setIfInBounds_toArray, List.set_cons_zero, List.set_cons_succ])
  repeat (first | (refine Ord.e_p (v := ?_) rfl (by rfl) ?_ ?_; rotate_left; · (intro w2; go_simp; try with_reducible rfl)) | (refine Ord.e_u (by rfl) ?_)); (try simp only [Act.put, List.setIfInBounds_toArray, List.set_cons_zero, List.set_cons_succ])
  refine Ord.e_x rfl (by rfl) ?_
  go_wp2_with fail
  go_fit (rstep_any c x w2 hc hx)
  rintro e w3 ⟨rfl, rfl⟩
  go_wp2_with fail
  refine Ord.Seg.go (fun _ => Below.refl _ _) ?_
  (try simp only [Act.put, List.setIfInBounds_toArray, List.set_cons_zero, List.set_cons_succ])
  repeat (first | (refine Ord.e_p (v := ?_) rfl (by rfl) ?_ ?_; rotate_left; · (intro w2; go_simp; try with_reducible rfl)) | (refine Ord.e_u (by rfl) ?_)); (try simp only [Act.put, List.setIfInBounds_toArray, List.set_cons_zero, List.set_cons_succ])
  refine Ord.e_x rfl (by rfl) ?_
  go_wp2_with fail
  go_fit (more_any c A n cap _ l w2 hc (h.nx hb2) (Nat.le_refl _))
  rintro e w3 ⟨rfl, hb3⟩
  go_wp2_with fail
  refine Ord.Seg.go (fun _ => hb3) ?_
  replace hb3 := bnx hb2 hb3
  clear hb2
  (try simp only [Act.put, List.setIfInBounds_toArray, List.set_cons_zero, List.set_cons_succ])
  repeat (first | (refine Ord.e_p (v := ?_) rfl (by rfl) ?_ ?_; rotate_left; · (intro w2; go_simp; try with_reducible rfl)) | (refine Ord.e_u (by rfl) ?_)); (try simp only [Act.put, List.setIfInBounds_toArray, List.set_cons_zero, List.set_cons_succ])
  refine Ord.e_x rfl (by rfl) ?_
  go_wp2_with fail
  go_fit (rmore_any c A n cap _ l w3 hc (h.nx hb3))
  rintro e w4 ⟨rfl, rfl⟩
  go_wp2_with fail
  refine Ord.Seg.go (fun _ => Below.refl _ _) ?_
  (try simp only [Act.put, List.setIfInBounds_toArray, List.set_cons_zero, List.set_cons_succ])
  repeat (first | (refine Ord.e_p (v := ?_) rfl (by rfl) ?_ ?_; rotate_left; · (intro w2; go_simp; try with_reducible rfl)) | (refine Ord.e_u (by rfl) ?_)); (try simp only [Act.put, List.setIfInBounds_toArray, List.set_cons_zero, List.set_cons_succ])
  refine Ord.e_x rfl (by rfl) ?_
  go_wp2_with fail
  refine Ord.Seg.go (fun _ => (Below.refl _ _).alloc (Nat.le_refl _) _) ?_
  (try simp only [Act.put, List.setIfInBounds_toArray, List.set_cons_zero, List.set_cons_succ])
  have H := of_any _ _ _ _ _ _ (RdL.lit1 (e := 23) (Nat.le_refl _) (h.nx hb3)) (by simp)
  simp only [World.size_alloc, List.flatten_cons, List.flatten_nil, List.append_nil] at H
  repeat (first | (refine Ord.e_p (v := ?_) rfl (by rfl) ?_ ?_; rotate_left; · (intro w2; go_simp; try with_reducible rfl)) | (refine Ord.e_u (by rfl) ?_)); (try simp only [Act.put, List.setIfInBounds_toArray, List.set_cons_zero, List.set_cons_succ])
  refine Ord.e_x rfl (by rfl) ?_
  go_wp2_with fail
  go_fit H
  clear H
  rintro e w4 ⟨rfl, hb4⟩
  go_wp2_with fail
  refine Ord.Seg.go (fun _ => by simpa using hb4) ?_
  replace hb4 := bnxa hb3 hb4
  clear hb3
  (try simp only [Act.put, List.setIfInBounds_toArray, List.set_cons_zero, List.set_cons_succ])
  repeat (first | (refine Ord.e_p (v := ?_) rfl (by rfl) ?_ ?_; rotate_left; · (intro w2; go_simp; try with_reducible rfl)) | (refine Ord.e_u (by rfl) ?_)); (try simp only [Act.put, List.setIfInBounds_toArray, List.set_cons_zero, List.set_cons_succ])
  refine Ord.e_x rfl (by rfl) ?_
  go_wp2_with fail
  go_fit (rof_any A n cap _ l w4 (h.nx hb4))
  rintro e w5 ⟨rfl, rfl⟩
  go_wp2_with fail
  refine Ord.Seg.go (fun _ => Below.refl _ _) ?_
  (try simp only [Act.put, List.setIfInBounds_toArray, List.set_cons_zero, List.set_cons_succ])
  repeat (first | (refine Ord.e_p (v := ?_) rfl (by rfl) ?_ ?_; rotate_left; · (intro w2; go_simp; try with_reducible rfl)) | (refine Ord.e_u (by rfl) ?_)); (try simp only [Act.put, List.setIfInBounds_toArray, List.set_cons_zero, List.set_cons_succ])
  refine Ord.e_x rfl (by rfl) ?_
  go_wp2_with fail
  go_fit (seal_any A n cap _ l w4 (h.nx hb4) (Nat.le_refl _) (by omega))
  rintro e w5 ⟨A5, c5, n5, rfl, hown5, hb5⟩
  go_wp2_with fail
  refine Ord.Seg.go (fun _ => hb5) ?_
  replace hb5 := bnx hb4 hb5
  clear hb4
  have hr5 := Rd.own hown5
  clear hown5
  (try simp only [Act.put, List.setIfInBounds_toArray, List.set_cons_zero, List.set_cons_succ])
  repeat (first | (refine Ord.e_p (v := ?_) rfl (by rfl) ?_ ?_; rotate_left; · (intro w2; go_simp; try with_reducible rfl)) | (refine Ord.e_u (by rfl) ?_)); (try simp only [Act.put, List.setIfInBounds_toArray, List.set_cons_zero, List.set_cons_succ])
  refine Ord.e_str Try.underlying23 Try.underlying5 Try.underlying9 hr5 rfl (by rfl) ?_
  (try simp only [Act.put, List.setIfInBounds_toArray, List.set_cons_zero, List.set_cons_succ])
  repeat (first | (refine Ord.e_p (v := ?_) rfl (by rfl) ?_ ?_; rotate_left; · (intro w2; go_simp; try with_reducible rfl)) | (refine Ord.e_u (by rfl) ?_)); (try simp only [Act.put, List.setIfInBounds_toArray, List.set_cons_zero, List.set_cons_succ])
  refine Ord.e_x rfl (by rfl) ?_
  go_wp2_with fail
  go_fit (rseal_any A n cap _ l w5 (h.nx hb5) (Nat.le_refl _) (by omega))
  rintro e w6 ⟨A6, c6, n6, rfl, hown6, hb6⟩
  go_wp2_with fail
  refine Ord.Seg.go (fun _ => hb6) ?_
  replace hb6 := bnx hb5 hb6
  clear hb5
  have hr6 := Rd.own hown6
  clear hown6
  (try simp only [Act.put, List.setIfInBounds_toArray, List.set_cons_zero, List.set_cons_succ])
  repeat (first | (refine Ord.e_p (v := ?_) rfl (by rfl) ?_ ?_; rotate_left; · (intro w2; go_simp; try with_reducible rfl)) | (refine Ord.e_u (by rfl) ?_)); (try simp only [Act.put, List.setIfInBounds_toArray, List.set_cons_zero, List.set_cons_succ])
  refine Ord.e_str Try.underlying23 Try.underlying5 Try.underlying9 hr6 rfl (by rfl) ?_
  (try simp only [Act.put, List.setIfInBounds_toArray, List.set_cons_zero, List.set_cons_succ])
  repeat (first | (refine Ord.e_p (v := ?_) rfl (by rfl) ?_ ?_; rotate_left; · (intro w2; go_simp; try with_reducible rfl)) | (refine Ord.e_u (by rfl) ?_)); (try simp only [Act.put, List.setIfInBounds_toArray, List.set_cons_zero, List.set_cons_succ])
  refine Ord.e_nil ?_
  go_wp2
  go_ret
  exact ⟨rfl, hb6⟩

set_option maxHeartbeats 1000000 in
theorem opens_walk (A : Option Addr) (n cap : Nat) (l : List UInt8) (w : World) (h : Rd w w.heap.size 1 A n cap (bv l)) :
    Calls Try.prog 5 #[.slice A n cap] w fun e w' => e = .returned (.bool true) ∧ Below w.heap.size w w' := by
  have m3 := h.max
  have m1 := h.le
  unfold maxLen at m3
  have hz : openL (l ++ tailN l) = l ∧ openB (l ++ tailN l) = true := by
    have h0 : moreN 65535 (l ++ tailN l) = 0 := by rw [moreN_append]; exact seal_zero (moreN_lt l (by omega))
    have h2 : (tailN l).length = 2 := rfl
    simp [openL, openB, h0, h2]
  have Hz := Lib.hid hz
  clear hz
  by_cases t1 : 2000 < n
  · go_enter Try.func5, Try.ntmps5
    go_wp2_with fail
    refine (knows05 _).mono ?_
    rintro e w1 ⟨rfl, hb1⟩
    go_wp2
    go_ret
    exact ⟨rfl, hb1⟩
  go_enter Try.func5, Try.ntmps5
  go_wp2_with fail
  refine (knows05 _).mono ?_
  rintro e w1 ⟨rfl, hb1⟩
  go_wp2_with fail
  go_fit (openA_any A n cap _ l w1 (h.nx hb1) (Nat.le_refl _) (by omega))
  rintro e w2 ⟨A2, c2, n2, rfl, hown2, hb2⟩
  replace hb2 := bnx hb1 hb2
  have hr2 := Rd.own hown2
  have hq2 := Below.refl w2.heap.size w2
  clear hb1 hown2
  go_wp2_with fail
  go_fit (ropenA_any A n cap _ l w2 (h.nx hb2) (Nat.le_refl _) (by omega))
  rintro e w3 ⟨A3, c3, n3, rfl, hown3, hb3⟩
  replace hr2 := hr2.nx hb3
  replace hb3 := bnx hb2 hb3
  have hr3 := Rd.own hown3
  clear hb2 hown3 hq2
  go_wp2_with fail
  go_fit (seal_any A n cap _ l w3 (h.nx hb3) (Nat.le_refl _) (by omega))
  rintro e w4 ⟨A4, c4, n4, rfl, hown4, hb4⟩
  replace hr2 := hr2.nx hb4
  replace hr3 := hr3.nx hb4
  replace hb4 := bnx hb3 hb4
  have hr4 := Rd.own hown4
  have hn4 : n4 ≤ 1000000 := by have := own_len hown4; simp [tailN] at this; have := h.blen; omega
  clear hb3 hown4
  have H := openA_any A4 n4 c4 _ _ w4 hr4 (Nat.le_refl _) hn4
  rw [Hz.out.1, Hz.out.2] at H
  go_wp2_with fail
  go_fit H
  rintro e w5 ⟨A5, c5, n5, rfl, hown5, hb5⟩
  replace hr2 := hr2.nx hb5
  replace hr3 := hr3.nx hb5
  replace hb5 := bnx hb4 hb5
  have hr5 := Rd.own hown5
  clear hb4 hown5 H hr4 hn4
  have v2 := run_str w5 23 9 5 Try.underlying23 Try.underlying5 Try.underlying9 hr2
  have v3 := run_str w5 23 9 5 Try.underlying23 Try.underlying5 Try.underlying9 hr3
  have v5 := run_str w5 23 9 5 Try.underlying23 Try.underlying5 Try.underlying9 hr5
  have v0 := run_str w5 23 9 5 Try.underlying23 Try.underlying5 Try.underlying9 (h.nx hb5)
  generalize openB l = ob at *
  go_wp2
  go_ret
  exact ⟨rfl, hb5⟩

end Go.Proofs.Ytbepojjecdfjkaa
