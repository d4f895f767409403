/-
  fix.Over by a thousand, and the document's; a speed as a vector: pvt.Speed's parts, and the document's.
-/
import Derived.Test.YtkelepnipndbbaaRoot2
import Derived.Test.YtkelepnipndbbaaOrder
import Derived.Test.YtkelepnipndbbaaCells
set_option linter.unusedSimpArgs false
set_option linter.unusedVariables false
namespace Go.Proofs.Ytkelepnipndbbaa
open Go.RowKit NumLaw

/-- By a thousand, to the nearest. -/
def ovK (n : Int) : Int := if n < 0 then -(((n.natAbs + 500) / 1000 : Nat) : Int) else (((n.natAbs + 500) / 1000 : Nat) : Int)

theorem fsize_neg (r : Nat) (w : World) (h : r ≤ 1000000000000000) : Calls Try.prog 150 #[.int .i64 (-(r : Int))] w fun e w' => e = .returned (.int .u64 r) ∧ w = w' := by
  rcases Nat.eq_zero_or_pos r with rfl | h0
  · go_enter Try.func150, Try.ntmps150
    go_wp2
    go_ret
    exact ⟨rfl, rfl⟩
  · go_enter Try.func150, Try.ntmps150
    have hlt : -(r : Int) < 0 := by omega
    have e1 : IntKind.u64.wrap (-IntKind.u64.wrap (-(r : Int))) = r := by simp [IntKind.wrap, IntKind.bits, IntKind.signed]; omega
    go_wp2
    go_ret
    exact ⟨ret_int (by omega), rfl⟩
theorem fsize_pos (r : Nat) (w : World) (h : r ≤ 1000000000000000) : Calls Try.prog 150 #[.int .i64 (r : Int)] w fun e w' => e = .returned (.int .u64 r) ∧ w = w' := by
  go_enter Try.func150, Try.ntmps150
  go_wp2
  go_ret
  exact ⟨rfl, rfl⟩
theorem fsign_neg (n : Int) (w : World) (h : n < 0) : Calls Try.prog 151 #[.int .i64 n] w fun e w' => e = .returned (.int .i64 (-1)) ∧ w = w' := by
  go_enter Try.func151, Try.ntmps151
  go_wp2
  go_ret
  exact ⟨rfl, rfl⟩
theorem fsign_pos (n : Int) (w : World) (h : 0 ≤ n) : Calls Try.prog 151 #[.int .i64 n] w fun e w' => e = .returned (.int .i64 1) ∧ w = w' := by
  go_enter Try.func151, Try.ntmps151
  go_wp2
  go_ret
  exact ⟨rfl, rfl⟩
set_option maxHeartbeats 1000000 in
theorem fover_core (n Q R s : Int) (r : Nat) (w : World) (hq : n.tdiv 1000 = Q) (hr : n.tmod 1000 = R) (hsz : ∀ w, Calls Try.prog 150 #[.int .i64 R] w fun e w' => e = .returned (.int .u64 r) ∧ w = w')
    (hsg : ∀ w, Calls Try.prog 151 #[.int .i64 n] w fun e w' => e = .returned (.int .i64 s) ∧ w = w') (hR : R = r ∨ R = -(r : Int)) (hr1 : r < 1000) (hQ : -1000000000000 ≤ Q ∧ Q ≤ 1000000000000) (hs : s = 1 ∨ s = -1) :
    Calls Try.prog 115 #[.int .i64 n, .int .i64 1000] w fun e w' => e = .returned (.int .i64 (if 500 ≤ r then Q + s else Q)) ∧ Below w.heap.size w w' := by
  have hd := fsize_pos 1000 
  have hsd := fsign_pos 1000
  have hR0 : 500 ≤ r → ¬ R = 0 := by omega
  have hsb : -1 ≤ s ∧ s ≤ 1 := by omega
  have HR0 := Lib.hid hR0
  have hb : Below w.heap.size w w.drew := (Below.refl _ _).drew
  clear hR0 hR hs
  by_cases h5 : 500 ≤ r
  · rw [if_pos h5]
    have hRn := HR0.out h5
    go_enter Try.func115, Try.ntmps115
    go_wp2_with fail
    refine Ord.region_ (fun w' => True) false [] (by kernel_rfl) (by kernel_rfl) trivial ?_
    generalize w.drew = w1 at *
    repeat (first | (refine Ord.e_p (v := ?_) rfl (by rfl) ?_ ?_; rotate_left; · (intro w2; go_simp; try with_reducible rfl)) | (refine Ord.e_u (by rfl) ?_)); (try simp only [Act.put, List.setIfInBounds_toArray, List.set_cons_zero, List.set_cons_succ])
    refine Ord.e_nil ?_
    clear hq hr
    go_wp2_with fail
    go_fit (hsz _)
    rintro e w2 ⟨rfl, rfl⟩
    go_wp2_with fail
    go_fit (hd _ (by omega))
    rintro e w2 ⟨rfl, rfl⟩
    go_wp2_with fail
    go_fit (hsg _)
    rintro e w2 ⟨rfl, rfl⟩
    go_wp2_with fail
    go_fit (hsd _ (by omega))
    rintro e w2 ⟨rfl, rfl⟩
    go_wp2
    go_ret
    exact ⟨rfl, hb⟩
  · rw [if_neg h5]
    go_enter Try.func115, Try.ntmps115
    go_wp2_with fail
    refine Ord.region_ (fun w' => True) false [] (by kernel_rfl) (by kernel_rfl) trivial ?_
    generalize w.drew = w1 at *
    repeat (first | (refine Ord.e_p (v := ?_) rfl (by rfl) ?_ ?_; rotate_left; · (intro w2; go_simp; try with_reducible rfl)) | (refine Ord.e_u (by rfl) ?_)); (try simp only [Act.put, List.setIfInBounds_toArray, List.set_cons_zero, List.set_cons_succ])
    refine Ord.e_nil ?_
    clear hq hr
    go_wp2_with fail
    go_fit (hsz _)
    rintro e w2 ⟨rfl, rfl⟩
    go_wp2_with fail
    go_fit (hd _ (by omega))
    rintro e w2 ⟨rfl, rfl⟩
    go_wp2
    go_ret
    exact ⟨rfl, hb⟩
theorem fover_any (n : Int) (w : World) (h : -1000000000000000 ≤ n ∧ n ≤ 1000000000000000) : Calls Try.prog 115 #[.int .i64 n, .int .i64 1000] w fun e w' => e = .returned (.int .i64 (ovK n)) ∧ Below w.heap.size w w' := by
  by_cases hn : n < 0
  · obtain ⟨k, hk⟩ : ∃ k : Nat, n = -(k : Int) := ⟨n.natAbs, by omega⟩
    have e1 : n.tdiv 1000 = -((k / 1000 : Nat) : Int) := by rw [hk, Int.neg_tdiv, Int.tdiv_eq_ediv_of_nonneg (by omega)]; omega
    have e2 : n.tmod 1000 = -((k % 1000 : Nat) : Int) := by rw [hk, Int.neg_tmod, Int.tmod_eq_emod_of_nonneg (by omega)]; omega
    have := fover_core n _ _ (-1) (k % 1000) w e1 e2 (fun w => fsize_neg _ w (by omega)) (fun w => fsign_neg n w hn) (by omega) (by omega) (by omega) (by omega)
    refine this.mono fun e w' he => ?_
    refine ⟨?_, he.2⟩
    rw [he.1]
    refine ret_int ?_
    unfold ovK
    rw [if_pos hn]
    split <;> omega
  · obtain ⟨k, hk⟩ : ∃ k : Nat, n = (k : Int) := ⟨n.natAbs, by omega⟩
    have e1 : n.tdiv 1000 = ((k / 1000 : Nat) : Int) := by rw [hk, Int.tdiv_eq_ediv_of_nonneg (by omega)]; omega
    have e2 : n.tmod 1000 = ((k % 1000 : Nat) : Int) := by rw [hk, Int.tmod_eq_emod_of_nonneg (by omega)]; omega
    have := fover_core n _ _ 1 (k % 1000) w e1 e2 (fun w => fsize_pos _ w (by omega)) (fun w => fsign_pos n w (by omega)) (by omega) (by omega) (by omega) (by omega)
    refine this.mono fun e w' he => ?_
    refine ⟨?_, he.2⟩
    rw [he.1]
    refine ret_int ?_
    unfold ovK
    rw [if_neg hn]
    split <;> omega

theorem far_any (n : Int) (w : World) (h : -1000000000000000 ≤ n ∧ n ≤ 1000000000000000) : Calls Try.prog 170 #[.int .i64 n] w fun e w' => e = .returned (.int .u64 (n.natAbs : Nat)) ∧ w = w' := by
  by_cases hn : n < 0
  · obtain ⟨k, hk⟩ : ∃ k : Nat, n.natAbs = k ∧ n = -(k : Int) := ⟨n.natAbs, by omega⟩
    rw [hk.1]
    have hk2 := hk.2
    clear hk
    have e0 : 0 ≤ -(n + 1) := by omega
    have e1 : -(n + 1) ≤ 1000000000000000 := by omega
    have HK := Lib.hid hk2
    clear hk2
    go_enter Try.func170, Try.ntmps170
    go_wp2
    go_ret
    exact ⟨ret_int (by have := HK.out; omega), rfl⟩
  · obtain ⟨k, rfl⟩ : ∃ k : Nat, n = (k : Int) := ⟨n.natAbs, by omega⟩
    go_enter Try.func170, Try.ntmps170
    go_wp2
    go_ret
    exact ⟨by simp, rfl⟩
set_option maxHeartbeats 1000000 in
theorem qover_core (n : Int) (k : Nat) (w : World) (hk : n.natAbs = k) (h : -1000000000000000 ≤ n ∧ n ≤ 1000000000000000) : Calls Try.prog 153 #[.int .i64 n, .int .i64 1000] w fun e w' => e = .returned (.int .i64 (ovK n)) ∧ w = w' := by
  have h1 := fun w => far_any n w h
  have h2 := fun w => far_any 1000 w (by omega)
  rw [hk] at h1
  rw [show (Int.natAbs 1000) = 1000 from rfl] at h2
  obtain ⟨q, hq⟩ : ∃ q, q = k / 1000 := ⟨_, rfl⟩
  obtain ⟨r, hr⟩ : ∃ r, r = k % 1000 := ⟨_, rfl⟩
  have hr1 : r < 1000 := by omega
  have hq1 : q ≤ 1000000000000 := by omega
  have hov : ovK n = if n < 0 then (if 500 ≤ r then -(q : Int) - 1 else -(q : Int)) else (if 500 ≤ r then (q : Int) + 1 else (q : Int)) := by
    unfold ovK
    rw [hk]
    split <;> split <;> omega
  have Hq : (k : Int) / 1000 = q := by omega
  have Hr : (k : Int) % 1000 = r := by omega
  have hsub : (1000 : Int) - r = ((1000 - r : Nat) : Int) := by omega
  have hkb : k ≤ 1000000000000000 := by omega
  rw [hov]
  clear hov hk hq hr
  by_cases hn : n < 0
  · rw [if_pos hn]
    by_cases h5 : 500 ≤ r
    · rw [if_pos h5]
      go_enter Try.func153, Try.ntmps153
      go_wp2_with fail
      go_fit (h1 _)
      rintro e w2 ⟨rfl, rfl⟩
      go_wp2_with fail
      go_fit (h2 _)
      rintro e w2 ⟨rfl, rfl⟩
      go_wp2
      go_ret
      exact ⟨ret_int (by omega), rfl⟩
    · rw [if_neg h5]
      rcases Nat.eq_zero_or_pos q with h0 | h0
      · subst h0
        go_enter Try.func153, Try.ntmps153
        go_wp2_with fail
        go_fit (h1 _)
        rintro e w2 ⟨rfl, rfl⟩
        go_wp2_with fail
        go_fit (h2 _)
        rintro e w2 ⟨rfl, rfl⟩
        go_wp2
        go_ret
        exact ⟨rfl, rfl⟩
      · go_enter Try.func153, Try.ntmps153
        go_wp2_with fail
        go_fit (h1 _)
        rintro e w2 ⟨rfl, rfl⟩
        go_wp2_with fail
        go_fit (h2 _)
        rintro e w2 ⟨rfl, rfl⟩
        go_wp2
        go_ret
        exact ⟨ret_int (by omega), rfl⟩
  · rw [if_neg hn]
    have hnd : decide (n < 0) = false := by simpa using hn
    have Hn := Lib.hid hn
    clear hn
    by_cases h5 : 500 ≤ r
    · rw [if_pos h5]
      go_enter Try.func153, Try.ntmps153
      go_wp2_with fail
      go_fit (h1 _)
      rintro e w2 ⟨rfl, rfl⟩
      go_wp2_with fail
      go_fit (h2 _)
      rintro e w2 ⟨rfl, rfl⟩
      go_wp2
      go_ret
      exact ⟨ret_int (by omega), rfl⟩
    · rw [if_neg h5]
      go_enter Try.func153, Try.ntmps153
      go_wp2_with fail
      go_fit (h1 _)
      rintro e w2 ⟨rfl, rfl⟩
      go_wp2_with fail
      go_fit (h2 _)
      rintro e w2 ⟨rfl, rfl⟩
      go_wp2
      go_ret
      exact ⟨ret_int (by omega), rfl⟩

/-- A speed in the vector's measure. -/
def mil (n : Int) : Int := ovK (65536 * n)
theorem mil_bound {n : Int} (h : -2147483648 ≤ n ∧ n ≤ 2147483647) : -1000000000000 ≤ mil n ∧ mil n ≤ 1000000000000 := by
  unfold mil ovK
  split <;> omega
theorem milli_any (n : Int) (w : World) (h : -2147483648 ≤ n ∧ n ≤ 2147483647) : Calls Try.prog 117 #[.int .i64 n] w fun e w' => e = .returned (.int .i64 (mil n)) ∧ w = w' := by
  have h1 := fun w => qover_core (65536 * n) _ w rfl (by omega)
  rw [show ovK (65536 * n) = mil n from rfl] at h1
  go_enter Try.func117, Try.ntmps117
  go_wp2_with fail
  go_fit (h1 _)
  rintro e w2 ⟨rfl, rfl⟩
  go_wp2
  go_ret
  exact ⟨rfl, rfl⟩
theorem qclamp_any (n : Int) (w : World) (h : -9223372036854775808 ≤ n ∧ n ≤ 9223372036854775807) :
    Calls Try.prog 152 #[.int .i64 n] w fun e w' => e = .returned (.tuple #[.int .i32 (clampV n), .bool (clampV n != n)]) ∧ w = w' := by
  rcases (by omega : 2147483647 < n ∨ (¬ 2147483647 < n ∧ n < -2147483648) ∨ (¬ 2147483647 < n ∧ ¬ n < -2147483648)) with h1 | ⟨h1, h2⟩ | ⟨h1, h2⟩
  · rw [show clampV n = 2147483647 by unfold clampV; rw [if_neg (by omega), if_pos h1]]
    rw [show ((2147483647 : Int) != n) = true by simp; omega]
    go_enter Try.func152, Try.ntmps152
    go_wp2
    go_ret2
    exact ⟨rfl, rfl⟩
  · rw [show clampV n = -2147483648 by unfold clampV; rw [if_pos h2]]
    rw [show ((-2147483648 : Int) != n) = true by simp; omega]
    go_enter Try.func152, Try.ntmps152
    go_wp2
    go_ret2
    exact ⟨rfl, rfl⟩
  · rw [show clampV n = n by unfold clampV; rw [if_neg (by omega), if_neg (by omega)]]
    rw [bne_self_eq_false]
    go_enter Try.func152, Try.ntmps152
    go_wp2
    go_ret2
    exact ⟨rfl, rfl⟩
theorem clampV_b (n : Int) : -2147483648 ≤ clampV n ∧ clampV n ≤ 2147483647 := by unfold clampV; split <;> (try split) <;> omega
def cutN (n : Int) : Nat := if (clampV n != n) = true then 1 else 0

set_option maxHeartbeats 2000000 in
theorem cut_any (x y z : Int) (w : World) (hx : -9223372036854775808 ≤ x ∧ x ≤ 9223372036854775807) (hy : -9223372036854775808 ≤ y ∧ y ≤ 9223372036854775807) (hz : -9223372036854775808 ≤ z ∧ z ≤ 9223372036854775807) :
    Calls Try.prog 116 #[.int .i64 x, .int .i64 y, .int .i64 z] w fun e w' => e = .returned (.tuple #[.agg #[.int .i32 (clampV x), .int .i32 (clampV y), .int .i32 (clampV z)], .int .i64 ((cutN x + cutN y + cutN z : Nat) : Int)]) ∧ Below w.heap.size w w' := by
  have h1 := fun w => qclamp_any x w hx
  have h2 := fun w => qclamp_any y w hy
  have h3 := fun w => qclamp_any z w hz
  have a1 := clampV_b x
  have a2 := clampV_b y
  have a3 := clampV_b z
  unfold cutN
  generalize (clampV x != x) = b1 at *
  generalize (clampV y != y) = b2 at *
  generalize (clampV z != z) = b3 at *
  generalize clampV x = u1 at *
  generalize clampV y = u2 at *
  generalize clampV z = u3 at *
  have hres := heap_alloc_new w (.cells #[.int .i32 0, .int .i32 0, .int .i32 0] 68)
  have hb1 : Below w.heap.size w (w.alloc (.cells #[.int .i32 0, .int .i32 0, .int .i32 0] 68)) := (Below.refl _ _).alloc (Nat.le_refl _) _
  have key : ∀ n : Nat, n = (if b1 = true then 1 else 0) + (if b2 = true then 1 else 0) + (if b3 = true then 1 else 0) → Calls Try.prog 116 #[.int .i64 x, .int .i64 y, .int .i64 z] w fun e w' => e = .returned (.tuple #[.agg #[.int .i32 u1, .int .i32 u2, .int .i32 u3], .int .i64 (n : Int)]) ∧ Below w.heap.size w w' := by
    intro n hn
    have Hn := Lib.hid hn
    clear hn
    cases b1 <;> cases b2 <;> cases b3
    all_goals
      go_enter Try.func116, Try.ntmps116
      go_wp2_with fail
      generalize (w.alloc (.cells #[.int .i32 0, .int .i32 0, .int .i32 0] 68)) = w1 at *
      go_fit (h1 _)
      rintro e w2 ⟨rfl, rfl⟩
      go_wp2_with fail
      go_fit (h2 _)
      rintro e w2 ⟨rfl, rfl⟩
      go_wp2_with fail
      go_fit (h3 _)
      rintro e w2 ⟨rfl, rfl⟩
      go_wp2_with (with_reducible refine stop_store ?_)
      refine go_ (wpList_store_row rfl _ _ _ rfl w.heap.size #[.int .i32 u1, .int .i32 u2, .int .i32 u3] rfl rfl _ _ hres (by kernel_rfl) rfl (by kernel_rfl) ?_)
      have hb5 := below_setRow hb1 (Nat.le_refl _) (#[.int .i32 u1, .int .i32 u2, .int .i32 u3] : Array Value)
      have hres5 := setRow_heap _ _ _ (#[.int .i32 u1, .int .i32 u2, .int .i32 u3] : Array Value) _ _ hres
      generalize (w1.setRow w.heap.size #[.int .i32 u1, .int .i32 u2, .int .i32 u3]) = w5 at *
      clear hres hb1
      have c0 := blk_cell (i := 0) (v := .int .i32 u1) hres5 rfl
      have c1 := blk_cell (i := 1) (v := .int .i32 u2) hres5 rfl
      have c2 := blk_cell (i := 2) (v := .int .i32 u3) hres5 rfl
      go_wp2
      refine bodyPost_ret (v := .tuple #[.agg #[.int .i32 u1, .int .i32 u2, .int .i32 u3], .int .i64 n]) (by have hn := Hn.out; simp at hn; subst hn; simp [results, go_sem, c0, c1, c2]) rfl ?_
      exact ⟨rfl, hb5⟩
  exact key _ rfl
/-- The speed: the numbers, cut, and how many were. -/
def spdV (n : Int) : Int := clampV (mil n)
def spdC (x y z : Int) : Nat := cutN (mil x) + cutN (mil y) + cutN (mil z)

end Go.Proofs.Ytkelepnipndbbaa
