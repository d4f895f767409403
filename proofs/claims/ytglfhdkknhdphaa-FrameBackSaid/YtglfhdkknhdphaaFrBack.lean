/-
  The law FrameBack walked.
-/
import Derived.Test.YtglfhdkknhdphaaFrSame
import Derived.Test.YtglfhdkknhdphaaOrders
set_option linter.unusedSimpArgs false
set_option linter.unusedVariables false
namespace Go.Proofs.Ytglfhdkknhdphaa
open Go.RowKit NumLaw

set_option maxRecDepth 10000 in
set_option maxHeartbeats 8000000 in
theorem frback_any (c i : Int) (A : Option Addr) (n cap : Nat) (p : List UInt8) (A' : Option Addr) (n' cap' : Nat) (more : List UInt8) (w : World) (hc : -9223372036854775808 ≤ c ∧ c ≤ 9223372036854775807) (hi : -9223372036854775808 ≤ i ∧ i ≤ 9223372036854775807) (h : Rd w w.heap.size 1 A n cap (bv p)) (h' : Rd w w.heap.size 1 A' n' cap' (bv more)) :
    Calls Try.prog 16 #[.agg #[.int .i64 c, .int .i64 i, .slice A n cap], .slice A' n' cap'] w fun e w' => e = .returned (.bool true) ∧ Below w.heap.size w w' := by
  have hll := h.blen
  have hll' := h'.blen
  have hle' := h'.le
  have h1 : Below w.heap.size w (w.alloc (.cells #[.int .i64 c, .int .i64 i, .slice A n cap] 92)) := (Below.refl _ _).alloc (Nat.le_refl _) _
  have hbox : (w.alloc (.cells #[.int .i64 c, .int .i64 i, .slice A n cap] 92)).heap[w.heap.size]? = some (.cells #[.int .i64 c, .int .i64 i, .slice A n cap] 92) := heap_alloc_new w _
  have c2 := blk_cell (i := 2) (v := .slice A n cap) hbox rfl
  have hs1 : (w.alloc (.cells #[.int .i64 c, .int .i64 i, .slice A n cap] 92)).heap.size = w.heap.size + 1 := World.size_alloc _ _
  go_enter Try.func16, Try.ntmps16
  rcases (by omega : 1100 < n ∨ (¬ 1100 < n ∧ 1100 < n') ∨ (¬ 1100 < n ∧ ¬ 1100 < n')) with g1 | ⟨g1, g2⟩ | ⟨g1, g2⟩
  · go_wp2_with fail
    go_fit (knows15 _)
    rintro e w1 ⟨rfl, hb1⟩
    go_wp2
    go_ret
    exact ⟨rfl, bnx h1 hb1⟩
  · go_wp2_with fail
    go_fit (knows15 _)
    rintro e w1 ⟨rfl, hb1⟩
    go_wp2
    go_ret
    exact ⟨rfl, bnx h1 hb1⟩
  obtain ⟨i0, hi0⟩ := info_parts u8_info
  have Hi := Lib.hid hi0
  have Hll := Lib.hid hll
  have Hll' := Lib.hid hll'
  go_wp2_with fail
  go_fit (knows15 _)
  rintro e w1 ⟨rfl, hb1⟩
  replace hbox := blk_old hbox hb1 (by omega)
  have hb1' := bnx h1 hb1
  have hs1' : w.heap.size < w1.heap.size := blk_lt hbox
  clear h1 hb1 c2 hs1 hi0
  have c0 := blk_cell (i := 0) (v := .int .i64 c) hbox rfl
  have c1 := blk_cell (i := 1) (v := .int .i64 i) hbox rfl
  have c2 := blk_cell (i := 2) (v := .slice A n cap) hbox rfl
  have hput := frPut_any c i A n cap w.heap.size p w1 (h.up hb1') hb1'.size
  obtain ⟨l, hl⟩ : ∃ l, l = putB c i p := ⟨_, rfl⟩
  obtain ⟨er, her⟩ : ∃ er, er = putE c i p.length := ⟨_, rfl⟩
  obtain ⟨T, hT⟩ : ∃ T, T = frTake (l ++ more) := ⟨_, rfl⟩
  have Hput := Lib.hid (frTake_put c i p more)
  rw [← hl, ← her] at hput Hput
  rw [← hT] at Hput
  have hl0 : er ≠ 0 → l = [] := fun he => by rw [hl]; unfold putB; rw [if_neg (by rw [← her]; exact he)]
  have hl1 : er = 0 → l.length = n + 8 := fun he => by rw [hl]; unfold putB; rw [if_pos (by rw [← her]; exact he), frB_len, hll]
  have hci : er = 0 → n ≤ 1016 ∧ 0 ≤ c ∧ 0 ≤ i := fun he => by
    rw [her, hll] at he
    unfold putE at he
    split at he
    · cases he
    · rename_i ha
      split at he
      · cases he
      · unfold anyNo noB at ha
        simp at ha
        omega
  have hlb : l.length ≤ n + 8 := by
    by_cases he : er = 0
    · rw [hl1 he]; omega
    · rw [hl0 he]; simp
  have Hl0 := Lib.hid hl0
  have Hl1 := Lib.hid hl1
  have Hci := Lib.hid hci
  have HT := Lib.hid hT
  clear hl her hT hl0 hl1 hci hll hll'
  go_wp2_with fail
  go_fit hput
  rintro e w2 ⟨A2, n2, k2, rfl, hown2, hb2⟩
  have hn2 := own_len hown2
  replace hbox := blk_old hbox hb2 hs1'
  have hb2' := bnx hb1' hb2
  have hs2 : w.heap.size < w2.heap.size := blk_lt hbox
  clear c0 c1 c2 hput hb1' hb2
  go_wp2_with (at_builtin; refine stop_ ?_)
  have hown3 : (w2.alloc (.cells #[] 5)).ownsRow w2.heap.size 5 1 (.slice (some ⟨w2.heap.size, 0, none⟩) 0 0) 0 [] := own_empty w2 _ _ (Nat.le_refl _) 1
  have hb3 : Below w2.heap.size w2 (w2.alloc (.cells #[] 5)) := (Below.refl _ _).alloc (Nat.le_refl _) _
  refine go_ (wpList_app Try.underlying22 Hi.out rfl (by omega) hown3 rfl ((Rd.own hown2).up hb3) rfl (bv_one _) (k := n2) (by omega) (List.nil_append _) (by unfold maxLen; omega) (by omega) hb3.size ?_)
  intro A4 k4 w4 hown4 hB4
  have hb4 := hB4 hb3 hb3.size (Nat.le_refl _)
  clear hB4 hown3 hb3
  go_wp2_with (at_builtin; refine stop_ ?_)
  refine go_ (wpList_app Try.underlying22 Hi.out rfl (by omega) hown4 rfl (h'.up (bnx hb2' hb4)) rfl (bv_one _) (k := n2 + n') rfl (bv_app _ _).symm (by unfold maxLen; omega) (by omega) hb4.size ?_)
  intro A5 k5 w5 hown5 hB5
  have hb5 := hB5 hb4 hb4.size (Nat.le_refl _)
  clear hB5 hown4 hb4
  go_wp2_with fail
  go_fit (frTake_any A5 (n2 + n') k5 w5.heap.size (l ++ more) w5 (Rd.own hown5) (Nat.le_refl _) (by omega))
  rw [← HT.out]
  rintro e w6 ⟨A6, n6, k6, rfl, hr6, hb6⟩
  have hb6' := bnx hb5 hb6
  clear hb5 hb6 hown5
  obtain ⟨hy, hb7⟩ := box3 (a := .int .i64 (T.c : Int)) (b := .int .i64 (T.i : Int)) (c := .slice A6 n6 k6) (e := 92) w2.heap.size w2 hb6' hb6'.size
  have hr7 := hr6.nx ((Below.refl _ _).alloc (Nat.le_refl _) (.cells #[.int .i64 (T.c : Int), .int .i64 (T.i : Int), .slice A6 n6 k6] 92))
  replace hbox := blk_old hbox hb7 hs2
  have hbw := bnx hb2' hb7
  have hsz7 := hbw.size
  by_cases he : er = 0
  · obtain ⟨q1, q2, q3⟩ := Hci.out he
    have hT := Hput.out he
    have hln := Hl1.out he
    subst he
    obtain ⟨c, rfl⟩ : ∃ k : Nat, c = k := ⟨c.toNat, by omega⟩
    obtain ⟨i, rfl⟩ : ∃ k : Nat, i = k := ⟨i.toNat, by omega⟩
    simp only [Int.toNat_natCast] at hT
    have hn28 : n2 = n + 8 := by omega
    subst hn28
    rw [hn2] at hT
    subst hT
    have c0 := blk_cell (i := 0) (v := .int .i64 c) hbox rfl
    have c1 := blk_cell (i := 1) (v := .int .i64 i) hbox rfl
    have c2 := blk_cell (i := 2) (v := .slice A n cap) hbox rfl
    have d0 := blk_cell (i := 0) (v := .int .i64 c) hy rfl
    have d1 := blk_cell (i := 1) (v := .int .i64 i) hy rfl
    have d2 := blk_cell (i := 2) (v := .slice A6 n6 k6) hy rfl
    go_wp2_with fail
    go_fit (num15_any _ _)
    rintro e w8 ⟨rfl, rfl⟩
    go_wp2_with fail
    go_fit (num15_any _ _)
    rintro e w8 ⟨rfl, rfl⟩
    go_wp2_with fail
    go_fit (frSame_any c i A n cap w.heap.size p c i A6 n6 k6 _ p _ (h.up hbw) hsz7 hr7 (Nat.le_refl _))
    rintro e w8 ⟨rfl, hb8⟩
    rw [decide_eq_true ⟨rfl, rfl, rfl⟩]
    have hbox8 := blk_old hbox hb8 (blk_lt hbox)
    have hbt := bnx hbw hb8
    clear c0 c1 c2 d0 d1 d2 hb8 hbox hy
    have c2 := blk_cell (i := 2) (v := .slice A n cap) hbox8 rfl
    have hsz := frsize_any (n : Int) w8
    rw [show frSize (n : Int) = (n : Int) + 8 by unfold frSize frFits; rw [decide_eq_true (by omega)]; rfl] at hsz
    go_wp2_with fail
    go_fit hsz
    rintro e wt ⟨rfl, rfl⟩
    go_wp2_with fail
    go_fit (num15_any _ _)
    rintro e w9 ⟨rfl, rfl⟩
    have hwt : ∃ wt, wt = w8 := ⟨_, rfl⟩
    obtain ⟨wt, rfl⟩ := hwt
    obtain ⟨T3, hT3⟩ : ∃ T3, T3 = frTake more := ⟨_, rfl⟩
    have Hback := Lib.hid (frTake_back more)
    have Hnone := Lib.hid (frTake_none more)
    rw [← hT3] at Hback Hnone
    have HT3 := Lib.hid hT3
    have hszt := hbt.size
    clear hT3
    go_wp2_with fail
    go_fit (frTake_any A' n' cap' w.heap.size more wt (h'.up hbt) hszt (by omega))
    rw [← HT3.out]
    rintro e wu ⟨Au, nu, ku, rfl, hru, hbu⟩
    have hbu' := bnx hbt hbu
    clear hbu
    obtain ⟨hz, hbv⟩ := box3 (a := .int .i64 (T3.c : Int)) (b := .int .i64 (T3.i : Int)) (c := .slice Au nu ku) (e := 92) w.heap.size w hbu' hbu'.size
    have hrv := hru.nx ((Below.refl _ _).alloc (Nat.le_refl _) (.cells #[.int .i64 (T3.c : Int), .int .i64 (T3.i : Int), .slice Au nu ku] 92))
    have z0 := blk_cell (i := 0) (v := .int .i64 (T3.c : Int)) hz rfl
    have z1 := blk_cell (i := 1) (v := .int .i64 (T3.i : Int)) hz rfl
    have z2 := blk_cell (i := 2) (v := .slice Au nu ku) hz rfl
    by_cases h3 : T3.err = 0
    · have h3' : (T3.err : Int) = 0 := by omega
      obtain ⟨k1, k2, k3, k4⟩ := Hback.out h3
      rw [Hll'.out] at k2
      have hpv := frPut_any (T3.c : Int) (T3.i : Int) Au nu ku _ T3.p _ hrv (Nat.le_refl _)
      rw [k1, k4] at hpv
      obtain ⟨S, hS⟩ : ∃ S, S = T3.size := ⟨_, rfl⟩
      rw [← hS] at hpv k2 k3
      have HS := Lib.hid hS
      clear hS k1 k4 Hback Hnone
      go_wp2_with fail
      go_fit (num15_any _ _)
      rintro e wv ⟨rfl, rfl⟩
      rw [← HS.out]
      go_wp2_with fail
      go_fit hpv
      rintro e wv ⟨Av, nv, kv, rfl, hownv, hbv2⟩
      have hbv3 := bnx hbv hbv2
      clear hz hrv z0 z1 z2 hpv hbv hbv2
      have hrun := fun w => run_cut_h (P := Try.prog) Try.underlying22 Hi.out.1 A' n' cap' S (by omega) w
      have hrm := (h'.up hbv3.drew).btake (k := S) k2
      have hrvv := (Rd.own hownv).drew
      replace hbv3 := hbv3.drew
      have hle8 : (S : Int) ≤ (n' : Int) := by omega
      have hge8 : (8 : Int) ≤ (S : Int) := by omega
      have hszv := hbv3.size
      go_wp2_with fail
      refine Ord.region_ (fun _ => True) true [119, 123] (by kernel_rfl) (by kernel_rfl) trivial ?_
      replace hrvv : Rd wv.drew wv.drew.heap.size 1 _ _ _ _ := hrvv
      replace hrm := hrm.more hszv
      generalize wv.drew = wx at *
      repeat (first | (refine Ord.e_p (v := ?_) rfl (by rfl) ?_ ?_; rotate_left; · (intro w2; go_simp; try with_reducible rfl)) | (refine Ord.e_u (by rfl) ?_)); (try simp only [Act.put, List.setIfInBounds_toArray, List.set_cons_zero, List.set_cons_succ])
      refine Ord.e_x rfl (by rfl) ?_
      go_wp2_with fail
      go_fit (num15_any _ _)
      rintro e wy ⟨rfl, rfl⟩
      go_wp2_with fail
      refine Ord.Seg.go trivial (fun _ => Below.refl _ _) ?_
      (try simp only [Act.put, List.setIfInBounds_toArray, List.set_cons_zero, List.set_cons_succ])
      repeat (first | (refine Ord.e_p (v := ?_) rfl (by rfl) ?_ ?_; rotate_left; · (intro w2; go_simp; try with_reducible rfl)) | (refine Ord.e_u (by rfl) ?_)); (try simp only [Act.put, List.setIfInBounds_toArray, List.set_cons_zero, List.set_cons_succ])
      refine Ord.e_str Try.underlying22 Try.underlying5 Try.underlying9 hrvv rfl (by rfl) (by rfl) ?_
      (try simp only [Act.put, List.setIfInBounds_toArray, List.set_cons_zero, List.set_cons_succ])
      repeat (first | (refine Ord.e_p (v := ?_) rfl (by rfl) ?_ ?_; rotate_left; · (intro w2; go_simp; try with_reducible rfl)) | (refine Ord.e_u (by rfl) ?_)); (try simp only [Act.put, List.setIfInBounds_toArray, List.set_cons_zero, List.set_cons_succ])
      refine Ord.e_str Try.underlying22 Try.underlying5 Try.underlying9 hrm rfl (by rfl) (by rfl) ?_
      (try simp only [Act.put, List.setIfInBounds_toArray, List.set_cons_zero, List.set_cons_succ])
      repeat (first | (refine Ord.e_p (v := ?_) rfl (by rfl) ?_ ?_; rotate_left; · (intro w2; go_simp; try with_reducible rfl)) | (refine Ord.e_u (by rfl) ?_)); (try simp only [Act.put, List.setIfInBounds_toArray, List.set_cons_zero, List.set_cons_succ])
      refine Ord.e_nil ?_
      go_wp2
      go_ret
      exact ⟨rfl, hbv3⟩
    · have h3' : ¬ (T3.err : Int) = 0 := by omega
      have K := Lib.hid (Hnone.out h3)
      have k4' : (T3.size : Int) = 0 := by have := K.out.2.2.2; omega
      go_wp2_with fail
      go_fit (num15_any _ _)
      rintro e wv ⟨rfl, rfl⟩
      go_wp2_with fail
      go_fit (frSame_any _ _ Au nu ku _ T3.p _ _ none 0 0 0 [] _ hrv (Nat.le_refl _) (Rd.none_ _ _ _) (by omega))
      rintro e wx ⟨rfl, hbx⟩
      rw [decide_eq_true ⟨by have := K.out.1; omega, by have := K.out.2.1; omega, K.out.2.2.1⟩]
      go_wp2
      go_ret
      exact ⟨rfl, bnx hbv hbx⟩
  · have he' : ¬ (er : Int) = 0 := by omega
    have hl := Hl0.out he
    have hn20 : n2 = 0 := by rw [hl] at hn2; simpa using hn2.symm
    subst hn20
    go_wp2_with fail
    go_fit (num15_any _ _)
    rintro e w8 ⟨rfl, rfl⟩
    go_wp2_with fail
    go_fit (num15_any _ _)
    rintro e w8 ⟨rfl, rfl⟩
    have hbt := hbw
    clear hbox hy
    generalize hwt : (w6.alloc (.cells #[.int .i64 (T.c : Int), .int .i64 (T.i : Int), .slice A6 n6 k6] 92)) = wt at *
    clear hwt
    obtain ⟨T3, hT3⟩ : ∃ T3, T3 = frTake more := ⟨_, rfl⟩
    have Hback := Lib.hid (frTake_back more)
    have Hnone := Lib.hid (frTake_none more)
    rw [← hT3] at Hback Hnone
    have HT3 := Lib.hid hT3
    have hszt := hbt.size
    clear hT3
    go_wp2_with fail
    go_fit (frTake_any A' n' cap' w.heap.size more wt (h'.up hbt) hszt (by omega))
    rw [← HT3.out]
    rintro e wu ⟨Au, nu, ku, rfl, hru, hbu⟩
    have hbu' := bnx hbt hbu
    clear hbu
    obtain ⟨hz, hbv⟩ := box3 (a := .int .i64 (T3.c : Int)) (b := .int .i64 (T3.i : Int)) (c := .slice Au nu ku) (e := 92) w.heap.size w hbu' hbu'.size
    have hrv := hru.nx ((Below.refl _ _).alloc (Nat.le_refl _) (.cells #[.int .i64 (T3.c : Int), .int .i64 (T3.i : Int), .slice Au nu ku] 92))
    have z0 := blk_cell (i := 0) (v := .int .i64 (T3.c : Int)) hz rfl
    have z1 := blk_cell (i := 1) (v := .int .i64 (T3.i : Int)) hz rfl
    have z2 := blk_cell (i := 2) (v := .slice Au nu ku) hz rfl
    by_cases h3 : T3.err = 0
    · have h3' : (T3.err : Int) = 0 := by omega
      obtain ⟨k1, k2, k3, k4⟩ := Hback.out h3
      rw [Hll'.out] at k2
      have hpv := frPut_any (T3.c : Int) (T3.i : Int) Au nu ku _ T3.p _ hrv (Nat.le_refl _)
      rw [k1, k4] at hpv
      obtain ⟨S, hS⟩ : ∃ S, S = T3.size := ⟨_, rfl⟩
      rw [← hS] at hpv k2 k3
      have HS := Lib.hid hS
      clear hS k1 k4 Hback Hnone
      go_wp2_with fail
      go_fit (num15_any _ _)
      rintro e wv ⟨rfl, rfl⟩
      rw [← HS.out]
      go_wp2_with fail
      go_fit hpv
      rintro e wv ⟨Av, nv, kv, rfl, hownv, hbv2⟩
      have hbv3 := bnx hbv hbv2
      clear hz hrv z0 z1 z2 hpv hbv hbv2
      have hrun := fun w => run_cut_h (P := Try.prog) Try.underlying22 Hi.out.1 A' n' cap' S (by omega) w
      have hrm := (h'.up hbv3.drew).btake (k := S) k2
      have hrvv := (Rd.own hownv).drew
      replace hbv3 := hbv3.drew
      have hle8 : (S : Int) ≤ (n' : Int) := by omega
      have hge8 : (8 : Int) ≤ (S : Int) := by omega
      have hszv := hbv3.size
      go_wp2_with fail
      refine Ord.region_ (fun _ => True) true [119, 123] (by kernel_rfl) (by kernel_rfl) trivial ?_
      replace hrvv : Rd wv.drew wv.drew.heap.size 1 _ _ _ _ := hrvv
      replace hrm := hrm.more hszv
      generalize wv.drew = wx at *
      repeat (first | (refine Ord.e_p (v := ?_) rfl (by rfl) ?_ ?_; rotate_left; · (intro w2; go_simp; try with_reducible rfl)) | (refine Ord.e_u (by rfl) ?_)); (try simp only [Act.put, List.setIfInBounds_toArray, List.set_cons_zero, List.set_cons_succ])
      refine Ord.e_x rfl (by rfl) ?_
      go_wp2_with fail
      go_fit (num15_any _ _)
      rintro e wy ⟨rfl, rfl⟩
      go_wp2_with fail
      refine Ord.Seg.go trivial (fun _ => Below.refl _ _) ?_
      (try simp only [Act.put, List.setIfInBounds_toArray, List.set_cons_zero, List.set_cons_succ])
      repeat (first | (refine Ord.e_p (v := ?_) rfl (by rfl) ?_ ?_; rotate_left; · (intro w2; go_simp; try with_reducible rfl)) | (refine Ord.e_u (by rfl) ?_)); (try simp only [Act.put, List.setIfInBounds_toArray, List.set_cons_zero, List.set_cons_succ])
      refine Ord.e_str Try.underlying22 Try.underlying5 Try.underlying9 hrvv rfl (by rfl) (by rfl) ?_
      (try simp only [Act.put, List.setIfInBounds_toArray, List.set_cons_zero, List.set_cons_succ])
      repeat (first | (refine Ord.e_p (v := ?_) rfl (by rfl) ?_ ?_; rotate_left; · (intro w2; go_simp; try with_reducible rfl)) | (refine Ord.e_u (by rfl) ?_)); (try simp only [Act.put, List.setIfInBounds_toArray, List.set_cons_zero, List.set_cons_succ])
      refine Ord.e_str Try.underlying22 Try.underlying5 Try.underlying9 hrm rfl (by rfl) (by rfl) ?_
      (try simp only [Act.put, List.setIfInBounds_toArray, List.set_cons_zero, List.set_cons_succ])
      repeat (first | (refine Ord.e_p (v := ?_) rfl (by rfl) ?_ ?_; rotate_left; · (intro w2; go_simp; try with_reducible rfl)) | (refine Ord.e_u (by rfl) ?_)); (try simp only [Act.put, List.setIfInBounds_toArray, List.set_cons_zero, List.set_cons_succ])
      refine Ord.e_nil ?_
      go_wp2
      go_ret
      exact ⟨rfl, hbv3⟩
    · have h3' : ¬ (T3.err : Int) = 0 := by omega
      have K := Lib.hid (Hnone.out h3)
      have k4' : (T3.size : Int) = 0 := by have := K.out.2.2.2; omega
      go_wp2_with fail
      go_fit (num15_any _ _)
      rintro e wv ⟨rfl, rfl⟩
      go_wp2_with fail
      go_fit (frSame_any _ _ Au nu ku _ T3.p _ _ none 0 0 0 [] _ hrv (Nat.le_refl _) (Rd.none_ _ _ _) (by omega))
      rintro e wx ⟨rfl, hbx⟩
      rw [decide_eq_true ⟨by have := K.out.1; omega, by have := K.out.2.1; omega, K.out.2.2.1⟩]
      go_wp2
      go_ret
      exact ⟨rfl, bnx hbv hbx⟩

end Go.Proofs.Ytglfhdkknhdphaa
