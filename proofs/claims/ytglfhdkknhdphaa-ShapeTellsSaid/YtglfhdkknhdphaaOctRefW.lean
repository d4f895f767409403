/-
  The document's answer for layer 4 (landfallref04), its writer.
-/
import Derived.Test.YtglfhdkknhdphaaOctWr2
import Derived.Test.YtglfhdkknhdphaaOctRef
set_option linter.unusedSimpArgs false
set_option linter.unusedVariables false
namespace Go.Proofs.Ytglfhdkknhdphaa
open Go.RowKit NumLaw

theorem ret_bool {a b : Bool} (h : a = b) : Ending.returned (.bool a) = .returned (.bool b) := by rw [h]

/- Bytes -/
set_option maxHeartbeats 400000 in
theorem qBytes_any (n u : Nat) (w : World) (hn : n ≤ 8) (hu : u < 18446744073709551616) :
    Calls Try.prog 80 #[.int .i64 n, .int .u64 u] w (RetB w (bytesN n u)) := by
  obtain ⟨i0, hi⟩ := info_parts u8_info
  have Hi := Lib.hid hi
  clear hi
  go_enter Try.func80, Try.ntmps80
  go_wp2
  go_loopw [1, 5, 6] (fun v s i wr => ∃ (k : Nat) (A : Option Addr) (c : Nat), k ≤ n ∧ i = .int .i64 k ∧ v = .int .u64 ((u / 256 ^ k : Nat) : Int) ∧ s = .slice A k c ∧ wr.ownsRow w.heap.size 5 1 (.slice A k c) k (bv ((bytesN n u).take k)) ∧ Below w.heap.size w wr) (fun _ _ i _ => n - (intOf i).toNat)
  case atStart => exact ⟨0, none, 0, by omega, rfl, by simp, rfl, World.ownsRow_nil _ _ _ _, Below.refl _ _⟩
  case round =>
    obtain ⟨k, A, c, hk, rfl, rfl, rfl, hown, hb⟩ := hrel
    by_cases hlt : k < n
    · have ht := bytesN_take (u := u) hlt
      have hv : u / 256 ^ (k + 1) = u / 256 ^ k / 256 := by rw [Nat.pow_succ, ← Nat.div_div_eq_div_mul]
      have hvl : u / 256 ^ k < 18446744073709551616 := Nat.lt_of_le_of_lt (Nat.div_le_self _ _) hu
      have Ht := Lib.hid (And.intro ht hv)
      clear ht hv
      generalize u / 256 ^ k = v at *
      have hnew : Rd (wr.alloc (.cells #[.int .u8 ((v : Int) % 256)] 5)) (wr.heap.size + 1) 1 (some ⟨wr.heap.size, 0, none⟩) 1 1 (bv [UInt8.ofNat (v % 256)]) := by
        have := rd_const wr 5 [UInt8.ofNat (v % 256)] (0, 0) (by simp [maxLen])
        have e1 : (UInt8.ofNat (v % 256)).toNat = v % 256 := by rw [UInt8.toNat_ofNat']; omega
        simpa [bv, e1] using this
      have hown2 := hown.alloc (.cells #[.int .u8 ((v : Int) % 256)] 5)
      have hsz := hb.size
      go_wp2_with (at_builtin; refine stop_ ?_)
      refine go_ (wpList_app (base := w.heap.size) Try.underlying22 Hi.out rfl (by omega) hown2 rfl hnew rfl (bv_one _) (k := k + 1) rfl (bv_app _ _).symm (by unfold maxLen; omega) (by omega) (by simp; omega) ?_)
      intro A3 c3 w3 hown3 hup3
      have hb3 : Below w.heap.size w w3 := hup3 (hb.alloc hb.size _) (by simp; omega) (Nat.le_refl _)
      rw [← Ht.out.1] at hown3
      clear hup3 hb hown hown2 hnew
      go_wp2
      go_roundw
      case rel => exact ⟨k + 1, A3, c3, by omega, by go_num, by rw [Ht.out.2]; exact val_int (by omega), rfl, hown3, hb3⟩
      case measure => simp [intOf]; omega
    · obtain rfl : k = n := by omega
      have ht : (bytesN k u).take k = bytesN k u := List.take_of_length_le (by rw [bytesN_len]; exact Nat.le_refl _)
      rw [ht] at hown
      go_wp2
      go_ret
      exact ⟨A, c, k, rfl, hown, hb⟩

/- FitsU -/
theorem half_two (n : Nat) (h : 1 ≤ n) : 2 * (128 * 256 ^ (n - 1)) = 256 ^ n := by
  obtain ⟨j, rfl⟩ : ∃ j, n = j + 1 := ⟨n - 1, by omega⟩
  simp only [Nat.add_sub_cancel, Nat.pow_succ]; omega
set_option maxHeartbeats 400000 in
theorem qFitsU_any (n : Int) (u : Nat) (w : World) (hu : u < 18446744073709551616) :
    Calls Try.prog 79 #[.int .i64 n, .int .u64 u] w fun e w' => e = .returned (.bool (fU n u)) ∧ w = w' := by
  obtain ⟨b, hb⟩ : ∃ b, b = fU n u := ⟨_, rfl⟩
  rw [← hb]
  rcases (by omega : n < 1 ∨ 8 < n ∨ n = 8 ∨ (1 ≤ n ∧ n ≤ 7)) with h1 | h1 | rfl | ⟨h1, h2⟩
  · obtain rfl : b = false := by rw [hb]; unfold fU; rw [decide_eq_false]; omega
    clear hb
    go_enter Try.func79, Try.ntmps79
    go_wp2
    go_ret
    exact ⟨rfl, rfl⟩
  · obtain rfl : b = false := by rw [hb]; unfold fU; rw [decide_eq_false]; omega
    clear hb
    go_enter Try.func79, Try.ntmps79
    go_wp2
    go_ret
    exact ⟨rfl, rfl⟩
  · obtain rfl : b = true := by
      rw [hb]; unfold fU
      rw [decide_eq_true]
      exact ⟨by omega, by omega, hu⟩
    clear hb
    go_enter Try.func79, Try.ntmps79
    go_wp2
    go_ret
    exact ⟨rfl, rfl⟩
  · obtain ⟨k, rfl⟩ : ∃ k : Nat, n = k := ⟨n.toNat, by omega⟩
    have hh := half_any k w (by omega) (by omega)
    have h2k := half_two k (by omega)
    have hle : 256 ^ k ≤ 256 ^ 7 := Nat.pow_le_pow_right (by omega) (by omega)
    have h4 : (256 : Nat) ^ 7 = 72057594037927936 := by decide
    have hbb : b = decide (u < 256 ^ k) := by
      rw [hb]; unfold fU
      rw [Int.toNat_natCast, decide_eq_decide]
      exact ⟨fun h => h.2.2, fun h => ⟨by omega, by omega, h⟩⟩
    rw [← h2k] at hbb hle
    clear hb h2k
    generalize 128 * 256 ^ (k - 1) = d at *
    have hd : d ≤ 36028797018963968 := by omega
    have Hb := Lib.hid hbb
    clear hbb hle h4
    go_enter Try.func79, Try.ntmps79
    go_wp2_with fail
    go_fit hh
    rintro x w1 ⟨rfl, rfl⟩
    go_wp2
    go_ret
    rw [Hb.out]
    refine ⟨ret_bool ?_, rfl⟩
    rw [show ((k : Int) == 8) = false from by rw [beq_eq_false_iff_ne]; omega, Bool.false_or, decide_eq_decide]
    omega

/- FitsI -/
set_option maxHeartbeats 400000 in
theorem qFitsI_any (n i : Int) (w : World) (hi : -9223372036854775808 ≤ i ∧ i ≤ 9223372036854775807) :
    Calls Try.prog 81 #[.int .i64 n, .int .i64 i] w fun e w' => e = .returned (.bool (fI n i)) ∧ w = w' := by
  obtain ⟨b, hb⟩ : ∃ b, b = fI n i := ⟨_, rfl⟩
  rw [← hb]
  rcases (by omega : n < 1 ∨ 8 < n ∨ (1 ≤ n ∧ n ≤ 8)) with h1 | h1 | ⟨h1, h2⟩
  · obtain rfl : b = false := by rw [hb]; unfold fI; rw [decide_eq_false]; omega
    clear hb
    go_enter Try.func81, Try.ntmps81
    go_wp2
    go_ret
    exact ⟨rfl, rfl⟩
  · obtain rfl : b = false := by rw [hb]; unfold fI; rw [decide_eq_false]; omega
    clear hb
    go_enter Try.func81, Try.ntmps81
    go_wp2
    go_ret
    exact ⟨rfl, rfl⟩
  · obtain ⟨k, rfl⟩ : ∃ k : Nat, n = k := ⟨n.toNat, by omega⟩
    have hh := half_any k w (by omega) (by omega)
    have hle : 256 ^ (k - 1) ≤ 256 ^ 7 := Nat.pow_le_pow_right (by omega) (by omega)
    have h4 : (256 : Nat) ^ 7 = 72057594037927936 := by decide
    have hbb : b = decide (-((128 * 256 ^ (k - 1) : Nat) : Int) ≤ i ∧ i < ((128 * 256 ^ (k - 1) : Nat) : Int)) := by
      rw [hb]; unfold fI
      rw [Int.toNat_natCast, decide_eq_decide]
      simp only [Int.natCast_mul, Int.natCast_pow]
      exact ⟨fun h => h.2.2, fun h => ⟨by omega, by omega, h⟩⟩
    have hd : 128 * 256 ^ (k - 1) ≤ 9223372036854775808 := by omega
    clear hb hle h4
    generalize 128 * 256 ^ (k - 1) = d at *
    have Hb := Lib.hid hbb
    clear hbb
    go_enter Try.func81, Try.ntmps81
    by_cases h0 : 0 ≤ i
    · go_wp2_with fail
      go_fit hh
      rintro x w1 ⟨rfl, rfl⟩
      go_wp2
      all_goals
        go_ret
        refine ⟨ret_bool ?_, rfl⟩
        rw [Hb.out]
        first
        | (rw [decide_eq_decide]; omega)
        | exact (decide_eq_true (by omega)).symm
    · go_wp2_with fail
      go_fit hh
      rintro x w1 ⟨rfl, rfl⟩
      go_wp2
      all_goals
        go_ret
        refine ⟨ret_bool ?_, rfl⟩
        rw [Hb.out]
        first
        | (rw [decide_eq_decide]; omega)
        | exact (decide_eq_true (by omega)).symm

/-- A writer as a plain value: its bytes in new memory (or none). -/
def RetP (w : World) (l : List UInt8) (bad : Bool) (e : Ending) (w' : World) : Prop :=
  ∃ A n c, e = .returned (.agg #[.slice A n c, .bool bad]) ∧ w'.ownsRow w.heap.size 5 1 (.slice A n c) n (bv l) ∧ (bad = true → A = none ∧ n = 0 ∧ c = 0) ∧ Below w.heap.size w w'
/- PutRaw -/
set_option maxRecDepth 10000 in
set_option maxHeartbeats 1000000 in
theorem qPutRaw_ok (A : Option Addr) (n c B : Nat) (l : List UInt8) (A2 : Option Addr) (n2 c2 B2 : Nat) (l2 : List UInt8) (w : World) (h : Rd w B 1 A n c (bv l)) (hB : B ≤ w.heap.size) (h2 : Rd w B2 1 A2 n2 c2 (bv l2)) (hB2 : B2 ≤ w.heap.size) (hn : n + n2 ≤ 1000000000) :
    Calls Try.prog 35 #[.agg #[.slice A n c, .bool false], .slice A2 n2 c2] w (RetP w (l ++ l2) false) := by
  obtain ⟨i0, hi⟩ := info_parts u8_info
  have Hi := Lib.hid hi
  clear hi
  have hb0 : Below (w.heap.size + 2) ((w.alloc (.cells #[.slice A n c, .bool false] 46)).alloc (.cells #[.slice none 0 0, .bool false] 46)) (((w.alloc (.cells #[.slice A n c, .bool false] 46)).alloc (.cells #[.slice none 0 0, .bool false] 46)).alloc (.cells #[] 5)) := (Below.refl _ _).alloc (by simp) _
  have hbw : Below w.heap.size w ((w.alloc (.cells #[.slice A n c, .bool false] 46)).alloc (.cells #[.slice none 0 0, .bool false] 46)) := ((Below.refl _ _).alloc (Nat.le_refl _) _).alloc (by simp) _
  have hown0 := own_empty ((w.alloc (.cells #[.slice A n c, .bool false] 46)).alloc (.cells #[.slice none 0 0, .bool false] 46)) (w.heap.size + 2) 5 (by simp) 1
  simp only [World.size_alloc] at hown0
  have hk := blk_new2 w (.cells #[.slice A n c, .bool false] 46) (.cells #[.slice none 0 0, .bool false] 46)
  go_enter Try.func35, Try.ntmps35
  go_wp2_with (at_builtin; refine stop_ ?_)
  refine go_ (wpList_app (base := w.heap.size + 2) (n := 0) (xs := []) Try.underlying22 Hi.out rfl (by omega) hown0 rfl (h.up ((hbw.mono hB).trans (hb0.mono (by omega)))) rfl (bv_one _) (Nat.zero_add _) (List.nil_append _) (by unfold maxLen; omega) (by omega) (by simp) ?_)
  intro A3 c3 w3 hown3 hup3
  have hb3 := hup3 hb0 (by simp) (Nat.le_refl _)
  have h23 := h2.up ((hbw.mono hB2).trans (hb3.mono (by omega)))
  clear hup3 hown0 hb0
  go_wp2_with (at_builtin; refine stop_ ?_)
  refine go_ (wpList_app (base := w.heap.size + 2) Try.underlying22 Hi.out rfl (by omega) hown3 rfl h23 rfl (bv_one _) rfl (bv_app _ _).symm (by unfold maxLen; omega) (by omega) (by have := hb3.size; simp at this; omega) ?_)
  intro A4 c4 w4 hown4 hup4
  have hb4 := hup4 hb3 (by have := hb3.size; simp at this; omega) (Nat.le_refl _)
  clear hup4 hown3 h23 hb3
  have hk0 := blk_old hk hb4 (by omega)
  have hk1 := blk_set (i := 0) hk0 (.slice A4 (n + n2) c4)
  have hk2 := blk_set (i := 1) hk1 (.bool false)
  have s1 : w4.cell? ⟨w.heap.size + 1, 0, none⟩ = some (.slice none 0 0) := blk_cell hk0 rfl
  have s2 := blk_free (i := 0) hk0
  have s3 : (w4.setCell ⟨w.heap.size + 1, 0, none⟩ (.slice A4 (n + n2) c4)).cell? ⟨w.heap.size + 1, 1, none⟩ = some (.bool false) := blk_cell hk1 rfl
  have s4 := blk_free (i := 1) hk1
  have e1 := blk_cell (i := 0) (v := .slice A4 (n + n2) c4) hk2 rfl
  have e2 := blk_cell (i := 1) (v := .bool false) hk2 rfl
  have hown5 := own_mono (own_set (own_set hown4 (show w.heap.size + 1 < w.heap.size + 2 by omega) (i := 0) (.slice A4 (n + n2) c4)) (show w.heap.size + 1 < w.heap.size + 2 by omega) (i := 1) (.bool false)) (show w.heap.size ≤ w.heap.size + 2 by omega)
  have hb5 : Below w.heap.size w ((w4.setCell ⟨w.heap.size + 1, 0, none⟩ (.slice A4 (n + n2) c4)).setCell ⟨w.heap.size + 1, 1, none⟩ (.bool false)) := ((hbw.trans (hb4.mono (by omega))).setCell (p := ⟨w.heap.size + 1, 0, none⟩) (by show w.heap.size ≤ w.heap.size + 1; omega) _).setCell (p := ⟨w.heap.size + 1, 1, none⟩) (by show w.heap.size ≤ w.heap.size + 1; omega) _
  clear hk hk0 hk1 hk2 hbw hb4 hown4
  go_wp2
  refine bodyPost_ret (v := .agg #[.slice A4 (n + n2) c4, .bool false]) (by simp [results, go_sem, e1, e2]) rfl ?_
  exact ⟨A4, n + n2, c4, rfl, hown5, (by intro h; cases h), hb5⟩
theorem qPutRaw_bad (A2 : Option Addr) (n2 c2 : Nat) (w : World) :
    Calls Try.prog 35 #[.agg #[.slice none 0 0, .bool true], .slice A2 n2 c2] w (RetP w [] true) := by
  go_enter Try.func35, Try.ntmps35
  go_wp2
  refine bodyPost_ret (v := .agg #[.slice none 0 0, .bool true]) (by simp [results, go_sem]) rfl ?_
  exact ⟨none, 0, 0, rfl, World.ownsRow_nil _ _ _ _, fun _ => ⟨rfl, rfl, rfl⟩, ((Below.refl _ _).alloc (Nat.le_refl _) _).alloc (by simp) _⟩

/- PutU -/
set_option maxRecDepth 10000 in
set_option maxHeartbeats 1000000 in
theorem qPutU_any (A : Option Addr) (m c B : Nat) (l : List UInt8) (bad : Bool) (n : Int) (u : Nat) (w : World) (h : Rd w B 1 A m c (bv l)) (hB : B ≤ w.heap.size) (hu : u < 18446744073709551616) (hm : m ≤ 1000000) :
    Calls Try.prog 31 #[.agg #[.slice A m c, .bool bad], .int .i64 n, .int .u64 u] w (RetP w (wtB bad (fU n u) l (bytesN n.toNat u)) (bad || !fU n u)) := by
  have hb0 : Below w.heap.size w ((w.alloc (.cells #[.slice A m c, .bool bad] 46)).alloc (.cells #[.slice none 0 0, .bool false] 46)) := ((Below.refl _ _).alloc (Nat.le_refl _) _).alloc (by simp) _
  have hfit := qFitsU_any n u ((w.alloc (.cells #[.slice A m c, .bool bad] 46)).alloc (.cells #[.slice none 0 0, .bool false] 46)) hu
  obtain ⟨b, hbq⟩ : ∃ b, b = fU n u := ⟨_, rfl⟩
  rw [← hbq] at hfit ⊢
  have hrange : b = true → 1 ≤ n ∧ n ≤ 8 := fun h => by
    rw [hbq] at h
    have := of_decide_eq_true h
    exact ⟨this.1, this.2.1⟩
  clear hbq
  cases bad with
  | true =>
    go_enter Try.func31, Try.ntmps31
    go_wp2
    refine bodyPost_ret (v := .agg #[.slice none 0 0, .bool true]) (by simp [results, go_sem]) rfl ?_
    exact ⟨none, 0, 0, rfl, World.ownsRow_nil _ _ _ _, fun _ => ⟨rfl, rfl, rfl⟩, ((Below.refl _ _).alloc (Nat.le_refl _) _).alloc (by simp) _⟩
  | false =>
    cases b with
    | false =>
      go_enter Try.func31, Try.ntmps31
      go_wp2_with fail
      go_fit hfit
      rintro e w1 ⟨rfl, rfl⟩
      go_wp2
      refine bodyPost_ret (v := .agg #[.slice none 0 0, .bool true]) (by simp [results, go_sem]) rfl ?_
      exact ⟨none, 0, 0, rfl, World.ownsRow_nil _ _ _ _, fun _ => ⟨rfl, rfl, rfl⟩, ((Below.refl _ _).alloc (Nat.le_refl _) _).alloc (by simp) _⟩
    | true =>
      obtain ⟨h1, h8⟩ := hrange rfl
      obtain ⟨k, rfl⟩ : ∃ k : Nat, n = k := ⟨n.toNat, by omega⟩
      clear hrange
      have hr0 : ((w.alloc (.cells #[.slice A m c, .bool false] 46)).alloc (.cells #[.slice none 0 0, .bool false] 46)).rangeAt w.heap.size 0 [.slice A m c, .bool false] := own_range (heap_alloc2_old w _ _) 0 (fun j v hv => by simpa using hv)
      have hk0 := blk_new2 w (.cells #[.slice A m c, .bool false] 46) (.cells #[.slice none 0 0, .bool false] 46)
      have hsz : ((w.alloc (.cells #[.slice A m c, .bool false] 46)).alloc (.cells #[.slice none 0 0, .bool false] 46)).heap.size = w.heap.size + 2 := by simp
      have h0 := h.up (hb0.mono hB)
      go_enter Try.func31, Try.ntmps31
      go_wp2_with fail
      go_fit hfit
      rintro e w1 ⟨rfl, rfl⟩
      go_wp2_with fail
      refine Ord.region_ (fun _ => True) true [16] (by kernel_rfl) (by kernel_rfl) trivial ?_
      replace hr0 := range_drew hr0
      replace hk0 : ((w.alloc (.cells #[.slice A m c, .bool false] 46)).alloc (.cells #[.slice none 0 0, .bool false] 46)).drew.heap[w.heap.size + 1]? = _ := hk0
      replace hsz : ((w.alloc (.cells #[.slice A m c, .bool false] 46)).alloc (.cells #[.slice none 0 0, .bool false] 46)).drew.heap.size = _ := hsz
      replace hb0 := hb0.drew
      replace h0 := h0.drew
      clear hfit
      generalize ((w.alloc (.cells #[.slice A m c, .bool false] 46)).alloc (.cells #[.slice none 0 0, .bool false] 46)).drew = w1 at *
      refine Ord.e_row Try.underlying46 rfl (by kernel_rfl) rfl hr0 (by rfl) (by rfl) ?_
      (try simp only [Act.put, List.setIfInBounds_toArray, List.set_cons_zero, List.set_cons_succ])
      repeat (first | (refine Ord.e_p (v := ?_) rfl (by rfl) ?_ ?_; rotate_left; · (intro w2; go_simp; try with_reducible rfl)) | (refine Ord.e_u (by rfl) ?_)); (try simp only [Act.put, List.setIfInBounds_toArray, List.set_cons_zero, List.set_cons_succ])
      refine Ord.e_x rfl (by rfl) ?_
      go_wp2_with fail
      have hby := qBytes_any k u w1 (by omega) (hu)
      go_fit hby
      rintro e w2 ⟨A2, c2, n2, rfl, hown2, hb2⟩
      have hn2 := own_len hown2
      rw [bytesN_len] at hn2
      subst hn2
      go_wp2_with fail
      refine Ord.Seg.go trivial (fun _ => hb2) ?_
      (try simp only [Act.put, List.setIfInBounds_toArray, List.set_cons_zero, List.set_cons_succ])
      refine Ord.e_x rfl (by rfl) ?_
      go_wp2_with fail
      go_fit (qPutRaw_ok A m c B l A2 k c2 w2.heap.size _ w2 (h0.up (hb2.mono (Nat.le_trans hB hb0.size))) (Nat.le_trans hB (Nat.le_trans hb0.size hb2.size)) (Rd.own hown2) (Nat.le_refl _) (by omega))
      rintro e w3 ⟨A3, n3, c3, rfl, hown3, hz3, hb3⟩
      go_wp2_with fail
      refine Ord.Seg.go trivial (fun _ => hb3) ?_
      (try simp only [Act.put, List.setIfInBounds_toArray, List.set_cons_zero, List.set_cons_succ])
      refine Ord.e_x rfl (by rfl) ?_
      have hk3 := blk_old (blk_old hk0 hb2 (by omega)) hb3 (by have := hb2.size; omega)
      have hbw := bnx (bnx hb0 hb2) hb3
      have hk1 := blk_set (i := 0) hk3 (.slice A3 n3 c3)
      have hk2 := blk_set (i := 1) hk1 (.bool false)
      have s1 : w3.cell? ⟨w.heap.size + 1, 0, none⟩ = some (.slice none 0 0) := blk_cell hk3 rfl
      have s2 := blk_free (i := 0) hk3
      have s3 : (w3.setCell ⟨w.heap.size + 1, 0, none⟩ (.slice A3 n3 c3)).cell? ⟨w.heap.size + 1, 1, none⟩ = some (.bool false) := blk_cell hk1 rfl
      have s4 := blk_free (i := 1) hk1
      have e1 := blk_cell (i := 0) (v := .slice A3 n3 c3) hk2 rfl
      have e2 := blk_cell (i := 1) (v := .bool false) hk2 rfl
      have hlt : w.heap.size + 1 < w2.heap.size := by have := hb2.size; omega
      have hown5 := own_mono (own_set (own_set hown3 hlt (i := 0) (.slice A3 n3 c3)) hlt (i := 1) (.bool false)) (show w.heap.size ≤ w2.heap.size by omega)
      have hb5 : Below w.heap.size w ((w3.setCell ⟨w.heap.size + 1, 0, none⟩ (.slice A3 n3 c3)).setCell ⟨w.heap.size + 1, 1, none⟩ (.bool false)) := (hbw.setCell (p := ⟨w.heap.size + 1, 0, none⟩) (by show w.heap.size ≤ w.heap.size + 1; omega) _).setCell (p := ⟨w.heap.size + 1, 1, none⟩) (by show w.heap.size ≤ w.heap.size + 1; omega) _
      clear hk3 hk1 hk2 hbw hby hown2 hb2 hb3 hown3 hr0 hk0
      go_wp2
      generalize ((w3.setCell ⟨w.heap.size + 1, 0, none⟩ (.slice A3 n3 c3)).setCell ⟨w.heap.size + 1, 1, none⟩ (.bool false)) = w4 at *
      refine Ord.Seg.go trivial (fun h => by cases h) ?_
      (try simp only [Act.put, List.setIfInBounds_toArray, List.set_cons_zero, List.set_cons_succ])
      refine Ord.e_nil ?_
      clear s1 s2 s3 s4
      go_wp2
      refine bodyPost_ret (v := .agg #[.slice A3 n3 c3, .bool false]) (by simp [results, go_sem, e1, e2]) rfl ?_
      exact ⟨A3, n3, c3, rfl, hown5, (by intro h; cases h), hb5⟩

/- PutI -/
set_option maxRecDepth 10000 in
set_option maxHeartbeats 1000000 in
theorem qPutI_any (A : Option Addr) (m c B : Nat) (l : List UInt8) (bad : Bool) (n : Int) (i : Int) (w : World) (h : Rd w B 1 A m c (bv l)) (hB : B ≤ w.heap.size) (hi : -9223372036854775808 ≤ i ∧ i ≤ 9223372036854775807) (hm : m ≤ 1000000) :
    Calls Try.prog 33 #[.agg #[.slice A m c, .bool bad], .int .i64 n, .int .i64 i] w (RetP w (wtB bad (fI n i) l (bytesN n.toNat (un i))) (bad || !fI n i)) := by
  have hb0 : Below w.heap.size w ((w.alloc (.cells #[.slice A m c, .bool bad] 46)).alloc (.cells #[.slice none 0 0, .bool false] 46)) := ((Below.refl _ _).alloc (Nat.le_refl _) _).alloc (by simp) _
  have hfit := qFitsI_any n i ((w.alloc (.cells #[.slice A m c, .bool bad] 46)).alloc (.cells #[.slice none 0 0, .bool false] 46)) hi
  obtain ⟨b, hbq⟩ : ∃ b, b = fI n i := ⟨_, rfl⟩
  rw [← hbq] at hfit ⊢
  have hrange : b = true → 1 ≤ n ∧ n ≤ 8 := fun h => by
    rw [hbq] at h
    have := of_decide_eq_true h
    exact ⟨this.1, this.2.1⟩
  clear hbq
  cases bad with
  | true =>
    go_enter Try.func33, Try.ntmps33
    go_wp2
    refine bodyPost_ret (v := .agg #[.slice none 0 0, .bool true]) (by simp [results, go_sem]) rfl ?_
    exact ⟨none, 0, 0, rfl, World.ownsRow_nil _ _ _ _, fun _ => ⟨rfl, rfl, rfl⟩, ((Below.refl _ _).alloc (Nat.le_refl _) _).alloc (by simp) _⟩
  | false =>
    cases b with
    | false =>
      go_enter Try.func33, Try.ntmps33
      go_wp2_with fail
      go_fit hfit
      rintro e w1 ⟨rfl, rfl⟩
      go_wp2
      refine bodyPost_ret (v := .agg #[.slice none 0 0, .bool true]) (by simp [results, go_sem]) rfl ?_
      exact ⟨none, 0, 0, rfl, World.ownsRow_nil _ _ _ _, fun _ => ⟨rfl, rfl, rfl⟩, ((Below.refl _ _).alloc (Nat.le_refl _) _).alloc (by simp) _⟩
    | true =>
      obtain ⟨h1, h8⟩ := hrange rfl
      obtain ⟨k, rfl⟩ : ∃ k : Nat, n = k := ⟨n.toNat, by omega⟩
      clear hrange
      have hr0 : ((w.alloc (.cells #[.slice A m c, .bool false] 46)).alloc (.cells #[.slice none 0 0, .bool false] 46)).rangeAt w.heap.size 0 [.slice A m c, .bool false] := own_range (heap_alloc2_old w _ _) 0 (fun j v hv => by simpa using hv)
      have hk0 := blk_new2 w (.cells #[.slice A m c, .bool false] 46) (.cells #[.slice none 0 0, .bool false] 46)
      have hsz : ((w.alloc (.cells #[.slice A m c, .bool false] 46)).alloc (.cells #[.slice none 0 0, .bool false] 46)).heap.size = w.heap.size + 2 := by simp
      have h0 := h.up (hb0.mono hB)
      go_enter Try.func33, Try.ntmps33
      go_wp2_with fail
      go_fit hfit
      rintro e w1 ⟨rfl, rfl⟩
      go_wp2_with fail
      refine Ord.region_ (fun _ => True) true [16] (by kernel_rfl) (by kernel_rfl) trivial ?_
      replace hr0 := range_drew hr0
      replace hk0 : ((w.alloc (.cells #[.slice A m c, .bool false] 46)).alloc (.cells #[.slice none 0 0, .bool false] 46)).drew.heap[w.heap.size + 1]? = _ := hk0
      replace hsz : ((w.alloc (.cells #[.slice A m c, .bool false] 46)).alloc (.cells #[.slice none 0 0, .bool false] 46)).drew.heap.size = _ := hsz
      replace hb0 := hb0.drew
      replace h0 := h0.drew
      clear hfit
      generalize ((w.alloc (.cells #[.slice A m c, .bool false] 46)).alloc (.cells #[.slice none 0 0, .bool false] 46)).drew = w1 at *
      refine Ord.e_row Try.underlying46 rfl (by kernel_rfl) rfl hr0 (by rfl) (by rfl) ?_
      (try simp only [Act.put, List.setIfInBounds_toArray, List.set_cons_zero, List.set_cons_succ])
      repeat (first | (refine Ord.e_p (v := ?_) rfl (by rfl) ?_ ?_; rotate_left; · (intro w2; go_simp; try with_reducible rfl)) | (refine Ord.e_u (by rfl) ?_)); (try simp only [Act.put, List.setIfInBounds_toArray, List.set_cons_zero, List.set_cons_succ])
      refine Ord.e_x rfl (by rfl) ?_
      go_wp2_with fail
      have hby := qBytes_any k (un i) w1 (by omega) (un_lt i)
      rw [← un_wrap] at hby
      go_fit hby
      rintro e w2 ⟨A2, c2, n2, rfl, hown2, hb2⟩
      have hn2 := own_len hown2
      rw [bytesN_len] at hn2
      subst hn2
      go_wp2_with fail
      refine Ord.Seg.go trivial (fun _ => hb2) ?_
      (try simp only [Act.put, List.setIfInBounds_toArray, List.set_cons_zero, List.set_cons_succ])
      refine Ord.e_x rfl (by rfl) ?_
      go_wp2_with fail
      go_fit (qPutRaw_ok A m c B l A2 k c2 w2.heap.size _ w2 (h0.up (hb2.mono (Nat.le_trans hB hb0.size))) (Nat.le_trans hB (Nat.le_trans hb0.size hb2.size)) (Rd.own hown2) (Nat.le_refl _) (by omega))
      rintro e w3 ⟨A3, n3, c3, rfl, hown3, hz3, hb3⟩
      go_wp2_with fail
      refine Ord.Seg.go trivial (fun _ => hb3) ?_
      (try simp only [Act.put, List.setIfInBounds_toArray, List.set_cons_zero, List.set_cons_succ])
      refine Ord.e_x rfl (by rfl) ?_
      have hk3 := blk_old (blk_old hk0 hb2 (by omega)) hb3 (by have := hb2.size; omega)
      have hbw := bnx (bnx hb0 hb2) hb3
      have hk1 := blk_set (i := 0) hk3 (.slice A3 n3 c3)
      have hk2 := blk_set (i := 1) hk1 (.bool false)
      have s1 : w3.cell? ⟨w.heap.size + 1, 0, none⟩ = some (.slice none 0 0) := blk_cell hk3 rfl
      have s2 := blk_free (i := 0) hk3
      have s3 : (w3.setCell ⟨w.heap.size + 1, 0, none⟩ (.slice A3 n3 c3)).cell? ⟨w.heap.size + 1, 1, none⟩ = some (.bool false) := blk_cell hk1 rfl
      have s4 := blk_free (i := 1) hk1
      have e1 := blk_cell (i := 0) (v := .slice A3 n3 c3) hk2 rfl
      have e2 := blk_cell (i := 1) (v := .bool false) hk2 rfl
      have hlt : w.heap.size + 1 < w2.heap.size := by have := hb2.size; omega
      have hown5 := own_mono (own_set (own_set hown3 hlt (i := 0) (.slice A3 n3 c3)) hlt (i := 1) (.bool false)) (show w.heap.size ≤ w2.heap.size by omega)
      have hb5 : Below w.heap.size w ((w3.setCell ⟨w.heap.size + 1, 0, none⟩ (.slice A3 n3 c3)).setCell ⟨w.heap.size + 1, 1, none⟩ (.bool false)) := (hbw.setCell (p := ⟨w.heap.size + 1, 0, none⟩) (by show w.heap.size ≤ w.heap.size + 1; omega) _).setCell (p := ⟨w.heap.size + 1, 1, none⟩) (by show w.heap.size ≤ w.heap.size + 1; omega) _
      clear hk3 hk1 hk2 hbw hby hown2 hb2 hb3 hown3 hr0 hk0
      go_wp2
      generalize ((w3.setCell ⟨w.heap.size + 1, 0, none⟩ (.slice A3 n3 c3)).setCell ⟨w.heap.size + 1, 1, none⟩ (.bool false)) = w4 at *
      refine Ord.Seg.go trivial (fun h => by cases h) ?_
      (try simp only [Act.put, List.setIfInBounds_toArray, List.set_cons_zero, List.set_cons_succ])
      refine Ord.e_nil ?_
      clear s1 s2 s3 s4
      go_wp2
      refine bodyPost_ret (v := .agg #[.slice A3 n3 c3, .bool false]) (by simp [results, go_sem, e1, e2]) rfl ?_
      exact ⟨A3, n3, c3, rfl, hown5, (by intro h; cases h), hb5⟩

end Go.Proofs.Ytglfhdkknhdphaa
