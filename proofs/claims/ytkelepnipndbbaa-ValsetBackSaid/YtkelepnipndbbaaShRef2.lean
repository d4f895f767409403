/-
  The document's shapes: room, Right, Width walked; the law ShapeFields walked.
-/
import Derived.Test.YtkelepnipndbbaaShRef1
import Derived.Test.YtkelepnipndbbaaShapeLaw
set_option linter.unusedSimpArgs false
set_option linter.unusedVariables false
namespace Go.Proofs.Ytkelepnipndbbaa
open Go.RowKit NumLaw
attribute [local go_sem] Addr.add_mid

set_option maxRecDepth 10000 in
set_option maxHeartbeats 2000000 in
theorem qroom_any (f : FieldV) (n : Int) (w : World) : Calls Try.prog 167 #[fv f, .int .i64 n] w fun e w' => e = .returned (.bool (inF (anyF f.size f.sg) n)) ∧ Below w.heap.size w w' := by
  have hany := fun w => qAny14_any f.size f.sg w
  obtain ⟨a0, a1, a2, a3, ha⟩ : ∃ a0 a1 a2 a3, anyF f.size f.sg = ⟨a0, a1, a2, a3⟩ := ⟨_, _, _, _, rfl⟩
  rw [ha] at hany ⊢
  clear ha
  obtain ⟨size, sg, lo, hi⟩ := f
  have hbx : Below w.heap.size w (w.alloc (.cells #[.int .i64 size, .bool sg, .int .i64 lo, .int .i64 hi] 80)) := (Below.refl _ _).alloc (Nat.le_refl _) _
  unfold fv inF at *
  simp only at hany
  have Hany := Lib.hid hany
  clear hany
  rcases (by omega : n < a2 ∨ (a2 ≤ n ∧ n ≤ a3) ∨ (a2 ≤ n ∧ a3 < n)) with h | ⟨h1, h2⟩ | ⟨h1, h2⟩
  all_goals
    go_enter Try.func167, Try.ntmps167
    go_wp2_with fail
    go_fit (Hany.out _)
    rintro e w1 ⟨rfl, hb1⟩
    have hb1' := bnx hbx hb1
    have hy := heap_alloc_new w1 (.cells #[.int .i64 a0, .bool a1, .int .i64 a2, .int .i64 a3] 80)
    have hb2 := hb1'.alloc hb1'.size (.cells #[.int .i64 a0, .bool a1, .int .i64 a2, .int .i64 a3] 80)
    have d2 := blk_cell (i := 2) (v := .int .i64 a2) hy rfl
    have d3 := blk_cell (i := 3) (v := .int .i64 a3) hy rfl
    clear hy hb1 hb1'
    go_wp2
    go_ret
    refine ⟨?_, hb2⟩
    simp
    try omega

set_option maxRecDepth 10000 in
set_option maxHeartbeats 4000000 in
theorem qRight_any (A : Option Addr) (n c B : Nat) (l : List FieldV) (w : World) (h : RdF w B A n c l) (hB : B ≤ w.heap.size) :
    Calls Try.prog 143 #[.slice A n c] w fun e w' => e = .returned (.bool (rightL l)) ∧ Below w.heap.size w w' := by
  have hle := h.2.1
  have hm := h.2.2.1
  have Hl := Lib.hid h.1
  unfold maxLen at hm
  obtain ⟨r, hr⟩ : ∃ r, r = rightL l := ⟨_, rfl⟩
  rw [← hr]
  have HR := Lib.hid hr
  clear hr
  go_enter Try.func143, Try.ntmps143
  go_wp2_with fail
  go_loopw [3] (fun i wr => ∃ (k : Nat), k ≤ n ∧ i = .int .i64 k ∧ Below w.heap.size w wr ∧ Hid (rightL (l.take k) = true)) (fun i _ => n - (intOf i).toNat)
  case atStart => exact ⟨0, by omega, rfl, Below.refl _ _, Lib.hid rfl⟩
  case round =>
    obtain ⟨k, hk, rfl, hb, hall⟩ := hrel
    by_cases hlt : k < n
    · obtain ⟨g, off, f, rfl, hg, hx, h1, h2, h3, h4, _⟩ := (h.up (hb.mono hB)).at_ hlt
      have Hs : Hid (rightL (l.take (k + 1)) = rightF f) := Lib.hid (by have h0 := hall.out; unfold rightL at h0 ⊢; rw [take_succ hx, List.all_append, h0]; simp)
      have Hm : Hid (rightF f = false → r = false) := Lib.hid (fun hb => by
        rw [HR.out]
        unfold rightL
        rw [List.all_eq_false]
        exact ⟨f, List.mem_of_getElem? hx, by rw [hb]; simp⟩)
      have hlo := fun w => qroom_any f f.lo w
      have hhi := fun w => qroom_any f f.hi w
      obtain ⟨b3, hb3⟩ : ∃ b3, b3 = inF (anyF f.size f.sg) f.lo := ⟨_, rfl⟩
      obtain ⟨b4, hb4⟩ : ∃ b4, b4 = inF (anyF f.size f.sg) f.hi := ⟨_, rfl⟩
      rw [← hb3] at hlo
      rw [← hb4] at hhi
      have HE : Hid (rightF f = (fitsF f.size && decide (f.lo ≤ f.hi) && b3 && b4)) := Lib.hid (by unfold rightF; rw [hb3, hb4])
      clear hb3 hb4
      obtain ⟨size, sg, lo, hi⟩ := f
      simp only at h1 h2 h3 h4 hlo hhi HE
      unfold fv at hlo hhi
      simp only at hlo hhi
      have Hlo := Lib.hid hlo
      have Hhi := Lib.hid hhi
      clear hlo hhi hx
      obtain ⟨rf, hrf⟩ : ∃ rf, rf = rightF ⟨size, sg, lo, hi⟩ := ⟨_, rfl⟩
      rw [← hrf] at Hs Hm HE
      clear hrf
      have hb2 := hb.alloc hb.size (.cells #[.int .i64 size, .bool sg, .int .i64 lo, .int .i64 hi] 80)
      have hbox := heap_alloc_new wr (.cells #[.int .i64 size, .bool sg, .int .i64 lo, .int .i64 hi] 80)
      have c0 := blk_cell (i := 0) (v := .int .i64 size) hbox rfl
      have c1 := blk_cell (i := 1) (v := .bool sg) hbox rfl
      have c2 := blk_cell (i := 2) (v := .int .i64 lo) hbox rfl
      have c3 := blk_cell (i := 3) (v := .int .i64 hi) hbox rfl
      rcases (by omega : size < 1 ∨ (¬ size < 1 ∧ 8 < size) ∨ (¬ size < 1 ∧ ¬ 8 < size ∧ hi < lo) ∨ (¬ size < 1 ∧ ¬ 8 < size ∧ ¬ hi < lo)) with g1 | ⟨g1, g2⟩ | ⟨g1, g2, g3⟩ | ⟨g1, g2, g3⟩
      · obtain rfl : rf = false := by rw [HE.out, show fitsF size = false from decide_eq_false (by omega)]; rfl
        obtain rfl : r = false := Hm.out rfl
        clear Hs HE Hm
        go_wp2
        go_ret
        exact ⟨rfl, hb2⟩
      · obtain rfl : rf = false := by rw [HE.out, show fitsF size = false from decide_eq_false (by omega)]; rfl
        obtain rfl : r = false := Hm.out rfl
        clear Hs HE Hm
        go_wp2
        go_ret
        exact ⟨rfl, hb2⟩
      · obtain rfl : rf = false := by rw [HE.out, decide_eq_false (show ¬ lo ≤ hi by omega)]; simp
        obtain rfl : r = false := Hm.out rfl
        clear Hs HE Hm
        go_wp2
        go_ret
        exact ⟨rfl, hb2⟩
      · have HE2 : Hid (rf = (b3 && b4)) := Lib.hid (by rw [HE.out, show fitsF size = true from decide_eq_true (by omega), decide_eq_true (show lo ≤ hi by omega)]; simp)
        clear HE
        go_wp2_with fail
        go_fit (Hlo.out _)
        rintro e w3 ⟨rfl, hb23⟩
        have hb3 := bnx hb2 hb23
        have hbox3 := blk_old hbox hb23 (blk_lt hbox)
        clear c0 c1 c2 c3 hbox hb2 hb23
        have c0 := blk_cell (i := 0) (v := .int .i64 size) hbox3 rfl
        have c1 := blk_cell (i := 1) (v := .bool sg) hbox3 rfl
        have c2 := blk_cell (i := 2) (v := .int .i64 lo) hbox3 rfl
        have c3 := blk_cell (i := 3) (v := .int .i64 hi) hbox3 rfl
        cases b3 with
        | false =>
          obtain rfl : rf = false := HE2.out
          obtain rfl : r = false := Hm.out rfl
          clear Hs HE2 Hm
          go_wp2
          go_ret
          exact ⟨rfl, hb3⟩
        | true =>
          obtain rfl : rf = b4 := by rw [HE2.out]; rfl
          go_wp2_with fail
          go_fit (Hhi.out _)
          rintro e w4 ⟨rfl, hb34⟩
          have hb4 := bnx hb3 hb34
          cases rf with
          | false =>
            obtain rfl : r = false := Hm.out rfl
            clear Hs HE2 Hm
            go_wp2
            go_ret
            exact ⟨rfl, hb4⟩
          | true =>
            clear HE2 Hm
            go_wp2
            go_roundw
            case rel => exact ⟨k + 1, by omega, by go_num, hb4, Hs⟩
            case measure => simp [intOf]; omega
    · obtain rfl : k = n := by omega
      have ht : l.take k = l := List.take_of_length_le (by rw [Hl.out]; omega)
      rw [ht] at hall
      obtain rfl : r = true := by rw [HR.out]; exact hall.out
      go_wp2
      go_ret
      exact ⟨rfl, hb⟩

set_option maxRecDepth 10000 in
set_option maxHeartbeats 1000000 in
theorem qWidth_any (A : Option Addr) (n c B : Nat) (l : List FieldV) (w : World) (h : RdF w B A n c l) (hB : B ≤ w.heap.size) (hn : n ≤ 100000) :
    Calls Try.prog 145 #[.slice A n c] w fun e w' => e = .returned (.int .i64 (widthL l : Int)) ∧ Below w.heap.size w w' := by
  have hle := h.2.1
  have Hl := Lib.hid h.1
  have hright := qRight_any A n c B l w h hB
  cases hr : rightL l with
  | false =>
    rw [hr] at hright
    rw [show widthL l = 0 by unfold widthL; rw [hr]; rfl]
    clear hr
    go_enter Try.func145, Try.ntmps145
    go_wp2_with fail
    go_fit hright
    rintro e w1 ⟨rfl, hb1⟩
    go_wp2
    go_ret
    exact ⟨rfl, hb1⟩
  | true =>
    have Hr := Lib.hid hr
    rw [hr] at hright
    obtain ⟨tot, htot⟩ : ∃ tot, tot = widthL l := ⟨_, rfl⟩
    rw [← htot]
    have Ht : Hid (tot = sumL l) := Lib.hid (by rw [htot]; unfold widthL; rw [hr]; rfl)
    clear hr htot
    go_enter Try.func145, Try.ntmps145
    go_wp2_with fail
    go_fit hright
    rintro e w1 ⟨rfl, hb1⟩
    go_wp2_with fail
    go_loopw [3, 4] (fun s i wr => ∃ (k : Nat), k ≤ n ∧ i = .int .i64 k ∧ s = .int .i64 (sumL (l.take k) : Int) ∧ Below w.heap.size w wr) (fun _ i _ => n - (intOf i).toNat)
    case atStart => exact ⟨0, by omega, rfl, rfl, hb1⟩
    case round =>
      clear hb1 w1
      obtain ⟨k, hk, rfl, rfl, hb⟩ := hrel
      by_cases hlt : k < n
      · obtain ⟨g, off, f, rfl, hg, hx, h1, h2, h3, h4, _⟩ := (h.up (hb.mono hB)).at_ hlt
        have hfit := right_fits (List.all_eq_true.1 Hr.out _ (List.mem_of_getElem? hx))
        have hs := sumL_step hx
        have hle1 := sumL_take Hr.out k
        obtain ⟨size, sg, lo, hi⟩ := f
        simp only at h1 h2 h3 h4 hfit hs
        obtain ⟨sz, rfl⟩ : ∃ sz : Nat, size = sz := ⟨size.toNat, by omega⟩
        rw [Int.toNat_natCast] at hs
        have Hs := Lib.hid hs
        clear hs hx
        generalize sumL (l.take k) = s0 at *
        go_wp2
        go_roundw
        case rel => exact ⟨k + 1, by omega, by go_num, val_int (by rw [Hs.out]; omega), hb⟩
        case measure => simp [intOf]; omega
      · obtain rfl : k = n := by omega
        have ht : l.take k = l := List.take_of_length_le (by rw [Hl.out]; omega)
        rw [ht, ← Ht.out]
        go_wp2
        go_ret
        exact ⟨rfl, hb⟩

end Go.Proofs.Ytkelepnipndbbaa
