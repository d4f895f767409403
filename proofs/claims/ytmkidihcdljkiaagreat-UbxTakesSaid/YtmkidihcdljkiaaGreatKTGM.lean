/-
  Several texts in one: ShRef1 ShRef2 ShRef4 ShRef5 ShTells.
-/
import Derived.Test.YtmkidihcdljkiaaGreatKTGC
import Derived.Test.YtmkidihcdljkiaaGreatKTGE
import Derived.Test.YtmkidihcdljkiaaGreatKTGA
import Derived.Deep.QuietTactic
import Derived.BigQuiet
/-
  The document's shapes: Most, Any, U, I, room, Right, Width walked.
-/
set_option linter.unusedSimpArgs false
set_option linter.unusedVariables false
namespace Go.Proofs.YtmkidihcdljkiaaGreat
open Go.RowKit NumLaw
attribute [local go_sem] Addr.add_mid

def mostF (n : Int) (sg : Bool) : Int := if n = 8 then 9223372036854775807 else if sg = true then 128 * 256 ^ (n.toNat - 1) - 1 else 2 * (128 * 256 ^ (n.toNat - 1)) - 1
theorem pow_le5 {k : Nat} (h : k ≤ 5) : 128 * 256 ^ k ≤ 140737488355328 := by
  have := Nat.pow_le_pow_right (n := 256) (by omega) h
  have h4 : (256 : Nat) ^ 5 = 1099511627776 := by decide
  omega
theorem pow_le6 {k : Nat} (h : k ≤ 6) : 128 * 256 ^ k ≤ 36028797018963968 := by
  have := Nat.pow_le_pow_right (n := 256) (by omega) h
  have h4 : (256 : Nat) ^ 6 = 281474976710656 := by decide
  omega
set_option maxHeartbeats 1000000 in
theorem qMost_any (n : Int) (sg : Bool) (w : World) (h : fitsF n = true) :
    Calls Tryz.prog 93 #[.int .i64 n, .bool sg] w fun e w' => e = .returned (.int .i64 (mostF n sg)) ∧ w = w' := by
  have hb := of_decide_eq_true h
  obtain ⟨n, rfl⟩ : ∃ k : Nat, n = k := ⟨n.toNat, by omega⟩
  by_cases h8 : n = 8
  · subst h8
    go_enter Tryz.func93, Tryz.ntmps93
    go_wp2
    go_ret
    exact ⟨rfl, rfl⟩
  · have h8' : ¬ (n : Int) = 8 := by omega
    obtain ⟨D, hD⟩ : ∃ D, D = 128 * 256 ^ (n - 1) := ⟨_, rfl⟩
    have hDb : D ≤ 36028797018963968 := by rw [hD]; exact pow_le6 (by omega)
    have hm : mostF n sg = if sg = true then (D : Int) - 1 else 2 * (D : Int) - 1 := by
      unfold mostF
      rw [if_neg h8', hD]
      simp
    rw [hm]
    have HD := Lib.hid hD
    clear hD hm h
    go_enter Tryz.func93, Tryz.ntmps93
    go_wp2_with fail
    go_loop [5, 6] (fun h i => ∃ k : Nat, 1 ≤ k ∧ k ≤ n ∧ i = .int .i64 k ∧ h = .int .i64 ((128 * 256 ^ (k - 1) : Nat) : Int)) (fun _ i => n - (intOf i).toNat)
    case atStart => exact ⟨1, by omega, by omega, rfl, rfl⟩
    case round =>
      obtain ⟨k, hk1, hk, rfl, rfl⟩ := hrel
      by_cases hlt : k < n
      · have hdb := pow_le5 (k := k - 1) (by omega)
        have e : 128 * 256 ^ (k - 1) * 256 = 128 * 256 ^ (k + 1 - 1) := by
          obtain ⟨j, rfl⟩ : ∃ j, k = j + 1 := ⟨k - 1, by omega⟩
          simp only [Nat.add_sub_cancel, Nat.pow_succ]; omega
        have Hs := Lib.hid e
        clear e
        generalize 128 * 256 ^ (k - 1) = d at *
        go_wp2
        go_round
        case rel => exact ⟨k + 1, by omega, by omega, by go_num, val_int (by rw [← Hs.out]; omega)⟩
        case measure => simp [intOf]; omega
      · obtain rfl : k = n := by omega
        rw [← HD.out]
        cases sg with
        | true =>
          go_wp2
          go_ret
          exact ⟨ret_int (by simp), rfl⟩
        | false =>
          go_wp2
          go_ret
          exact ⟨ret_int (by simp), rfl⟩
set_option maxRecDepth 10000 in
set_option maxHeartbeats 4000000 in
theorem qAny14_any (n : Int) (sg : Bool) (w : World) : Calls Tryz.prog 89 #[.int .i64 n, .bool sg] w fun e w' => e = .returned (fv (anyF n sg)) ∧ Below w.heap.size w w' := by
  have hb1 : ∀ o1, Below w.heap.size w (w.alloc o1) := fun o1 => (Below.refl _ _).alloc (Nat.le_refl _) _
  have hb2 : ∀ o1 o2, Below w.heap.size w ((w.alloc o1).alloc o2) := fun o1 o2 => (hb1 o1).alloc (hb1 o1).size _
  have Hb1 := Lib.hid hb1
  have Hb2 := Lib.hid hb2
  clear hb1 hb2
  cases hf : fitsF n with
  | false =>
    have hn := of_decide_eq_false hf
    rw [show anyF n sg = ⟨0, false, 0, 0⟩ by unfold anyF; rw [hf]; rfl]
    clear hf
    rcases (by omega : n < 1 ∨ (¬ n < 1 ∧ 8 < n)) with h1 | ⟨h1, h2⟩
    all_goals
      clear hn
      go_enter Tryz.func89, Tryz.ntmps89
      go_wp2
      refine bodyPost_ret (v := .agg #[.int .i64 0, .bool false, .int .i64 0, .int .i64 0]) (by simp [results, go_sem]) rfl ⟨rfl, ?_⟩
      exact Hb1.out _
  | true =>
    rcases fits_cases hf with rfl | rfl | rfl | rfl | rfl | rfl | rfl | rfl
    all_goals cases sg
    all_goals
      go_enter Tryz.func89, Tryz.ntmps89
      go_wp2_with fail
      go_fit (qMost_any _ _ _ hf)
      rintro e w1 ⟨rfl, rfl⟩
      simp only [show mostF 1 true = 127 from rfl, show mostF 1 false = 255 from rfl, show mostF 2 true = 32767 from rfl, show mostF 2 false = 65535 from rfl, show mostF 3 true = 8388607 from rfl, show mostF 3 false = 16777215 from rfl, show mostF 4 true = 2147483647 from rfl, show mostF 4 false = 4294967295 from rfl, show mostF 5 true = 549755813887 from rfl, show mostF 5 false = 1099511627775 from rfl, show mostF 6 true = 140737488355327 from rfl, show mostF 6 false = 281474976710655 from rfl, show mostF 7 true = 36028797018963967 from rfl, show mostF 7 false = 72057594037927935 from rfl, show mostF 8 true = 9223372036854775807 from rfl, show mostF 8 false = 9223372036854775807 from rfl]
      go_wp2
    all_goals
      refine bodyPost_ret (v := fv (anyF _ _)) (by simp [results, go_sem, fv, anyF, fitsF] <;> first | rfl | decide) rfl ⟨rfl, ?_⟩
      exact Hb2.out _ _
end Go.Proofs.YtmkidihcdljkiaaGreat

/-
  The document's shapes: room, Right, Width walked; the law ShapeFields walked.
-/
set_option linter.unusedSimpArgs false
set_option linter.unusedVariables false
namespace Go.Proofs.YtmkidihcdljkiaaGreat
open Go.RowKit NumLaw
attribute [local go_sem] Addr.add_mid

set_option maxRecDepth 10000 in
set_option maxHeartbeats 2000000 in
theorem qroom_any (f : FieldV) (n : Int) (w : World) : Calls Tryz.prog 81 #[fv f, .int .i64 n] w fun e w' => e = .returned (.bool (inF (anyF f.size f.sg) n)) ∧ Below w.heap.size w w' := by
  have hany := fun w => qAny14_any f.size f.sg w
  obtain ⟨a0, a1, a2, a3, ha⟩ : ∃ a0 a1 a2 a3, anyF f.size f.sg = ⟨a0, a1, a2, a3⟩ := ⟨_, _, _, _, rfl⟩
  rw [ha] at hany ⊢
  clear ha
  obtain ⟨size, sg, lo, hi⟩ := f
  have hbx : Below w.heap.size w (w.alloc (.cells #[.int .i64 size, .bool sg, .int .i64 lo, .int .i64 hi] 130)) := (Below.refl _ _).alloc (Nat.le_refl _) _
  unfold fv inF at *
  simp only at hany
  have Hany := Lib.hid hany
  clear hany
  rcases (by omega : n < a2 ∨ (a2 ≤ n ∧ n ≤ a3) ∨ (a2 ≤ n ∧ a3 < n)) with h | ⟨h1, h2⟩ | ⟨h1, h2⟩
  all_goals
    go_enter Tryz.func81, Tryz.ntmps81
    go_wp2_with fail
    go_fit (Hany.out _)
    rintro e w1 ⟨rfl, hb1⟩
    have hb1' := bnx hbx hb1
    have hy := heap_alloc_new w1 (.cells #[.int .i64 a0, .bool a1, .int .i64 a2, .int .i64 a3] 130)
    have hb2 := hb1'.alloc hb1'.size (.cells #[.int .i64 a0, .bool a1, .int .i64 a2, .int .i64 a3] 130)
    have d2 := blk_cell (i := 2) (v := .int .i64 a2) hy rfl
    have d3 := blk_cell (i := 3) (v := .int .i64 a3) hy rfl
    clear hy hb1 hb1'
    go_wp2
    go_ret
    refine ⟨?_, hb2⟩
    simp
    try omega

set_option maxRecDepth 10000 in
set_option maxHeartbeats 4000000 in
theorem qRight_any (A : Option Addr) (n c B : Nat) (l : List FieldV) (w : World) (h : RdF w B A n c l) (hB : B ≤ w.heap.size) :
    Calls Tryz.prog 68 #[.slice A n c] w fun e w' => e = .returned (.bool (rightL l)) ∧ Below w.heap.size w w' := by
  have hle := h.2.1
  have hm := h.2.2.1
  have Hl := Lib.hid h.1
  unfold maxLen at hm
  obtain ⟨r, hr⟩ : ∃ r, r = rightL l := ⟨_, rfl⟩
  rw [← hr]
  have HR := Lib.hid hr
  clear hr
  go_enter Tryz.func68, Tryz.ntmps68
  go_wp2_with fail
  go_loopw [3] (fun i wr => ∃ (k : Nat), k ≤ n ∧ i = .int .i64 k ∧ Below w.heap.size w wr ∧ Hid (rightL (l.take k) = true)) (fun i _ => n - (intOf i).toNat)
  case atStart => exact ⟨0, by omega, rfl, Below.refl _ _, Lib.hid rfl⟩
  case round =>
    obtain ⟨k, hk, rfl, hb, hall⟩ := hrel
    by_cases hlt : k < n
    · obtain ⟨g, off, f, rfl, hg, hx, h1, h2, h3, h4, _⟩ := (h.up (hb.mono hB)).at_ hlt
      have Hs : Hid (rightL (l.take (k + 1)) = rightF f) := Lib.hid (by have h0 := hall.out; unfold rightL at h0 ⊢; rw [take_succ hx, List.all_append, h0]; simp)
      have Hm : Hid (rightF f = false → r = false) := Lib.hid (fun hb => by
        rw [HR.out]
        unfold rightL
        rw [List.all_eq_false]
        exact ⟨f, List.mem_of_getElem? hx, by rw [hb]; simp⟩)
      have hlo := fun w => qroom_any f f.lo w
      have hhi := fun w => qroom_any f f.hi w
      obtain ⟨b3, hb3⟩ : ∃ b3, b3 = inF (anyF f.size f.sg) f.lo := ⟨_, rfl⟩
      obtain ⟨b4, hb4⟩ : ∃ b4, b4 = inF (anyF f.size f.sg) f.hi := ⟨_, rfl⟩
      rw [← hb3] at hlo
      rw [← hb4] at hhi
      have HE : Hid (rightF f = (fitsF f.size && decide (f.lo ≤ f.hi) && b3 && b4)) := Lib.hid (by unfold rightF; rw [hb3, hb4])
      clear hb3 hb4
      obtain ⟨size, sg, lo, hi⟩ := f
      simp only at h1 h2 h3 h4 hlo hhi HE
      unfold fv at hlo hhi
      simp only at hlo hhi
      have Hlo := Lib.hid hlo
      have Hhi := Lib.hid hhi
      clear hlo hhi hx
      obtain ⟨rf, hrf⟩ : ∃ rf, rf = rightF ⟨size, sg, lo, hi⟩ := ⟨_, rfl⟩
      rw [← hrf] at Hs Hm HE
      clear hrf
      have hb2 := hb.alloc hb.size (.cells #[.int .i64 size, .bool sg, .int .i64 lo, .int .i64 hi] 130)
      have hbox := heap_alloc_new wr (.cells #[.int .i64 size, .bool sg, .int .i64 lo, .int .i64 hi] 130)
      have c0 := blk_cell (i := 0) (v := .int .i64 size) hbox rfl
      have c1 := blk_cell (i := 1) (v := .bool sg) hbox rfl
      have c2 := blk_cell (i := 2) (v := .int .i64 lo) hbox rfl
      have c3 := blk_cell (i := 3) (v := .int .i64 hi) hbox rfl
      rcases (by omega : size < 1 ∨ (¬ size < 1 ∧ 8 < size) ∨ (¬ size < 1 ∧ ¬ 8 < size ∧ hi < lo) ∨ (¬ size < 1 ∧ ¬ 8 < size ∧ ¬ hi < lo)) with g1 | ⟨g1, g2⟩ | ⟨g1, g2, g3⟩ | ⟨g1, g2, g3⟩
      · obtain rfl : rf = false := by rw [HE.out, show fitsF size = false from decide_eq_false (by omega)]; rfl
        obtain rfl : r = false := Hm.out rfl
        clear Hs HE Hm
        go_wp2
        go_ret
        exact ⟨rfl, hb2⟩
      · obtain rfl : rf = false := by rw [HE.out, show fitsF size = false from decide_eq_false (by omega)]; rfl
        obtain rfl : r = false := Hm.out rfl
        clear Hs HE Hm
        go_wp2
        go_ret
        exact ⟨rfl, hb2⟩
      · obtain rfl : rf = false := by rw [HE.out, decide_eq_false (show ¬ lo ≤ hi by omega)]; simp
        obtain rfl : r = false := Hm.out rfl
        clear Hs HE Hm
        go_wp2
        go_ret
        exact ⟨rfl, hb2⟩
      · have HE2 : Hid (rf = (b3 && b4)) := Lib.hid (by rw [HE.out, show fitsF size = true from decide_eq_true (by omega), decide_eq_true (show lo ≤ hi by omega)]; simp)
        clear HE
        go_wp2_with fail
        go_fit (Hlo.out _)
        rintro e w3 ⟨rfl, hb23⟩
        have hb3 := bnx hb2 hb23
        have hbox3 := blk_old hbox hb23 (blk_lt hbox)
        clear c0 c1 c2 c3 hbox hb2 hb23
        have c0 := blk_cell (i := 0) (v := .int .i64 size) hbox3 rfl
        have c1 := blk_cell (i := 1) (v := .bool sg) hbox3 rfl
        have c2 := blk_cell (i := 2) (v := .int .i64 lo) hbox3 rfl
        have c3 := blk_cell (i := 3) (v := .int .i64 hi) hbox3 rfl
        cases b3 with
        | false =>
          obtain rfl : rf = false := HE2.out
          obtain rfl : r = false := Hm.out rfl
          clear Hs HE2 Hm
          go_wp2
          go_ret
          exact ⟨rfl, hb3⟩
        | true =>
          obtain rfl : rf = b4 := by rw [HE2.out]; rfl
          go_wp2_with fail
          go_fit (Hhi.out _)
          rintro e w4 ⟨rfl, hb34⟩
          have hb4 := bnx hb3 hb34
          cases rf with
          | false =>
            obtain rfl : r = false := Hm.out rfl
            clear Hs HE2 Hm
            go_wp2
            go_ret
            exact ⟨rfl, hb4⟩
          | true =>
            clear HE2 Hm
            go_wp2
            go_roundw
            case rel => exact ⟨k + 1, by omega, by go_num, hb4, Hs⟩
            case measure => simp [intOf]; omega
    · obtain rfl : k = n := by omega
      have ht : l.take k = l := List.take_of_length_le (by rw [Hl.out]; omega)
      rw [ht] at hall
      obtain rfl : r = true := by rw [HR.out]; exact hall.out
      go_wp2
      go_ret
      exact ⟨rfl, hb⟩

set_option maxRecDepth 10000 in
set_option maxHeartbeats 1000000 in
theorem qWidth_any (A : Option Addr) (n c B : Nat) (l : List FieldV) (w : World) (h : RdF w B A n c l) (hB : B ≤ w.heap.size) (hn : n ≤ 100000) :
    Calls Tryz.prog 78 #[.slice A n c] w fun e w' => e = .returned (.int .i64 (widthL l : Int)) ∧ Below w.heap.size w w' := by
  have hle := h.2.1
  have Hl := Lib.hid h.1
  have hright := qRight_any A n c B l w h hB
  cases hr : rightL l with
  | false =>
    rw [hr] at hright
    rw [show widthL l = 0 by unfold widthL; rw [hr]; rfl]
    clear hr
    go_enter Tryz.func78, Tryz.ntmps78
    go_wp2_with fail
    go_fit hright
    rintro e w1 ⟨rfl, hb1⟩
    go_wp2
    go_ret
    exact ⟨rfl, hb1⟩
  | true =>
    have Hr := Lib.hid hr
    rw [hr] at hright
    obtain ⟨tot, htot⟩ : ∃ tot, tot = widthL l := ⟨_, rfl⟩
    rw [← htot]
    have Ht : Hid (tot = sumL l) := Lib.hid (by rw [htot]; unfold widthL; rw [hr]; rfl)
    clear hr htot
    go_enter Tryz.func78, Tryz.ntmps78
    go_wp2_with fail
    go_fit hright
    rintro e w1 ⟨rfl, hb1⟩
    go_wp2_with fail
    go_loopw [3, 4] (fun s i wr => ∃ (k : Nat), k ≤ n ∧ i = .int .i64 k ∧ s = .int .i64 (sumL (l.take k) : Int) ∧ Below w.heap.size w wr) (fun _ i _ => n - (intOf i).toNat)
    case atStart => exact ⟨0, by omega, rfl, rfl, hb1⟩
    case round =>
      clear hb1 w1
      obtain ⟨k, hk, rfl, rfl, hb⟩ := hrel
      by_cases hlt : k < n
      · obtain ⟨g, off, f, rfl, hg, hx, h1, h2, h3, h4, _⟩ := (h.up (hb.mono hB)).at_ hlt
        have hfit := right_fits (List.all_eq_true.1 Hr.out _ (List.mem_of_getElem? hx))
        have hs := sumL_step hx
        have hle1 := sumL_take Hr.out k
        obtain ⟨size, sg, lo, hi⟩ := f
        simp only at h1 h2 h3 h4 hfit hs
        obtain ⟨sz, rfl⟩ : ∃ sz : Nat, size = sz := ⟨size.toNat, by omega⟩
        rw [Int.toNat_natCast] at hs
        have Hs := Lib.hid hs
        clear hs hx
        generalize sumL (l.take k) = s0 at *
        go_wp2
        go_roundw
        case rel => exact ⟨k + 1, by omega, by go_num, val_int (by rw [Hs.out]; omega), hb⟩
        case measure => simp [intOf]; omega
      · obtain rfl : k = n := by omega
        have ht : l.take k = l := List.take_of_length_le (by rw [Hl.out]; omega)
        rw [ht, ← Ht.out]
        go_wp2
        go_ret
        exact ⟨rfl, hb⟩

end Go.Proofs.YtmkidihcdljkiaaGreat

/-
  The document's shapes: number, Take walked.
-/
set_option linter.unusedSimpArgs false
set_option linter.unusedVariables false
namespace Go.Proofs.YtmkidihcdljkiaaGreat
open Go.RowKit NumLaw
attribute [local go_sem] Addr.add_mid

def numV (f : FieldV) (b : List UInt8) : Int := if f.sg = true then sgn f.size.toNat (num b) else ((num b % 9223372036854775808 : Nat) : Int)
def numK (f : FieldV) (b : List UInt8) : Bool := f.sg || decide (num b < 9223372036854775808)
/-- A number that is told, and within its field, is the field's; and the other way round. -/
theorem num_in {f : FieldV} {b : List UInt8} (hr : rightF f = true) (hb : b.length = f.size.toNat) : (numK f b = true → numV f b = fieldV f b) ∧ (numK f b = false → inF f (fieldV f b) = false) := by
  have hs := right_fits hr
  have hm := num_lt b
  rw [hb] at hm
  have hm8 := Nat.lt_of_lt_of_le hm (pow_le8 (show f.size.toNat ≤ 8 by omega))
  unfold numK numV fieldV
  cases hg : f.sg with
  | true => simp
  | false =>
    simp only [Bool.false_or, decide_eq_true_eq, Bool.false_eq_true, if_false, decide_eq_false_iff_not]
    refine ⟨fun h => ?_, fun h => ?_⟩
    · unfold sg64; rw [if_pos h, Nat.mod_eq_of_lt h]
    · unfold inF sg64
      rw [if_neg h]
      refine decide_eq_false ?_
      have hlo : 0 ≤ f.lo := by
        obtain ⟨size, sg, lo, hi⟩ := f
        unfold rightF at hr
        simp only [Bool.and_eq_true, decide_eq_true_eq] at hr hg
        subst hg
        have h3 := of_decide_eq_true hr.1.2
        unfold anyF at h3
        rw [if_pos hr.1.1.1] at h3
        simp at h3
        exact h3.1
      omega
set_option maxRecDepth 10000 in
set_option maxHeartbeats 1000000 in
theorem qnumber_any (f : FieldV) (A : Option Addr) (n c B : Nat) (b : List UInt8) (w : World) (h : Rd w B 1 A n c (bv b)) (hB : B ≤ w.heap.size) (hs1 : 1 ≤ f.size) (hs8 : f.size ≤ 8) (hn : n = f.size.toNat) :
    Calls Tryz.prog 79 #[fv f, .slice A n c] w fun e w' => e = .returned (.tuple #[.int .i64 (numV f b), .bool (numK f b)]) ∧ Below w.heap.size w w' := by
  have hlb := h.blen
  obtain ⟨size, sg, lo, hi⟩ := f
  simp only at hs1 hs8 hn
  obtain ⟨sz, rfl⟩ : ∃ sz : Nat, size = sz := ⟨size.toNat, by omega⟩
  rw [Int.toNat_natCast] at hn
  subst hn
  have hm := num_lt b
  rw [hlb] at hm
  have hm8 := Nat.lt_of_lt_of_le hm (pow_le8 (show n ≤ 8 by omega))
  have hbx : Below w.heap.size w (w.alloc (.cells #[.int .i64 n, .bool sg, .int .i64 lo, .int .i64 hi] 130)) := (Below.refl _ _).alloc (Nat.le_refl _) _
  have hx := heap_alloc_new w (.cells #[.int .i64 n, .bool sg, .int .i64 lo, .int .i64 hi] 130)
  have hnum := number_any A n c B b _ (h.up (hbx.mono hB)) (by omega)
  have hsig := fun w => signed_any n (num b) w (by omega) (by omega) hm
  have c0 := blk_cell (i := 0) (v := .int .i64 n) hx rfl
  have c1 := blk_cell (i := 1) (v := .bool sg) hx rfl
  unfold fv numV numK
  simp only [Int.toNat_natCast]
  obtain ⟨u, hu⟩ : ∃ u, u = num b := ⟨_, rfl⟩
  rw [← hu] at hnum hsig hm8 ⊢
  clear hu hm hx
  cases sg with
  | true =>
    obtain ⟨sv, hsv⟩ : ∃ sv, sv = sgn n u := ⟨_, rfl⟩
    simp only [if_true, Bool.true_or]
    rw [← hsv] at hsig ⊢
    clear hsv
    have Hsig := Lib.hid hsig
    clear hsig
    go_enter Tryz.func79, Tryz.ntmps79
    go_wp2_with fail
    go_fit hnum
    rintro e w1 ⟨rfl, rfl⟩
    go_wp2_with fail
    go_fit (Hsig.out _)
    rintro e w2 ⟨rfl, rfl⟩
    go_wp2
    go_ret2
    exact ⟨rfl, hbx⟩
  | false =>
    simp only [Bool.false_eq_true, if_false, Bool.false_or]
    obtain ⟨r, hr⟩ : ∃ r, r = u % 9223372036854775808 := ⟨_, rfl⟩
    have e1 : (u : Int) % 9223372036854775808 = (r : Int) := by omega
    have e2 : IntKind.i64.wrap (r : Int) = (r : Int) := by rw [IntKind.wrap_i64]; omega
    rw [← hr]
    clear hr hsig
    go_enter Tryz.func79, Tryz.ntmps79
    go_wp2_with fail
    go_fit hnum
    rintro e w1 ⟨rfl, rfl⟩
    go_wp2
    go_ret2
    refine ⟨?_, hbx⟩
    simp
    try omega

end Go.Proofs.YtmkidihcdljkiaaGreat

/-
  The document's shapes: Take walked.
-/
set_option linter.unusedSimpArgs false
set_option linter.unusedVariables false
namespace Go.Proofs.YtmkidihcdljkiaaGreat
open Go.RowKit NumLaw
attribute [local go_sem] Addr.add_mid

set_option maxRecDepth 10000 in
set_option maxHeartbeats 4000000 in
theorem qTake14_go (A : Option Addr) (n c B : Nat) (l : List FieldV) (A' : Option Addr) (n' c' B' : Nat) (b : List UInt8) (w : World) (h : RdF w B A n c l) (hB : B ≤ w.heap.size) (h' : Rd w B' 1 A' n' c' (bv b)) (hB' : B' ≤ w.heap.size) (hn : n ≤ 100000) (hr : rightL l = true) (hlen : n' = sumL l) :
    Calls Tryz.prog 60 #[.slice A n c, .slice A' n' c'] w (RetTS w (shT l b) (shTE l b)) := by
  have hle := h.2.1
  have hle' := h'.le
  have hmx' := h'.max
  unfold maxLen at hmx'
  have hlb := h'.blen
  have Hl := Lib.hid h.1
  have Hr := Lib.hid hr
  have hright := qRight_any A n c B l w h hB
  rw [hr] at hright
  have hwidth := fun w' h' hB' => qWidth_any A n c B l w' h' hB' hn
  rw [show widthL l = n' by unfold widthL; rw [if_pos hr, hlen]] at hwidth
  have hE : shTE l b = if inAll l (takeV l b) = true then 0 else 5 := by unfold shTE; rw [if_pos hr, if_neg (by omega), if_neg (by omega)]
  have HE := Lib.hid hE
  obtain ⟨oE, hoE⟩ : ∃ oE, oE = shTE l b := ⟨_, rfl⟩
  obtain ⟨oP, hoP⟩ : ∃ oP, oP = shT l b := ⟨_, rfl⟩
  rw [← hoE, ← hoP]
  have HoE := Lib.hid hoE
  have HoP := Lib.hid hoP
  have Hlen := Lib.hid hlen
  have Hlb := Lib.hid hlb
  have hnb : n' ≤ 800000 := by
    have := sumL_take hr l.length
    rw [List.take_length, h.1] at this
    omega
  have Hwidth := Lib.hid hwidth
  obtain ⟨i0, hi0⟩ := info_parts u8_info
  have Hi := Lib.hid hi0
  obtain ⟨i1, hi1⟩ := info_parts i64_info
  have Hi1 := Lib.hid hi1
  clear hr hE hoE hoP hlen hlb hwidth hi0 hi1
  go_enter Tryz.func60, Tryz.ntmps60
  go_wp2_with fail
  go_fit hright
  rintro e w1 ⟨rfl, hb1⟩
  go_wp2_with fail
  go_fit (Hwidth.out w1 (h.up (hb1.mono hB)) (Nat.le_trans hB hb1.size))
  rintro e w2 ⟨rfl, hb12⟩
  have hb2 := bnx hb1 hb12
  go_wp2_with fail
  go_fit (Hwidth.out w2 (h.up (hb2.mono hB)) (Nat.le_trans hB hb2.size))
  rintro e w3 ⟨rfl, hb23⟩
  have hb3 := bnx hb2 hb23
  clear hb1 hb12 hb2 hb23 hright
  go_wp2_with fail
  go_loopw [6, 7, 8] (fun s a i wr => ∃ (k : Nat) (A6 : Option Addr) (c6 : Nat), k ≤ n ∧ i = .int .i64 k ∧ s = .slice A6 k c6 ∧ a = .int .i64 (sumL (l.take k) : Int) ∧ wr.ownsRow w.heap.size 2 1 (.slice A6 k c6) k (((takeV l b).take k).map (Value.int .i64)) ∧ Below w.heap.size w wr ∧ Hid (((l.zip (takeV l b)).take k).all (fun p => inF p.1 p.2) = true)) (fun _ _ i _ => n - (intOf i).toNat)
  case atStart => exact ⟨0, none, 0, by omega, rfl, rfl, rfl, World.ownsRow_nil _ _ _ _, hb3, Lib.hid rfl⟩
  case round =>
    clear hb3 w3
    obtain ⟨k, A6, c6, hk, rfl, rfl, rfl, hown, hb, hall⟩ := hrel
    by_cases hlt : k < n
    · obtain ⟨gf, off, f, rfl, hgf, hx, h1, h2, h3, h4, _⟩ := h.at_ hlt
      have hgw : gf < w.heap.size := by omega
      have hrf := List.all_eq_true.1 Hr.out _ (List.mem_of_getElem? hx)
      have hvx := takeV_at l b k f hx
      have hsl := sumL_le hx
      have hst := sumL_step hx
      have hfit := right_fits hrf
      have hzs := zip_take_succ hx hvx
      have hm : (f, fieldV f ((b.drop (sumL (l.take k))).take f.size.toNat)) ∈ l.zip (takeV l b) := List.mem_of_getElem? (i := k) (by rw [List.getElem?_zip_eq_some]; exact ⟨hx, hvx⟩)
      obtain ⟨at_, hat⟩ : ∃ a, a = sumL (l.take k) := ⟨_, rfl⟩
      rw [← hat] at hvx hsl hst hzs hm ⊢
      rw [← Hlen.out] at hsl
      have hbl : ((b.drop at_).take f.size.toNat).length = f.size.toNat := by rw [List.length_take, List.length_drop, Hlb.out]; omega
      have hni := num_in hrf hbl
      have hnumb := fun w' hcut hB'' => qnumber_any f (cutA A' c' at_ 1) f.size.toNat (c' - at_) B' ((b.drop at_).take f.size.toNat) w' hcut hB'' hfit.1 hfit.2 rfl
      have hcut : Rd w B' 1 (cutA A' c' at_ 1) f.size.toNat (c' - at_) (bv ((b.drop at_).take f.size.toNat)) := (h'.bdrop (k := at_) (by omega)).btake (by omega)
      obtain ⟨x, hxe⟩ : ∃ x, x = fieldV f ((b.drop at_).take f.size.toNat) := ⟨_, rfl⟩
      obtain ⟨nv, hnv⟩ : ∃ nv, nv = numV f ((b.drop at_).take f.size.toNat) := ⟨_, rfl⟩
      obtain ⟨nk, hnk⟩ : ∃ nk, nk = numK f ((b.drop at_).take f.size.toNat) := ⟨_, rfl⟩
      rw [← hxe] at hvx hzs hm hni
      rw [← hnv, ← hnk] at hni hnumb
      have Hvx := Lib.hid hvx
      have Hs := Lib.hid hzs
      have Hm := Lib.hid hm
      have Hni := Lib.hid hni
      have Hst := Lib.hid hst
      clear hx hzs hm hxe hvx hst hrf hnv hnk hni hat hbl
      obtain ⟨size, sg, lo, hi⟩ := f
      simp only at h1 h2 h3 h4 hfit hnumb hcut hsl Hst
      obtain ⟨sz, rfl⟩ : ∃ sz : Nat, size = sz := ⟨size.toNat, by omega⟩
      simp only [Int.toNat_natCast] at hnumb hcut hsl Hst
      generalize (b.drop at_).take sz = bk at *
      unfold fv at hnumb
      simp only at hnumb
      have Hnumb := Lib.hid hnumb
      clear hnumb
      have hrow : ∀ w', Below w.heap.size w w' → w'.rangeAt gf (off + k * 4) [.int .i64 sz, .bool sg, .int .i64 lo, .int .i64 hi] := fun w' hS j v hv => by
        have hc : ∀ j, w'.cell? ⟨gf, j, none⟩ = w.cell? ⟨gf, j, none⟩ := fun j => hS.cell (p := ⟨gf, j, none⟩) hgw
        rw [hc]
        match j, hv with
        | 0, hv => simp at hv; subst hv; exact h1
        | 1, hv => simp at hv; subst hv; exact h2
        | 2, hv => simp at hv; subst hv; exact h3
        | 3, hv => simp at hv; subst hv; exact h4
      have Hrow := Lib.hid hrow
      have Hbad : Hid (inF ⟨(sz : Int), sg, lo, hi⟩ x = false → oE = 5 ∧ oP = []) := Lib.hid (fun hin => by
        have hna : inAll l (takeV l b) = false := by
          unfold inAll
          rw [List.all_eq_false]
          exact ⟨_, Hm.out, by rw [hin]; simp⟩
        have h5 : oE = 5 := by rw [HoE.out, HE.out, if_neg (by rw [hna]; simp)]
        refine ⟨h5, ?_⟩
        rw [HoP.out]; unfold shT; rw [if_neg (by rw [← HoE.out, h5]; simp)])
      have wz : IntKind.i64.wrap ((at_ : Int) + (sz : Int)) = (at_ : Int) + (sz : Int) := by rw [IntKind.wrap_i64]; omega
      have hrun : ∀ w, (Instr.slice 38 (.slice A' n' c') (some (.int .i64 (at_ : Int))) (some (.int .i64 ((at_ : Int) + (sz : Int)))) none).run Tryz.prog w = .ok (.slice (cutA A' c' at_ 1) sz (c' - at_)) w := fun w => by
        have := run_cut_lh (P := Tryz.prog) Tryz.underlying38 Hi.out.1 Hi.out.2.2.1 A' n' c' at_ (at_ + sz) (by omega) (by omega) w
        rw [show ((at_ + sz : Nat) : Int) = (at_ : Int) + (sz : Int) by omega, Nat.add_sub_cancel_left] at this
        exact this
      clear hrow
      go_wp2_with fail
      refine Ord.region_ (fun w' => Below w.heap.size w w') false [] (by kernel_rfl) (by kernel_rfl) hb.drew ?_
      replace hb := hb.drew
      replace hown := hown.drew
      generalize wr.drew = w3 at *
      repeat (first | (refine Ord.e_p (v := ?_) rfl (by rfl) ?_ ?_; rotate_left; · (intro w2; go_simp; try with_reducible rfl)) | (refine Ord.e_u (by rfl) ?_)); (try simp only [Act.put, List.setIfInBounds_toArray, List.set_cons_zero, List.set_cons_succ])
      refine Ord.e_rowS Tryz.underlying130 rfl (by kernel_rfl) rfl (by simp) (fun w' hS => Hrow.out w' hS) hb (by rfl) ?_
      (try simp only [Act.put, List.setIfInBounds_toArray, List.set_cons_zero, List.set_cons_succ])
      repeat (first | (refine Ord.e_p (v := ?_) rfl (by rfl) ?_ ?_; rotate_left; · (intro w2; go_simp; try with_reducible rfl)) | (refine Ord.e_u (by rfl) ?_)); (try simp only [Act.put, List.setIfInBounds_toArray, List.set_cons_zero, List.set_cons_succ])
      refine Ord.e_loadS Tryz.underlying3 rfl (fun w' hS => ((show Below _ w w' from hS).cell (p := ⟨gf, off + k * 4, none⟩) hgw).trans h1) hb rfl (by rfl) ?_
      (try simp only [Act.put, List.setIfInBounds_toArray, List.set_cons_zero, List.set_cons_succ])
      repeat (first | (refine Ord.e_p (v := ?_) rfl (by rfl) ?_ ?_; rotate_left; · (intro w2; go_simp; try with_reducible rfl)) | (refine Ord.e_u (by rfl) ?_)); (try simp only [Act.put, List.setIfInBounds_toArray, List.set_cons_zero, List.set_cons_succ])
      refine Ord.e_x rfl (by rfl) ?_
      go_wp2_with fail
      go_fit (Hnumb.out w3 (hcut.up (hb.mono hB')) (Nat.le_trans hB' hb.size))
      rintro e w4 ⟨rfl, hb34⟩
      have hb4 := bnx hb hb34
      have hown4 := own_up hown hb34 (Nat.le_refl _)
      go_wp2_with fail
      refine Ord.Seg.go hb4 (fun h => by cases h) ?_
      (try simp only [Act.put, List.setIfInBounds_toArray, List.set_cons_zero, List.set_cons_succ])
      repeat (first | (refine Ord.e_p (v := ?_) rfl (by rfl) ?_ ?_; rotate_left; · (intro w2; go_simp; try with_reducible rfl)) | (refine Ord.e_u (by rfl) ?_)); (try simp only [Act.put, List.setIfInBounds_toArray, List.set_cons_zero, List.set_cons_succ])
      refine Ord.e_nil ?_
      have e0 := (hb4.cell (p := ⟨gf, off + k * 4, none⟩) hgw).trans h1
      have e2 := (hb4.cell (p := ⟨gf, off + k * 4 + 2, none⟩) hgw).trans h3
      have e3 := (hb4.cell (p := ⟨gf, off + k * 4 + 3, none⟩) hgw).trans h4
      clear hb hb34 hown hrun wz
      cases nk with
      | false =>
        obtain ⟨rfl, rfl⟩ := Hbad.out (Hni.out.2 rfl)
        clear Hbad
        go_wp2
        go_ret2
        exact ⟨none, 0, 0, rfl, World.ownsRow_nil _ _ _ _, hb4⟩
      | true =>
        obtain rfl : nv = x := Hni.out.1 rfl
        rcases (by omega : nv < lo ∨ (¬ nv < lo ∧ hi < nv) ∨ (¬ nv < lo ∧ ¬ hi < nv)) with g1 | ⟨g1, g2⟩ | ⟨g1, g2⟩
        · obtain ⟨rfl, rfl⟩ := Hbad.out (decide_eq_false (by simp only; omega))
          clear Hbad
          go_wp2
          go_ret2
          exact ⟨none, 0, 0, rfl, World.ownsRow_nil _ _ _ _, hb4⟩
        · obtain ⟨rfl, rfl⟩ := Hbad.out (decide_eq_false (by simp only; omega))
          clear Hbad
          go_wp2
          go_ret2
          exact ⟨none, 0, 0, rfl, World.ownsRow_nil _ _ _ _, hb4⟩
        · have HIN : Hid (inF ⟨(sz : Int), sg, lo, hi⟩ nv = true) := Lib.hid (decide_eq_true (by simp only; omega))
          clear Hbad
          have hnew : Rd (w4.alloc (.cells #[.int .i64 nv] 2)) (w4.heap.size + 1) 1 (some ⟨w4.heap.size, 0, none⟩) 1 1 ([nv].map (Value.int .i64)) := rd_lit' w4 2 [.int .i64 nv] (by simp [maxLen])
          have hb5 := hb4.alloc hb4.size (.cells #[.int .i64 nv] 2)
          have hown5 := own_up hown4 (w' := w4.alloc (.cells #[.int .i64 nv] 2)) ((Below.refl _ _).alloc (Nat.le_refl _) _) (Nat.le_refl _)
          go_wp2_with (at_builtin; refine stop_ ?_)
          refine go_ (wpList_app Tryz.underlying96 Hi1.out rfl (by omega) hown5 rfl hnew rfl (fun u hu => by simp at hu; subst hu; rfl) (k := k + 1) rfl (List.map_append).symm (by unfold maxLen; omega) (by omega) hb5.size ?_)
          intro A7 c7 w7 hown7 hB7
          have hb7 := hB7 hb5 hb5.size (Nat.le_refl _)
          rw [← take_succ Hvx.out] at hown7
          have e7 := (hb7.cell (p := ⟨gf, off + k * 4, none⟩) hgw).trans h1
          clear hB7 hown5 hown4 hb5 hb4 e0 e2 e3 hnew
          go_wp2
          go_roundw
          case rel =>
            refine ⟨k + 1, A7, c7, by omega, by go_num, rfl, val_int (by rw [Hst.out]; omega), hown7, hb7, Lib.hid ?_⟩
            rw [Hs.out, List.all_append, hall.out]; simp [HIN.out]
          case measure => simp [intOf]; omega
    · obtain rfl : k = n := by omega
      have ht : (l.zip (takeV l b)).take k = l.zip (takeV l b) := List.take_of_length_le (by rw [List.length_zip, takeV_len, Hl.out]; omega)
      have ht2 : (takeV l b).take k = takeV l b := List.take_of_length_le (by rw [takeV_len, Hl.out]; exact Nat.le_refl _)
      rw [ht] at hall
      rw [ht2] at hown
      have hall2 : inAll l (takeV l b) = true := hall.out
      obtain rfl : oE = 0 := by rw [HoE.out, HE.out, if_pos hall2]
      obtain rfl : oP = takeV l b := by rw [HoP.out]; unfold shT; rw [if_pos HoE.out.symm]
      clear ht ht2 hall2
      go_wp2
      go_ret2
      exact ⟨A6, k, c6, rfl, hown, hb⟩

end Go.Proofs.YtmkidihcdljkiaaGreat

/-
  The law ShapeTells walked.
-/
set_option linter.unusedSimpArgs false
set_option linter.unusedVariables false
namespace Go.Proofs.YtmkidihcdljkiaaGreat
open Go.RowKit NumLaw

set_option maxRecDepth 10000 in
set_option maxHeartbeats 1000000 in
theorem qTake14_any (A : Option Addr) (n c B : Nat) (l : List FieldV) (A' : Option Addr) (n' c' B' : Nat) (b : List UInt8) (w : World) (h : RdF w B A n c l) (hB : B ≤ w.heap.size) (h' : Rd w B' 1 A' n' c' (bv b)) (hB' : B' ≤ w.heap.size) (hn : n ≤ 100000) (hn' : n' ≤ 1000000000) :
    Calls Tryz.prog 60 #[.slice A n c, .slice A' n' c'] w (RetTS w (shT l b) (shTE l b)) := by
  have hlb := h'.blen
  have hright := qRight_any A n c B l w h hB
  have hwidth := fun w' h' hB' => qWidth_any A n c B l w' h' hB' hn
  cases hr : rightL l with
  | false =>
    have e1 : shTE l b = 1 := by unfold shTE; rw [if_neg (by rw [hr]; simp)]
    rw [show shT l b = [] by unfold shT; rw [e1]; rfl, e1]
    rw [hr] at hright
    clear hr e1 hlb hwidth
    go_enter Tryz.func60, Tryz.ntmps60
    go_wp2_with fail
    go_fit hright
    rintro e w1 ⟨rfl, hb1⟩
    go_wp2
    go_ret2
    exact ⟨none, 0, 0, rfl, World.ownsRow_nil _ _ _ _, hb1⟩
  | true =>
    by_cases hlen : n' = sumL l
    · exact qTake14_go A n c B l A' n' c' B' b w h hB h' hB' hn hr hlen
    · have hw : widthL l = sumL l := by unfold widthL; rw [if_pos hr]
      rw [hw] at hwidth
      rw [hr] at hright
      have hs8 : sumL l ≤ 800000 := by
        have := sumL_take hr l.length
        rw [List.take_length, h.1] at this
        omega
      have hE : shTE l b = if n' < sumL l then 2 else 7 := by
        unfold shTE
        rw [if_pos hr, hlb]
        by_cases hlt : n' < sumL l
        · rw [if_pos hlt, if_pos hlt]
        · rw [if_neg hlt, if_neg hlt, if_pos (by omega)]
      generalize sumL l = s at *
      have Hwidth := Lib.hid hwidth
      by_cases hlt : n' < s
      · rw [if_pos hlt] at hE
        rw [show shT l b = [] by unfold shT; rw [hE]; rfl, hE]
        clear hE hr hw hlb hwidth hlen
        go_enter Tryz.func60, Tryz.ntmps60
        go_wp2_with fail
        go_fit hright
        rintro e w1 ⟨rfl, hb1⟩
        go_wp2_with fail
        go_fit (Hwidth.out w1 (h.up (hb1.mono hB)) (Nat.le_trans hB hb1.size))
        rintro e w2 ⟨rfl, hb12⟩
        go_wp2
        go_ret2
        exact ⟨none, 0, 0, rfl, World.ownsRow_nil _ _ _ _, bnx hb1 hb12⟩
      · rw [if_neg hlt] at hE
        rw [show shT l b = [] by unfold shT; rw [hE]; rfl, hE]
        have hgt : s < n' := by omega
        clear hE hr hw hlb hwidth hlen
        go_enter Tryz.func60, Tryz.ntmps60
        go_wp2_with fail
        go_fit hright
        rintro e w1 ⟨rfl, hb1⟩
        go_wp2_with fail
        go_fit (Hwidth.out w1 (h.up (hb1.mono hB)) (Nat.le_trans hB hb1.size))
        rintro e w2 ⟨rfl, hb12⟩
        have hb2 := bnx hb1 hb12
        go_wp2_with fail
        go_fit (Hwidth.out w2 (h.up (hb2.mono hB)) (Nat.le_trans hB hb2.size))
        rintro e w3 ⟨rfl, hb23⟩
        go_wp2
        go_ret2
        exact ⟨none, 0, 0, rfl, World.ownsRow_nil _ _ _ _, bnx hb2 hb23⟩

end Go.Proofs.YtmkidihcdljkiaaGreat
