/-
  shape: Width, of; Put walked.
-/
import Derived.Test.YtonejdjhdjckjaaGreatShape2
import Derived.Test.YtonejdjhdjckjaaGreatOrders
set_option linter.unusedSimpArgs false
set_option linter.unusedVariables false
namespace Go.Proofs.YtonejdjhdjckjaaGreat
open Go.RowKit NumLaw
attribute [local go_sem] Addr.add_mid

theorem sumL_step {l : List FieldV} {k : Nat} {f : FieldV} (hx : l[k]? = some f) : sumL (l.take (k + 1)) = sumL (l.take k) + f.size.toNat := by rw [take_succ hx, sumL_snoc]
set_option maxRecDepth 10000 in
set_option maxHeartbeats 1000000 in
theorem shWidth_any (A : Option Addr) (n c B : Nat) (l : List FieldV) (w : World) (h : RdF w B A n c l) (hB : B ≤ w.heap.size) (hn : n ≤ 100000) :
    Calls Tryz.prog 56 #[.slice A n c] w fun e w' => e = .returned (.int .i64 (widthL l : Int)) ∧ Below w.heap.size w w' := by
  have hle := h.2.1
  have Hl := Lib.hid h.1
  have hright := shRight_any A n c B l w h hB
  cases hr : rightL l with
  | false =>
    rw [hr] at hright
    rw [show widthL l = 0 by unfold widthL; rw [hr]; rfl]
    clear hr
    go_enter Tryz.func56, Tryz.ntmps56
    go_wp2_with fail
    go_fit hright
    rintro e w1 ⟨rfl, hb1⟩
    go_wp2
    go_ret
    exact ⟨rfl, hb1⟩
  | true =>
    have Hr := Lib.hid hr
    rw [hr] at hright
    obtain ⟨tot, htot⟩ : ∃ tot, tot = widthL l := ⟨_, rfl⟩
    rw [← htot]
    have Ht : Hid (tot = sumL l) := Lib.hid (by rw [htot]; unfold widthL; rw [hr]; rfl)
    clear hr htot
    go_enter Tryz.func56, Tryz.ntmps56
    go_wp2_with fail
    go_fit hright
    rintro e w1 ⟨rfl, hb1⟩
    go_wp2_with fail
    go_loopw [3, 11] (fun s i wr => ∃ (k : Nat), k ≤ n ∧ i = .int .i64 k ∧ s = .int .i64 (sumL (l.take k) : Int) ∧ Below w.heap.size w wr) (fun _ i _ => n - (intOf i).toNat)
    case atStart => exact ⟨0, by omega, rfl, rfl, hb1⟩
    case round =>
      clear hb1 w1
      obtain ⟨k, hk, rfl, rfl, hb⟩ := hrel
      by_cases hlt : k < n
      · obtain ⟨g, off, f, rfl, hg, hx, h1, h2, h3, h4, _⟩ := (h.up (hb.mono hB)).at_ hlt
        have hfit := right_fits (List.all_eq_true.1 Hr.out _ (List.mem_of_getElem? hx))
        have hs := sumL_step hx
        have hle1 := sumL_take Hr.out k
        obtain ⟨size, sg, lo, hi⟩ := f
        simp only at h1 h2 h3 h4 hfit hs
        obtain ⟨sz, rfl⟩ : ∃ sz : Nat, size = sz := ⟨size.toNat, by omega⟩
        rw [Int.toNat_natCast] at hs
        have Hs := Lib.hid hs
        clear hs hx
        have hb2 := hb.alloc hb.size (.cells #[.int .i64 sz, .bool sg, .int .i64 lo, .int .i64 hi] 85)
        generalize sumL (l.take k) = s0 at *
        go_wp2
        go_roundw
        case rel => exact ⟨k + 1, by omega, by go_num, val_int (by rw [Hs.out]; omega), hb2⟩
        case measure => simp [intOf]; omega
      · obtain rfl : k = n := by omega
        have ht : l.take k = l := List.take_of_length_le (by rw [Hl.out]; omega)
        rw [ht, ← Ht.out]
        go_wp2
        go_ret
        exact ⟨rfl, hb⟩

end Go.Proofs.YtonejdjhdjckjaaGreat
