/-
  The law ShapeTells walked.
-/
import Derived.Test.YtkelepnipndbbaaShRef5
import Derived.Test.YtkelepnipndbbaaShBack
set_option linter.unusedSimpArgs false
set_option linter.unusedVariables false
namespace Go.Proofs.Ytkelepnipndbbaa
open Go.RowKit NumLaw

set_option maxRecDepth 10000 in
set_option maxHeartbeats 1000000 in
theorem qTake14_any (A : Option Addr) (n c B : Nat) (l : List FieldV) (A' : Option Addr) (n' c' B' : Nat) (b : List UInt8) (w : World) (h : RdF w B A n c l) (hB : B ≤ w.heap.size) (h' : Rd w B' 1 A' n' c' (bv b)) (hB' : B' ≤ w.heap.size) (hn : n ≤ 100000) (hn' : n' ≤ 1000000000) :
    Calls Try.prog 96 #[.slice A n c, .slice A' n' c'] w (RetTS w (shT l b) (shTE l b)) := by
  have hlb := h'.blen
  have hright := qRight_any A n c B l w h hB
  have hwidth := fun w' h' hB' => qWidth_any A n c B l w' h' hB' hn
  cases hr : rightL l with
  | false =>
    have e1 : shTE l b = 1 := by unfold shTE; rw [if_neg (by rw [hr]; simp)]
    rw [show shT l b = [] by unfold shT; rw [e1]; rfl, e1]
    rw [hr] at hright
    clear hr e1 hlb hwidth
    go_enter Try.func96, Try.ntmps96
    go_wp2_with fail
    go_fit hright
    rintro e w1 ⟨rfl, hb1⟩
    go_wp2
    go_ret2
    exact ⟨none, 0, 0, rfl, World.ownsRow_nil _ _ _ _, hb1⟩
  | true =>
    by_cases hlen : n' = sumL l
    · exact qTake14_go A n c B l A' n' c' B' b w h hB h' hB' hn hr hlen
    · have hw : widthL l = sumL l := by unfold widthL; rw [if_pos hr]
      rw [hw] at hwidth
      rw [hr] at hright
      have hs8 : sumL l ≤ 800000 := by
        have := sumL_take hr l.length
        rw [List.take_length, h.1] at this
        omega
      have hE : shTE l b = if n' < sumL l then 2 else 7 := by
        unfold shTE
        rw [if_pos hr, hlb]
        by_cases hlt : n' < sumL l
        · rw [if_pos hlt, if_pos hlt]
        · rw [if_neg hlt, if_neg hlt, if_pos (by omega)]
      generalize sumL l = s at *
      have Hwidth := Lib.hid hwidth
      by_cases hlt : n' < s
      · rw [if_pos hlt] at hE
        rw [show shT l b = [] by unfold shT; rw [hE]; rfl, hE]
        clear hE hr hw hlb hwidth hlen
        go_enter Try.func96, Try.ntmps96
        go_wp2_with fail
        go_fit hright
        rintro e w1 ⟨rfl, hb1⟩
        go_wp2_with fail
        go_fit (Hwidth.out w1 (h.up (hb1.mono hB)) (Nat.le_trans hB hb1.size))
        rintro e w2 ⟨rfl, hb12⟩
        go_wp2
        go_ret2
        exact ⟨none, 0, 0, rfl, World.ownsRow_nil _ _ _ _, bnx hb1 hb12⟩
      · rw [if_neg hlt] at hE
        rw [show shT l b = [] by unfold shT; rw [hE]; rfl, hE]
        have hgt : s < n' := by omega
        clear hE hr hw hlb hwidth hlen
        go_enter Try.func96, Try.ntmps96
        go_wp2_with fail
        go_fit hright
        rintro e w1 ⟨rfl, hb1⟩
        go_wp2_with fail
        go_fit (Hwidth.out w1 (h.up (hb1.mono hB)) (Nat.le_trans hB hb1.size))
        rintro e w2 ⟨rfl, hb12⟩
        have hb2 := bnx hb1 hb12
        go_wp2_with fail
        go_fit (Hwidth.out w2 (h.up (hb2.mono hB)) (Nat.le_trans hB hb2.size))
        rintro e w3 ⟨rfl, hb23⟩
        go_wp2
        go_ret2
        exact ⟨none, 0, 0, rfl, World.ownsRow_nil _ _ _ _, bnx hb2 hb23⟩

end Go.Proofs.Ytkelepnipndbbaa
