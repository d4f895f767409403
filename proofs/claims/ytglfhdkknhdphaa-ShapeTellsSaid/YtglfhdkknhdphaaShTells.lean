/-
  The law ShapeTells walked.
-/
import Derived.Test.YtglfhdkknhdphaaShRef5
import Derived.Test.YtglfhdkknhdphaaShBack
set_option linter.unusedSimpArgs false
set_option linter.unusedVariables false
namespace Go.Proofs.Ytglfhdkknhdphaa
open Go.RowKit NumLaw

set_option maxRecDepth 10000 in
set_option maxHeartbeats 1000000 in
theorem qTake14_any (A : Option Addr) (n c B : Nat) (l : List FieldV) (A' : Option Addr) (n' c' B' : Nat) (b : List UInt8) (w : World) (h : RdF w B A n c l) (hB : B ≤ w.heap.size) (h' : Rd w B' 1 A' n' c' (bv b)) (hB' : B' ≤ w.heap.size) (hn : n ≤ 100000) (hn' : n' ≤ 1000000000) :
    Calls Try.prog 62 #[.slice A n c, .slice A' n' c'] w (RetTS w (shT l b) (shTE l b)) := by
  have hlb := h'.blen
  have hright := qRight_any A n c B l w h hB
  have hwidth := fun w' h' hB' => qWidth_any A n c B l w' h' hB' hn
  cases hr : rightL l with
  | false =>
    have e1 : shTE l b = 1 := by unfold shTE; rw [if_neg (by rw [hr]; simp)]
    rw [show shT l b = [] by unfold shT; rw [e1]; rfl, e1]
    rw [hr] at hright
    clear hr e1 hlb hwidth
    go_enter Try.func62, Try.ntmps62
    go_wp2_with fail
    go_fit hright
    rintro e w1 ⟨rfl, hb1⟩
    go_wp2
    go_ret2
    exact ⟨none, 0, 0, rfl, World.ownsRow_nil _ _ _ _, hb1⟩
  | true =>
    by_cases hlen : n' = sumL l
    · exact qTake14_go A n c B l A' n' c' B' b w h hB h' hB' hn hr hlen
    · have hw : widthL l = sumL l := by unfold widthL; rw [if_pos hr]
      rw [hw] at hwidth
      rw [hr] at hright
      have hs8 : sumL l ≤ 800000 := by
        have := sumL_take hr l.length
        rw [List.take_length, h.1] at this
        omega
      have hE : shTE l b = if n' < sumL l then 2 else 7 := by
        unfold shTE
        rw [if_pos hr, hlb]
        by_cases hlt : n' < sumL l
        · rw [if_pos hlt, if_pos hlt]
        · rw [if_neg hlt, if_neg hlt, if_pos (by omega)]
      generalize sumL l = s at *
      have Hwidth := Lib.hid hwidth
      by_cases hlt : n' < s
      · rw [if_pos hlt] at hE
        rw [show shT l b = [] by unfold shT; rw [hE]; rfl, hE]
        clear hE hr hw hlb hwidth hlen
        go_enter Try.func62, Try.ntmps62
        go_wp2_with fail
        go_fit hright
        rintro e w1 ⟨rfl, hb1⟩
        go_wp2_with fail
        go_fit (Hwidth.out w1 (h.up (hb1.mono hB)) (Nat.le_trans hB hb1.size))
        rintro e w2 ⟨rfl, hb12⟩
        go_wp2
        go_ret2
        exact ⟨none, 0, 0, rfl, World.ownsRow_nil _ _ _ _, bnx hb1 hb12⟩
      · rw [if_neg hlt] at hE
        rw [show shT l b = [] by unfold shT; rw [hE]; rfl, hE]
        have hgt : s < n' := by omega
        clear hE hr hw hlb hwidth hlen
        go_enter Try.func62, Try.ntmps62
        go_wp2_with fail
        go_fit hright
        rintro e w1 ⟨rfl, hb1⟩
        go_wp2_with fail
        go_fit (Hwidth.out w1 (h.up (hb1.mono hB)) (Nat.le_trans hB hb1.size))
        rintro e w2 ⟨rfl, hb12⟩
        have hb2 := bnx hb1 hb12
        go_wp2_with fail
        go_fit (Hwidth.out w2 (h.up (hb2.mono hB)) (Nat.le_trans hB hb2.size))
        rintro e w3 ⟨rfl, hb23⟩
        go_wp2
        go_ret2
        exact ⟨none, 0, 0, rfl, World.ownsRow_nil _ _ _ _, bnx hb2 hb23⟩

set_option maxRecDepth 10000 in
set_option maxHeartbeats 2000000 in
theorem shtells_any (A : Option Addr) (n c : Nat) (l : List FieldV) (A2 : Option Addr) (n2 c2 : Nat) (vs : List Int) (A3 : Option Addr) (n3 c3 : Nat) (b : List UInt8) (w : World) (h : RdF w w.heap.size A n c l) (h2 : Rd w w.heap.size 1 A2 n2 c2 (vs.map (Value.int .i64))) (hwf : ∀ z ∈ vs, (Lit.int .i64 z).wf = true) (h3 : Rd w w.heap.size 1 A3 n3 c3 (bv b)) :
    Calls Try.prog 12 #[.slice A n c, .slice A2 n2 c2, .slice A3 n3 c3] w fun e w' => e = .returned (.bool true) ∧ Below w.heap.size w w' := by
  go_enter Try.func12, Try.ntmps12
  rcases (by omega : 200 < n ∨ (¬ 200 < n ∧ 200 < n2) ∨ (¬ 200 < n ∧ ¬ 200 < n2 ∧ 2000 < n3) ∨ (¬ 200 < n ∧ ¬ 200 < n2 ∧ ¬ 2000 < n3)) with g1 | ⟨g1, g2⟩ | ⟨g1, g2, g3⟩ | ⟨g1, g2, g3⟩
  · go_wp2_with fail
    go_fit (knows14 _)
    rintro e w1 ⟨rfl, hb1⟩
    go_wp2
    go_ret
    exact ⟨rfl, hb1⟩
  · go_wp2_with fail
    go_fit (knows14 _)
    rintro e w1 ⟨rfl, hb1⟩
    go_wp2
    go_ret
    exact ⟨rfl, hb1⟩
  · go_wp2_with fail
    go_fit (knows14 _)
    rintro e w1 ⟨rfl, hb1⟩
    go_wp2
    go_ret
    exact ⟨rfl, hb1⟩
  have hvb : ∀ x ∈ vs, -9223372036854775808 ≤ x ∧ x ≤ 9223372036854775807 := fun x hx => bounds_i64 (hwf x hx)
  have Hvb := Lib.hid hvb
  obtain ⟨oE, hoE⟩ : ∃ oE, oE = shE l vs := ⟨_, rfl⟩
  obtain ⟨oP, hoP⟩ : ∃ oP, oP = shP l vs := ⟨_, rfl⟩
  obtain ⟨oG, hoG⟩ : ∃ oG, oG = shTE l b := ⟨_, rfl⟩
  obtain ⟨oT, hoT⟩ : ∃ oT, oT = shT l b := ⟨_, rfl⟩
  have HoE := Lib.hid hoE
  have HoP := Lib.hid hoP
  have HoG := Lib.hid hoG
  have HoT := Lib.hid hoT
  clear hoE hoP hoG hoT hvb hwf
  go_wp2_with fail
  go_fit (knows14 _)
  rintro e w1 ⟨rfl, hb1⟩
  go_wp2_with fail
  go_fit (shPut_any A n c w.heap.size l A2 n2 c2 w.heap.size vs w1 (h.up hb1) hb1.size (h2.up hb1) hb1.size (by omega) Hvb.out)
  rw [← HoE.out, ← HoP.out]
  rintro e w2 ⟨Ap, np, kp, rfl, hownp, hbp⟩
  have hb2 := bnx hb1 hbp
  have hrp := Rd.own hownp
  clear hb1 hbp
  go_wp2_with fail
  go_fit (qPut14_any A n c w.heap.size l A2 n2 c2 w.heap.size vs w2 (h.up hb2) hb2.size (h2.up hb2) hb2.size (by omega))
  rw [← HoE.out, ← HoP.out]
  rintro e w3 ⟨Aq, nq, kq, rfl, hownq, hbq⟩
  have hb3 := bnx hb2 hbq
  replace hrp := hrp.nx hbq
  have hrq := Rd.own hownq
  clear hb2 hbq hownp hownq
  go_wp2_with fail
  go_fit (shTake_any A n c w.heap.size l A3 n3 c3 w.heap.size b w3 (h.up hb3) hb3.size (h3.up hb3) hb3.size (by omega) (by omega))
  rw [← HoG.out, ← HoT.out]
  rintro e w4 ⟨Ar, nr, kr, rfl, hownr, hbr⟩
  have hb4 := bnx hb3 hbr
  replace hrp := hrp.nx hbr
  replace hrq := hrq.nx hbr
  have hrr := Rd.own hownr
  clear hb3 hbr hownr
  go_wp2_with fail
  go_fit (qTake14_any A n c w.heap.size l A3 n3 c3 w.heap.size b w4 (h.up hb4) hb4.size (h3.up hb4) hb4.size (by omega) (by omega))
  rw [← HoG.out, ← HoT.out]
  rintro e w5 ⟨As, ns, ks, rfl, howns, hbs⟩
  have hb5 := bnx hb4 hbs
  replace hrp := hrp.nx hbs
  replace hrq := hrq.nx hbs
  replace hrr := hrr.nx hbs
  have hrs := Rd.own howns
  clear hb4 hbs howns
  have v1 := run_str w5 22 9 5 Try.underlying22 Try.underlying5 Try.underlying9 hrp
  have v2 := run_str w5 22 9 5 Try.underlying22 Try.underlying5 Try.underlying9 hrq
  go_wp2_with fail
  go_fit (num14_any _ _)
  rintro e w6 ⟨rfl, rfl⟩
  go_wp2_with fail
  go_fit (num14_any _ _)
  rintro e w6 ⟨rfl, rfl⟩
  go_wp2_with fail
  go_fit (same_any Ar nr kr w5.heap.size oT As ns ks w5.heap.size oT w5 hrr (Nat.le_refl _) hrs (Nat.le_refl _))
  rintro e w6 ⟨rfl, hb6⟩
  rw [decide_eq_true rfl]
  go_wp2_with fail
  go_fit (num14_any _ _)
  rintro e w7 ⟨rfl, rfl⟩
  go_wp2_with fail
  go_fit (num14_any _ _)
  rintro e w7 ⟨rfl, rfl⟩
  go_wp2
  go_ret
  exact ⟨by simp, bnx hb5 hb6⟩

end Go.Proofs.Ytglfhdkknhdphaa
