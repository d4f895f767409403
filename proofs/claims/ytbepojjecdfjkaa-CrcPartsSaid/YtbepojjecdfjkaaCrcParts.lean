/-
  The law CrcParts walked: it returns true and turns nothing that was there.
-/
import Derived.Test.YtbepojjecdfjkaaCrcKnows
import Derived.Deep.DeepFit
set_option linter.unusedSimpArgs false
set_option linter.unusedVariables false
namespace Go.Proofs.Ytbepojjecdfjkaa
open Go.RowKit CrcLaw

set_option maxHeartbeats 1000000 in
theorem parts_walk (c : Nat) (A1 : Option Addr) (n1 c1 : Nat) (l1 : List UInt8) (A2 : Option Addr) (n2 c2 : Nat) (l2 : List UInt8) (w : World) (hc : c < 65536) (h1 : Rd w w.heap.size 1 A1 n1 c1 (bv l1)) (h2 : Rd w w.heap.size 1 A2 n2 c2 (bv l2)) :
    Calls Try.prog 3 #[.int .u16 c, .slice A1 n1 c1, .slice A2 n2 c2] w fun e w' => e = .returned (.bool true) ∧ Below w.heap.size w w' := by
  have m1 := h1.le
  have m2 := h2.le
  have m3 := h1.max
  have m4 := h2.max
  unfold maxLen at m3 m4
  by_cases t1 : 1000 < n1
  · go_enter Try.func3, Try.ntmps3
    go_wp2_with fail
    refine (knows05 _).mono ?_
    rintro e w1 ⟨rfl, hb1⟩
    go_wp2
    go_ret
    exact ⟨rfl, hb1⟩
  by_cases t2 : 1000 < n2
  · go_enter Try.func3, Try.ntmps3
    go_wp2_with fail
    refine (knows05 _).mono ?_
    rintro e w1 ⟨rfl, hb1⟩
    go_wp2
    go_ret
    exact ⟨rfl, hb1⟩
  go_enter Try.func3, Try.ntmps3
  go_wp2_with fail
  refine (knows05 _).mono ?_
  rintro e w1 ⟨rfl, hb1⟩
  go_wp2
  go_loopw [7, 8] (fun s i wr => ∃ k : Nat, k ≤ n1 ∧ i = .int .i64 k ∧ s = .int .u16 (moreN c (l1.take k)) ∧ Below w.heap.size w wr) (fun _ i _ => n1 - (intOf i).toNat)
  case atStart => exact ⟨0, by omega, rfl, rfl, hb1⟩
  case round =>
    clear hb1 w1
    obtain ⟨k, hk, rfl, rfl, hb⟩ := hrel
    have hd : moreN c (l1.take k) < 65536 := moreN_lt _ hc
    by_cases hlt : k < n1
    · obtain ⟨ad, x, rfl, hx, hcell⟩ := (h1.up hb).byte hlt
      have hs : moreN c (l1.take (k + 1)) = stepN (moreN c (l1.take k)) x.toNat := by rw [take_succ hx, moreN_snoc]
      have Hs := Lib.hid hs
      clear hs hx
      generalize moreN c (l1.take k) = d at *
      go_wp2_with fail
      refine (step_any _ _ _ hd x.toNat_lt).mono ?_
      rintro e w1 ⟨rfl, rfl⟩
      go_wp2
      go_roundw
      case rel => exact ⟨k + 1, by omega, by go_num, val_int (cast_ Hs.out.symm), hb⟩
      case measure => simp [intOf]; omega
    · obtain rfl : k = n1 := by omega
      have ht : l1.take k = l1 := List.take_of_length_le (by rw [h1.blen]; exact Nat.le_refl _)
      rw [ht] at hd ⊢
      clear ht
      obtain ⟨i0, hi⟩ := info_parts u8_info
      have hl1 := h1.blen
      have hl2 := h2.blen
      have Hl := Lib.hid (And.intro hl1 hl2)
      clear hl1 hl2
      go_wp2_with (at_builtin; refine stop_ ?_)
      refine go_ (wpList_app (base := w.heap.size) (n := 0) (xs := []) Try.underlying23 hi rfl (by omega) (own_empty _ _ _ hb.size 1) rfl (h1.up (hb.alloc hb.size _)) rfl (bv_one _) (Nat.zero_add _) (List.nil_append _) (by unfold maxLen; omega) (by omega) (by simp; have := hb.size; omega) ?_)
      intro A3 c3 w3 hown3 hup3
      have hb3 : Below w.heap.size w w3 := hup3 (hb.alloc hb.size _) (by simp; have := hb.size; omega) (Nat.le_refl _)
      clear hup3 hb
      go_wp2_with (at_builtin; refine stop_ ?_)
      refine go_ (wpList_app (base := w.heap.size) Try.underlying23 hi rfl (by omega) hown3 rfl (h2.up hb3) rfl (bv_one _) rfl (bv_app _ _).symm (by unfold maxLen; omega) (by omega) hb3.size ?_)
      intro A4 c4 w4 hown4 hup4
      have hb4 : Below w.heap.size w w4 := hup4 hb3 hb3.size (Nat.le_refl _)
      have hr4 := Rd.own hown4
      clear hup4 hb3 hown3 hown4
      have hz4 : w4.heap.size ≤ w4.heap.size := Nat.le_refl _
      have hq4 : Below w4.heap.size w4 w4 := Below.refl _ _
      go_wp2_with fail
      go_fit (more_any c A1 k c1 _ l1 w4 hc (h1.nx hb4) (Nat.le_refl _))
      rintro e w5 ⟨rfl, hb5⟩
      have hq5 := bnx hq4 hb5
      have hb5 := bnx hb4 hb5
      clear hb4 hq4
      go_wp2_with fail
      go_fit (more_any (moreN c l1) A2 n2 c2 _ l2 w5 hd (h2.nx hb5) (Nat.le_refl _))
      rintro e w6 ⟨rfl, hb6⟩
      have hq6 := bnx hq5 hb6
      have hb6 := bnx hb5 hb6
      clear hb5 hq5
      have H := more_any c A4 (k + n2) c4 _ (l1 ++ l2) w6 hc (hr4.nx hq6) (Nat.le_refl _)
      rw [moreN_append] at H
      go_wp2_with fail
      go_fit H
      clear H
      rintro e w7 ⟨rfl, hb7⟩
      have hq7 := bnx hq6 hb7
      have hb7 := bnx hb6 hb7
      clear hb6 hq6
      have H := of_any _ _ _ _ _ _ (RdL.lit2 (e := 23) (Nat.le_refl _) (h1.nx hb7) (h2.nx hb7)) (by simp)
      simp only [World.size_alloc, List.flatten_cons, List.flatten_nil, List.append_nil] at H
      go_wp2_with fail
      go_fit H
      clear H
      rintro e w8 ⟨rfl, hb8⟩
      have hq8 := bnxa hq7 hb8
      have hb8 := bnxa hb7 hb8
      clear hb7 hq7
      have H := of_any _ _ _ _ _ _ (RdL.lit1 (e := 23) (Nat.le_refl _) (hr4.nx hq8)) (by simp)
      simp only [World.size_alloc, List.flatten_cons, List.flatten_nil, List.append_nil] at H
      go_wp2_with fail
      go_fit H
      clear H
      rintro e w9 ⟨rfl, hb9⟩
      have hq9 := bnxa hq8 hb9
      have hb9 := bnxa hb8 hb9
      clear hb8 hq8
      have H := of_any _ _ _ _ _ _ (RdL.lit3 (e := 23) (l2 := []) (Nat.le_refl _) (h1.nx hb9) (Rd.none_ _ _ _) (h2.nx hb9)) (by simp)
      simp only [World.size_alloc, List.flatten_cons, List.flatten_nil, List.append_nil, List.nil_append] at H
      rw [moreN_append] at H
      go_wp2_with fail
      go_fit H
      clear H
      rintro e w10 ⟨rfl, hb10⟩
      have hb10 := bnxa hb9 hb10
      clear hb9 hq9
      have H := of_any _ _ _ _ _ _ (RdL.lit1 (e := 23) (Nat.le_refl _) (h1.nx hb10)) (by simp)
      simp only [World.size_alloc, List.flatten_cons, List.flatten_nil, List.append_nil, List.nil_append] at H
      go_wp2_with fail
      go_fit H
      clear H
      rintro e w11 ⟨rfl, hb11⟩
      have hb11 := bnxa hb10 hb11
      clear hb10
      go_wp2_with fail
      go_fit (more_any (moreN 65535 l1) A2 n2 c2 _ l2 w11 (moreN_lt _ (by omega)) (h2.nx hb11) (Nat.le_refl _))
      rintro e w12 ⟨rfl, hb12⟩
      have hb12 := bnx hb11 hb12
      clear hb11
      go_wp2
      go_ret
      exact ⟨rfl, hb12⟩

end Go.Proofs.Ytbepojjecdfjkaa
