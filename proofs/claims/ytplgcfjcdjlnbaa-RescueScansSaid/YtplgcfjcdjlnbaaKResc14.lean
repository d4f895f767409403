/-
  RescueScans walked (printed by gen_resc14.py).
-/
import Derived.Test.YtplgcfjcdjlnbaaKResc12
import Derived.Test.YtplgcfjcdjlnbaaKResc13
set_option linter.unusedSimpArgs false
set_option linter.unusedVariables false
namespace Go.Proofs.Ytplgcfjcdjlnbaa
open Go.RowKit NumLaw CrcLaw
attribute [local go_sem] Addr.add_mid

theorem scnP_len {l : List UInt8} : ∀ f p, (scnP l f p).length ≤ f
  | 0, _ => Nat.le_refl _
  | f + 1, p => by
    unfold scnP
    split
    · split
      · have := scnP_len (l := l) f (p + 256)
        rw [List.length_cons]; omega
      · have := scnP_len (l := l) f (p + 1); omega
    · exact Nat.zero_le _
theorem fdK_len {G : List FdT} {l : List UInt8} {P : List Nat} (h : G.map fdK = fndS l P) : G.length = P.length := by
  have := congrArg List.length h
  unfold fndS at this
  rwa [List.length_map, List.length_map] at this
theorem fdK_no {G G' : List FdT} (h : G.map fdK = G'.map fdK) : G.map FdT.no = G'.map FdT.no := by
  have := congrArg (List.map (fun x : Nat × Nat × List En => x.2.1)) h
  rw [List.map_map, List.map_map] at this
  exact this
set_option maxRecDepth 10000 in
set_option maxHeartbeats 4000000 in
theorem rescuescans_any (A : Option Addr) (n c : Nat) (l : List UInt8) (w : World) (h : Rd w w.heap.size 1 A n c (bv l)) :
    Calls Try.prog 19 #[.slice A n c] w fun e w' => e = .returned (.bool true) ∧ Below w.heap.size w w' := by
  have hlb := h.blen
  have hle := h.le
  have hmx := h.max
  unfold maxLen at hmx
  by_cases hn : 2048 < n
  · have hn' : (2048 : Int) < (n : Int) := by omega
    go_enter Try.func19, Try.ntmps19
    go_wp2_with fail
    go_fit (knows37 w)
    rintro e w1 ⟨rfl, hb1⟩
    go_wp2
    go_ret
    exact ⟨rfl, hb1⟩
  have hn' : ¬ (2048 : Int) < (n : Int) := by omega
  have hsl : (scnAll l).length ≤ 2049 := by have := scnP_len (l := l) (l.length + 1) 0; unfold scnAll; omega
  have Hsl := Lib.hid hsl
  clear hsl hlb
  go_enter Try.func19, Try.ntmps19
  go_wp2_with fail
  go_fit (knows37 w)
  rintro e w1 ⟨rfl, hb1⟩
  have h1 := h.nx hb1
  go_wp2_with fail
  go_fit (scan_any A n c w1.heap.size l w1 h1 (Nat.le_refl _) (by omega))
  unfold RetFd
  rintro e w2 ⟨A2, n2, c2, G2, rfl, hr2, hG2, hK2, hbx⟩
  have hl2 := hr2.len
  have hn2 : n2 ≤ 2049 := by rw [← hl2, fdK_len hK2]; exact Hsl.out
  have hb2 := bnx hb1 hbx
  have h2 := h1.nx hbx
  have Hl2 := Lib.hid hl2
  have HK2 := Lib.hid hK2
  clear hbx hb1 h1 hl2 hK2
  go_wp2_with fail
  go_fit (found_any A2 n2 c2 G2 w2 hr2 hG2 (by omega))
  rintro e w3 ⟨A3, c3, rfl, hr3, hG3, hbx⟩
  have hb3 := bnx hb2 hbx
  have h3 := h2.nx hbx
  have hr23 : RdFd _ _ A2 n2 c2 G2 := RdR.nx hr2 hbx
  clear hbx hb2 h2 hr2 hG2
  go_wp2_with fail
  go_fit (qscan_any A n c w3.heap.size l w3 h3 (Nat.le_refl _) (by omega))
  unfold RetFd
  rintro e w4 ⟨A4, n4, c4, G4, rfl, hr4, hG4, hK4, hbx⟩
  have hb4 := bnx hb3 hbx
  have h4 := h3.nx hbx
  have hr24 : RdFd _ _ A2 n2 c2 G2 := RdR.nx hr23 hbx
  have hr34 : RdFd _ _ A3 n2 c3 G2 := RdR.nx hr3 hbx
  have hG34 : ∀ f ∈ G2, FdE w4 f := fun f hf => (hG3 f hf).nx hbx
  have hsm := fsame_any A3 n2 c3 A4 n4 c4 G2 G4 w4 hr34 hG34 hr4 hG4
  rw [decide_eq_true (HK2.out.trans hK4.symm)] at hsm
  have Hsm := Lib.hid hsm
  clear hbx hb3 h3 hr23 hr3 hG3 hK4 hsm hr34 hr4 hG4
  go_wp2_with fail
  go_fit Hsm.out
  rintro e w5 ⟨rfl, hbx⟩
  have hb5 := bnx hb4 hbx
  have h5 := h4.nx hbx
  have hr25 : RdFd _ _ A2 n2 c2 G2 := RdR.nx hr24 hbx
  have hno2 : ∀ f ∈ G2, f.no < 4294967296 := fun f hf => (hG34 f hf).2.2
  clear hbx hb4 h4 hr24 hG34 Hsm
  go_wp2_with fail
  go_fit (gaps_any A2 n2 c2 G2 w5 hr25 hno2 (by omega))
  rintro e w6 ⟨rfl, hbx⟩
  have hb6 := bnx hb5 hbx
  have h6 := h5.nx hbx
  clear hbx hb5 h5 hr25
  go_wp2_with fail
  go_fit (qscan_any A n c w6.heap.size l w6 h6 (Nat.le_refl _) (by omega))
  unfold RetFd
  rintro e w7 ⟨A7, n7, c7, G7, rfl, hr7, hG7, hK7, hbx⟩
  have hb7 := bnx hb6 hbx
  have hl7 := hr7.len
  have hn7 : n7 = n2 := by rw [← hl7, fdK_len hK7, ← fdK_len HK2.out, Hl2.out]
  subst hn7
  have Hno := Lib.hid (fdK_no (HK2.out.trans hK7.symm))
  clear hbx hb6 h6 hl7 hK7
  go_wp2_with fail
  go_fit (qgaps_any A7 n7 c7 G7 w7 hr7 (fun f hf => (hG7 f hf).2.2) (by omega))
  rw [← Hno.out]
  rintro e w8 ⟨rfl, hbx⟩
  have hb8 := bnx hb7 hbx
  clear hbx
  go_wp2
  go_ret
  exact ⟨rfl, hb8⟩

end Go.Proofs.Ytplgcfjcdjlnbaa
