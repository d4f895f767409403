/-
  What crc.Seal, crc.Open, their reference, and the statements' Turned compute.
-/
import Derived.Test.YtbepojjecdfjkaaCrcWalks
import Derived.Deep.DeepFit
set_option linter.unusedSimpArgs false
set_option linter.unusedVariables false
namespace Go.Proofs.Ytbepojjecdfjkaa
open Go.RowKit CrcLaw

theorem T_odd {d : Nat} (h : d % 2 = 1) : T d = d / 2 ^^^ 33800 := by simp [T, h]
theorem T_even {d : Nat} (h : d % 2 = 0) : T d = d / 2 := by simp [T, h]
set_option maxHeartbeats 400000 in
theorem rstep_any (c b: Nat) (w : World) (h1 : c < 65536) (h2 : b < 256) :
    Calls Try.prog 11 #[.int .u16 c, .int .u8 b] w fun e w' => e = .returned (.int .u16 (stepN c b)) ∧ w = w' := by
  have e1 := u16_xor_nat c b h1 (by omega)
  go_enter Try.func11, Try.ntmps11
  go_wp2
  go_loop [0, 5, 6] (fun c' i _ => ∃ k : Nat, k ≤ 8 ∧ i = .int .i64 k ∧ c' = .int .u16 (Tn k (c ^^^ b))) (fun _ i _ => 8 - (intOf i).toNat)
  case atStart => exact ⟨0, by omega, rfl, rfl⟩
  case round =>
    obtain ⟨k, hk, rfl, rfl⟩ := hrel
    have hd : Tn k (c ^^^ b) < 65536 := Tn_lt k (xor_lt h1 (by omega))
    clear e1
    by_cases hlt : k < 8
    · have hs : Tn (k + 1) (c ^^^ b) = T (Tn k (c ^^^ b)) := rfl
      have Hs := Lib.hid hs
      clear hs
      generalize Tn k (c ^^^ b) = d at *
      rcases Nat.mod_two_eq_zero_or_one d with h0 | h0
      · have Ht := Lib.hid (T_even h0)
        have hq : ((d : Int) % 2 == 1) = false := by rw [beq_eq_false_iff_ne]; omega
        clear h0
        go_wp2
        go_round
        case rel => exact ⟨k + 1, by omega, by go_num, val_int (by rw [Hs.out, Ht.out]; omega)⟩
        case measure => simp [intOf]; omega
      · have Ht := Lib.hid (T_odd h0)
        have hq : ((d : Int) % 2 == 1) = true := by rw [beq_iff_eq]; omega
        have e1 : bits .xor .u16 ((d : Int) / 2) 33800 = ((d / 2 ^^^ 33800 : Nat) : Int) := by
          have := u16_xor_nat (d / 2) 33800 (by omega) (by omega)
          simpa using this
        clear h0
        go_wp2
        go_round
        case rel => exact ⟨k + 1, by omega, by go_num, val_int (by rw [Hs.out, Ht.out])⟩
        case measure => simp [intOf]; omega
    · obtain rfl : k = 8 := by omega
      go_wp2
      go_ret
      exact ⟨rfl, rfl⟩

set_option maxHeartbeats 400000 in
theorem rmore_any (c : Nat) (A : Option Addr) (n cap B : Nat) (l : List UInt8) (w : World) (h1 : c < 65536) (h : Rd w B 1 A n cap (bv l)) :
    Calls Try.prog 12 #[.int .u16 c, .slice A n cap] w fun e w' => e = .returned (.int .u16 (moreN c l)) ∧ w = w' := by
  have hn := h.le
  have hm := h.max
  unfold maxLen at hm
  go_enter Try.func12, Try.ntmps12
  go_wp2
  go_loop [0, 5] (fun c' i => ∃ k : Nat, k ≤ n ∧ i = .int .i64 k ∧ c' = .int .u16 (moreN c (l.take k))) (fun _ i => n - (intOf i).toNat)
  case atStart => exact ⟨0, by omega, rfl, rfl⟩
  case round =>
    obtain ⟨k, hk, rfl, rfl⟩ := hrel
    have hd : moreN c (l.take k) < 65536 := moreN_lt _ h1
    by_cases hlt : k < n
    · obtain ⟨ad, x, rfl, hx, hc⟩ := h.byte hlt
      have hs : moreN c (l.take (k + 1)) = stepN (moreN c (l.take k)) x.toNat := by rw [take_succ hx, moreN_snoc]
      have Hs := Lib.hid hs
      clear hs hx
      generalize moreN c (l.take k) = d at *
      go_wp2_with fail
      go_fit (rstep_any d x.toNat w hd x.toNat_lt)
      rintro e w1 ⟨rfl, rfl⟩
      go_wp2
      go_round
      case rel => exact ⟨k + 1, by omega, by go_num, val_int (cast_ Hs.out.symm)⟩
      case measure => simp [intOf]; omega
    · obtain rfl : k = n := by omega
      have ht : l.take k = l := List.take_of_length_le (by rw [h.blen]; exact Nat.le_refl _)
      rw [ht]
      clear ht
      go_wp2
      go_ret
      exact ⟨rfl, rfl⟩

set_option maxHeartbeats 400000 in
theorem rof_any (A : Option Addr) (n cap B : Nat) (l : List UInt8) (w : World) (h : Rd w B 1 A n cap (bv l)) :
    Calls Try.prog 13 #[.slice A n cap] w fun e w' => e = .returned (.int .u16 (moreN 65535 l)) ∧ w = w' := by
  go_enter Try.func13, Try.ntmps13
  go_wp2_with fail
  go_fit (rmore_any 65535 A n cap B l w (by omega) h)
  rintro e w1 ⟨rfl, rfl⟩
  go_wp2
  go_ret
  exact ⟨rfl, rfl⟩

/-- The seal's two bytes. -/
def tailN (l : List UInt8) : List UInt8 := [UInt8.ofNat (moreN 65535 l % 256), UInt8.ofNat (moreN 65535 l / 256)]
theorem rd_two (w : World) (e x y : Nat) (hx : x < 256) (hy : y < 256) : Rd (w.alloc (.cells #[.int .u8 x, .int .u8 y] e)) (w.heap.size + 1) 1 (some ⟨w.heap.size, 0, none⟩) 2 2 (bv [UInt8.ofNat x, UInt8.ofNat y]) := by
  have h := rd_const w e [UInt8.ofNat x, UInt8.ofNat y] (0, 0) (by simp [maxLen])
  have e1 : (UInt8.ofNat x).toNat = x := by rw [UInt8.toNat_ofNat']; omega
  have e2 : (UInt8.ofNat y).toNat = y := by rw [UInt8.toNat_ofNat']; omega
  simpa [bv, e1, e2] using h

set_option maxHeartbeats 400000 in
theorem seal_any (A : Option Addr) (n c B : Nat) (l : List UInt8) (w : World) (h : Rd w B 1 A n c (bv l)) (hB : B ≤ w.heap.size) (hn : n ≤ 1000000) :
    Calls Try.prog 14 #[.slice A n c] w (RetB w (l ++ tailN l)) := by
  have hl := Lib.hid h.blen
  have hlt := moreN_lt l (c := 65535) (by omega)
  have H := of_any _ _ _ _ _ _ (RdL.lit1 (e := 23) hB h) (by simp)
  simp only [World.size_alloc, List.flatten_cons, List.flatten_nil, List.append_nil] at H
  have HH := Lib.hid H
  clear H
  go_enter Try.func14, Try.ntmps14
  go_wp2_with fail
  go_fit HH.out
  rintro e w1 ⟨rfl, hb1⟩
  have hb1 := bnxa (Below.refl _ _) hb1
  have ht : tailN l = [UInt8.ofNat (moreN 65535 l % 256), UInt8.ofNat (moreN 65535 l / 256)] := rfl
  have Ht := Lib.hid ht
  clear ht HH
  generalize moreN 65535 l = m at *
  have h2 := rd_two w1 5 (m % 256) (m / 256) (by omega) (by omega)
  rw [show ((m % 256 : Nat) : Int) = (m : Int) % 256 by omega, show ((m / 256 : Nat) : Int) = (m : Int) / 256 by omega, ← Ht.out] at h2
  have h1 := h.up (below_nx (Below.refl B w) hB (bnx (Below.refl _ _) hb1))
  have ha := (Below.refl w1.heap.size w1).alloc (Nat.le_refl _) (.cells #[.int .u8 ((m : Int) % 256), .int .u8 ((m : Int) / 256)] 5)
  have H := concat_any _ _ _ _ _ _ (RdL.lit2 (e := 23) (B := w1.heap.size + 1) (by simp) ((h1.up (ha.mono (Nat.le_trans hB hb1.size))).more (by have := hb1.size; omega)) h2) (by simp) (by simp [hl.out, tailN]; omega)
  simp only [World.size_alloc, List.flatten_cons, List.flatten_nil, List.append_nil] at H
  go_wp2_with fail
  go_fit H
  clear H
  rintro e w2 hret
  obtain ⟨A2, c2, n2, rfl, hown2, hb2⟩ := hret.back ((hb1.alloc hb1.size _).alloc (by have := hb1.size; simp; omega) _)
  clear hret ha h1 h2
  go_wp2
  go_ret
  exact ⟨A2, c2, n2, rfl, hown2, hb2⟩

set_option maxHeartbeats 400000 in
theorem rseal_any (A : Option Addr) (n c B : Nat) (l : List UInt8) (w : World) (h : Rd w B 1 A n c (bv l)) (hB : B ≤ w.heap.size) (hn : n ≤ 1000000) :
    Calls Try.prog 15 #[.slice A n c] w (RetB w (l ++ tailN l)) := by
  obtain ⟨i0, hi⟩ := info_parts u8_info
  have Hi := Lib.hid hi
  have hl := Lib.hid h.blen
  have hlt := moreN_lt l (c := 65535) (by omega)
  have HH := Lib.hid (rof_any A n c B l w h)
  clear hi
  go_enter Try.func15, Try.ntmps15
  go_wp2_with fail
  go_fit HH.out
  rintro e w1 ⟨rfl, rfl⟩
  have ht : tailN l = [UInt8.ofNat (moreN 65535 l % 256), UInt8.ofNat (moreN 65535 l / 256)] := rfl
  have Ht := Lib.hid ht
  clear ht HH
  generalize moreN 65535 l = m at *
  have hb0 := Below.refl w.heap.size w
  go_wp2_with (at_builtin; refine stop_ ?_)
  refine go_ (wpList_app (base := w.heap.size) (n := 0) (xs := []) Try.underlying23 Hi.out rfl (by omega) (own_empty _ _ _ hb0.size 1) rfl (h.up ((Below.refl B w).alloc hB _)) rfl (bv_one _) (Nat.zero_add _) (List.nil_append _) (by unfold maxLen; omega) (by omega) (by simp) ?_)
  intro A3 c3 w3 hown3 hup3
  have hb3 : Below w.heap.size w w3 := hup3 (hb0.alloc hb0.size _) (by simp) (Nat.le_refl _)
  clear hup3 hb0
  have h2 := rd_two w3 5 (m % 256) (m / 256) (by omega) (by omega)
  rw [show ((m % 256 : Nat) : Int) = (m : Int) % 256 by omega, show ((m / 256 : Nat) : Int) = (m : Int) / 256 by omega, ← Ht.out] at h2
  have H2 := Lib.hid h2
  clear h2
  go_wp2_with (at_builtin; refine stop_ ?_)
  refine go_ (wpList_app (base := w.heap.size) Try.underlying23 Hi.out rfl (by omega) (hown3.alloc _) rfl H2.out rfl (bv_one _) (k := (l ++ tailN l).length) (by simp [hl.out, tailN]) (bv_app _ _).symm (by simp [hl.out, tailN, maxLen]; omega) (by simp [hl.out, tailN]; omega) (by have := hb3.size; simp; omega) ?_)
  intro A4 c4 w4 hown4 hup4
  have hb4 : Below w.heap.size w w4 := hup4 (hb3.alloc hb3.size _) (by have := hb3.size; simp; omega) (Nat.le_refl _)
  clear hup4 hb3 hown3
  generalize hll : (l ++ tailN l).length = ll at *
  have Hll := Lib.hid hll
  clear hll
  go_wp2
  go_ret
  exact ⟨A4, c4, ll, rfl, hown4, hb4⟩

end Go.Proofs.Ytbepojjecdfjkaa
