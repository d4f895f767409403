/-
  vary.Take and the document's, vary.Ints: walked.
-/
import Derived.Test.YtplgcfjcdjlnbaaVary3
set_option linter.unusedSimpArgs false
set_option linter.unusedVariables false
namespace Go.Proofs.Ytplgcfjcdjlnbaa
open Go.RowKit NumLaw
attribute [local go_sem] Addr.add_mid

theorem or_part {u x k : Nat} (hu : u < 128 ^ k) : u ||| x * 128 ^ k = u + 128 ^ k * x := by
  have e : (128 : Nat) ^ k = 2 ^ (7 * k) := by rw [Nat.pow_mul]
  rw [e] at hu ⊢
  rw [Nat.or_comm, Nat.mul_comm, ← Nat.two_pow_add_eq_or_of_lt hu, Nat.add_comm]
theorem pow_two7 (k : Nat) : (2 : Nat) ^ (7 * k) = 128 ^ k := by rw [Nat.pow_mul]
theorem take_or {u x k : Nat} (hu : u < 128 ^ k) (hk : k ≤ 9) (h9 : k = 9 → x ≤ 1) : bits .or .u64 (u : Int) (IntKind.u64.wrap ((x : Int) % 128 * 2 ^ (7 * k))) = ((u + 128 ^ k * (x % 128) : Nat) : Int) := by
  have hlt : x % 128 * 128 ^ k < 18446744073709551616 ∧ 128 ^ k ≤ 9223372036854775808 := by
    have h1 : x % 128 ≤ 127 := by omega
    have h2 : k = 9 → x % 128 ≤ 1 := fun e => by have := h9 e; omega
    generalize x % 128 = y at *
    rcases le_cases9 hk with rfl | rfl | rfl | rfl | rfl | rfl | rfl | rfl | rfl | rfl <;> simp at h2 ⊢ <;> omega
  have e : ((x : Int) % 128 * 2 ^ (7 * k)) = ((x % 128 * 128 ^ k : Nat) : Int) := by
    rw [← pow_two7]
    simp
  rw [e, IntWalk.u64_in _ (by omega), u64_or_nat _ _ (by omega) (by omega), or_part hu]
theorem take_mul {u x k : Nat} (hu : u < 128 ^ k) (hk : k ≤ 9) (h9 : k = 9 → x ≤ 1) : IntKind.u64.wrap (((128 ^ k : Nat) : Int) * ((x : Int) % 128)) = ((128 ^ k * (x % 128) : Nat) : Int) ∧ IntKind.u64.wrap ((u : Int) + ((128 ^ k * (x % 128) : Nat) : Int)) = ((u + 128 ^ k * (x % 128) : Nat) : Int) := by
  have hlt : u + 128 ^ k * (x % 128) < 18446744073709551616 := by
    have h1 : x % 128 ≤ 127 := by omega
    have h2 : k = 9 → x % 128 ≤ 1 := fun e => by have := h9 e; omega
    generalize x % 128 = y at *
    rcases le_cases9 hk with rfl | rfl | rfl | rfl | rfl | rfl | rfl | rfl | rfl | rfl <;> simp at h2 hu ⊢ <;> omega
  have e : (((128 ^ k : Nat) : Int) * ((x : Int) % 128)) = ((128 ^ k * (x % 128) : Nat) : Int) := by simp
  rw [e]
  exact ⟨IntWalk.u64_in _ (by omega), by rw [show (u : Int) + ((128 ^ k * (x % 128) : Nat) : Int) = ((u + 128 ^ k * (x % 128) : Nat) : Int) by omega]; exact IntWalk.u64_in _ (by omega)⟩
def RetTk (b : List UInt8) (w : World) (e : Ending) (w' : World) : Prop :=
  e = .returned (.tuple #[.int .u64 ((varT b).1 : Int), .int .i64 ((varT b).2.1 : Int), .int .i64 ((varT b).2.2 : Int)]) ∧ w = w'
set_option maxRecDepth 10000 in
set_option maxHeartbeats 2000000 in
theorem varyTake_any (A : Option Addr) (n c B : Nat) (b : List UInt8) (w : World) (h : Rd w B 1 A n c (bv b)) : Calls Try.prog 111 #[.slice A n c] w (RetTk b w) := by
  have hlb := h.blen
  have hle := h.le
  have hmx := h.max
  unfold maxLen at hmx
  have Hlb := Lib.hid hlb
  clear hlb
  unfold RetTk
  obtain ⟨oR, hoR⟩ : ∃ r, r = varT b := ⟨_, rfl⟩
  rw [← hoR]
  have HoR := Lib.hid hoR
  clear hoR
  obtain ⟨o1, o2, o3⟩ := oR
  go_enter Try.func111, Try.ntmps111
  go_wp2_with fail
  go_loopw [5, 10] (fun uv i wr => ∃ (k u : Nat), k ≤ n ∧ k ≤ 9 ∧ uv = .int .u64 u ∧ i = .int .i64 k ∧ u < 128 ^ k ∧ wr = w ∧ Hid (TkV b k u)) (fun _ i _ => n - (intOf i).toNat)
  case atStart => exact ⟨0, 0, by omega, by omega, rfl, rfl, by simp, rfl, Lib.hid (tkV_start b)⟩
  case round =>
    obtain ⟨k, u, hk, hk9, rfl, rfl, hu, rfl, htk⟩ := hrel
    by_cases hlt : k < n
    · obtain ⟨ad, x, rfl, hx, hcell⟩ := h.byte hlt
      have hxl := x.toNat_lt
      have Hx := Lib.hid hx
      have hand := and127 ⟨x.toNat, by omega⟩
      simp only at hand
      clear hx
      by_cases h9 : k = 9
      · subst h9
        have hcell9 : wr.cell? ⟨ad.block, ad.off + 9, none⟩ = some (.int .u8 (x.toNat : Int)) := by first | exact hcell | simpa [Addr.add] using hcell
        clear hcell
        by_cases hv : 1 < x.toNat
        · have e := HoR.out.trans (tkV_bad htk.out Hx.out (.inl ⟨rfl, hv⟩))
          injection e with e1 e2
          injection e2 with e2 e3
          subst e1; subst e2; subst e3
          have hv' : (1 : Int) < (x.toNat : Int) := by omega
          go_wp2
          go_ret3
          exact ⟨rfl, rfl⟩
        have hu63 : u < 9223372036854775808 := hu
        have hor9 : bits .or .u64 (u : Int) 9223372036854775808 = ((u + 9223372036854775808 : Nat) : Int) := by
          have := or_part (x := 1) hu
          rw [show (9223372036854775808 : Int) = ((1 * 128 ^ 9 : Nat) : Int) by decide, u64_or_nat _ _ (by omega) (by decide), this]
        obtain ⟨r, hr⟩ : ∃ r, r = u + 9223372036854775808 := ⟨_, rfl⟩
        rw [← hr] at hor9
        have hadd : IntKind.u64.wrap ((u : Int) + 9223372036854775808) = (r : Int) := by rw [hr]; exact IntWalk.u64_in _ (by omega)
        have hadd2 : (u : Int) + 9223372036854775808 = (r : Int) := by omega
        rw [hadd2] at hadd
        rcases (by omega : x.toNat = 0 ∨ x.toNat = 1) with h0 | h0
        · have e := HoR.out.trans (tkV_bad htk.out Hx.out (.inr ⟨h0, by omega⟩))
          injection e with e1 e2
          injection e2 with e2 e3
          subst e1; subst e2; subst e3
          rw [h0] at hcell9
          clear hor9 hadd hadd2 hr
          go_wp2
          go_ret3
          exact ⟨rfl, rfl⟩
        · have e := HoR.out.trans (tkV_end htk.out Hx.out (by omega) (by omega))
          rw [h0, Nat.mul_one, show 128 ^ 9 = 9223372036854775808 by decide, ← hr] at e
          injection e with e1 e2
          injection e2 with e2 e3
          subst e1; subst e2; subst e3
          rw [h0] at hcell9
          have hand1 : bits .and .u8 1 127 = 1 := by decide
          clear hand
          clear hr hu hu63
          go_wp2
          go_ret3
          exact ⟨rfl, rfl⟩
      have hi9 : ¬ (k : Int) = 9 := by omega
      by_cases h0 : x.toNat = 0
      · by_cases hk0 : k = 0
        · subst hk0
          have hcell0 : wr.cell? ad = some (.int .u8 (x.toNat : Int)) := by first | exact hcell | simpa [Addr.add] using hcell
          have hlt0 : (0 : Int) < (n : Int) := by omega
          rw [h0] at hcell0
          have hand0 : bits .and .u8 0 127 = 0 := by decide
          obtain rfl : u = 0 := by simp at hu; exact hu
          have e := HoR.out.trans (tkV_end htk.out Hx.out (by omega) (by omega))
          rw [h0] at e
          have e : (o1, o2, o3) = (0, 1, 0) := e
          injection e with e1 e2
          injection e2 with e2 e3
          subst e1; subst e2; subst e3
          have hor0 : bits .or .u64 0 0 = 0 := by decide
          clear hcell hi9
          go_wp2
          go_ret3
          exact ⟨rfl, rfl⟩
        · have e := HoR.out.trans (tkV_bad htk.out Hx.out (.inr ⟨h0, by omega⟩))
          injection e with e1 e2
          injection e2 with e2 e3
          subst e1; subst e2; subst e3
          rw [h0] at hcell
          have hk0' : (0 : Int) < (k : Int) := by omega
          clear hk0
          go_wp2
          go_ret3
          exact ⟨rfl, rfl⟩
      have hi0 : ¬ (x.toNat : Int) = 0 := by omega
      have hor := take_or (x := x.toNat) hu hk9 (fun e => absurd e h9)
      obtain ⟨hm1, hm2⟩ := take_mul (x := x.toNat) hu hk9 (fun e => absurd e h9)
      have hm3 : IntKind.u64.wrap (((128 ^ k : Nat) : Int) * 128) = ((128 ^ (k + 1) : Nat) : Int) := by
        rw [show ((128 ^ k : Nat) : Int) * 128 = ((128 ^ (k + 1) : Nat) : Int) by rw [Nat.pow_succ]; simp]
        refine IntWalk.u64_in _ ?_
        have : 128 ^ (k + 1) ≤ 128 ^ 9 := Nat.pow_le_pow_right (by omega) (by omega)
        have h128 : (128 : Nat) ^ 9 = 9223372036854775808 := by decide
        omega
      obtain ⟨q, hq⟩ : ∃ q, q = 128 ^ k * (x.toNat % 128) := ⟨_, rfl⟩
      rw [← hq] at hor hm1 hm2
      obtain ⟨r, hr⟩ : ∃ r, r = u + q := ⟨_, rfl⟩
      rw [← hr] at hor hm2
      have hm4 : (u : Int) + (q : Int) = (r : Int) := by omega
      rw [hm4] at hm2
      obtain ⟨p, hp⟩ : ∃ p, p = 128 ^ k := ⟨_, rfl⟩
      obtain ⟨p2, hp2⟩ : ∃ p, p = 128 ^ (k + 1) := ⟨_, rfl⟩
      have Hp2 := Lib.hid hp2
      rw [← hp] at hm1 hm3
      rw [← hp2] at hm3
      by_cases hx1 : x.toNat < 128
      · have e := HoR.out.trans (tkV_end htk.out Hx.out (by omega) hx1)
        rw [show x.toNat % 128 = x.toNat by omega] at hq
        rw [← hq, ← hr] at e
        injection e with e1 e2
        injection e2 with e2 e3
        subst e1; subst e2; subst e3
        clear hq hr hu hp hp2
        go_wp2
        go_ret3
        exact ⟨rfl, rfl⟩
      · have hst := tkV_more htk.out Hx.out (by omega) hx1
        rw [show x.toNat % 128 = x.toNat - 128 by omega] at hq
        rw [← hq, ← hr] at hst
        have hr2 : r < 128 ^ (k + 1) := by
          rw [hr, hq, Nat.pow_succ]
          have h1 : 128 ^ k * (x.toNat - 128) ≤ 128 ^ k * 127 := Nat.mul_le_mul_left _ (by omega)
          omega
        have Hst := Lib.hid hst
        have Hr2 := Lib.hid hr2
        clear hq hr hu hst hr2 htk hp hp2
        go_wp2
        go_roundw
        case rel => exact ⟨k + 1, r, by omega, by omega, rfl, by go_num, Hr2.out, by first | rfl | trivial, Hst⟩
        case measure => simp [intOf]; omega
    · obtain rfl : k = n := by omega
      have e := HoR.out.trans (tkV_short htk.out (by rw [Hlb.out]; exact Nat.le_refl _))
      injection e with e1 e2
      injection e2 with e2 e3
      subst e1; subst e2; subst e3
      go_wp2
      go_ret3
      exact ⟨rfl, rfl⟩

set_option maxRecDepth 10000 in
set_option maxHeartbeats 2000000 in
theorem qTake03_any (A : Option Addr) (n c B : Nat) (b : List UInt8) (w : World) (h : Rd w B 1 A n c (bv b)) : Calls Try.prog 85 #[.slice A n c] w (RetTk b w) := by
  have hlb := h.blen
  have hle := h.le
  have hmx := h.max
  unfold maxLen at hmx
  have Hlb := Lib.hid hlb
  clear hlb
  unfold RetTk
  obtain ⟨oR, hoR⟩ : ∃ r, r = varT b := ⟨_, rfl⟩
  rw [← hoR]
  have HoR := Lib.hid hoR
  clear hoR
  obtain ⟨o1, o2, o3⟩ := oR
  go_enter Try.func85, Try.ntmps85
  go_wp2_with fail
  go_loopw [5, 6, 7] (fun uv by_ i wr => ∃ (k u : Nat), k ≤ n ∧ k ≤ 9 ∧ uv = .int .u64 u ∧ by_ = .int .u64 ((128 ^ k : Nat) : Int) ∧ i = .int .i64 k ∧ u < 128 ^ k ∧ wr = w ∧ Hid (TkV b k u)) (fun _ _ i _ => n - (intOf i).toNat)
  case atStart => exact ⟨0, 0, by omega, by omega, rfl, rfl, rfl, by simp, rfl, Lib.hid (tkV_start b)⟩
  case round =>
    obtain ⟨k, u, hk, hk9, rfl, rfl, rfl, hu, rfl, htk⟩ := hrel
    by_cases hlt : k < n
    · obtain ⟨ad, x, rfl, hx, hcell⟩ := h.byte hlt
      have hxl := x.toNat_lt
      have Hx := Lib.hid hx
      have hand := and127 ⟨x.toNat, by omega⟩
      simp only at hand
      clear hx
      by_cases h9 : k = 9
      · subst h9
        have hcell9 : wr.cell? ⟨ad.block, ad.off + 9, none⟩ = some (.int .u8 (x.toNat : Int)) := by first | exact hcell | simpa [Addr.add] using hcell
        clear hcell
        by_cases hv : 1 < x.toNat
        · have e := HoR.out.trans (tkV_bad htk.out Hx.out (.inl ⟨rfl, hv⟩))
          injection e with e1 e2
          injection e2 with e2 e3
          subst e1; subst e2; subst e3
          have hv' : (1 : Int) < (x.toNat : Int) := by omega
          go_wp2
          go_ret3
          exact ⟨rfl, rfl⟩
        have hu63 : u < 9223372036854775808 := hu
        have hor9 : bits .or .u64 (u : Int) 9223372036854775808 = ((u + 9223372036854775808 : Nat) : Int) := by
          have := or_part (x := 1) hu
          rw [show (9223372036854775808 : Int) = ((1 * 128 ^ 9 : Nat) : Int) by decide, u64_or_nat _ _ (by omega) (by decide), this]
        obtain ⟨r, hr⟩ : ∃ r, r = u + 9223372036854775808 := ⟨_, rfl⟩
        rw [← hr] at hor9
        have hadd : IntKind.u64.wrap ((u : Int) + 9223372036854775808) = (r : Int) := by rw [hr]; exact IntWalk.u64_in _ (by omega)
        have hadd2 : (u : Int) + 9223372036854775808 = (r : Int) := by omega
        rw [hadd2] at hadd
        rcases (by omega : x.toNat = 0 ∨ x.toNat = 1) with h0 | h0
        · have e := HoR.out.trans (tkV_bad htk.out Hx.out (.inr ⟨h0, by omega⟩))
          injection e with e1 e2
          injection e2 with e2 e3
          subst e1; subst e2; subst e3
          rw [h0] at hcell9
          clear hor9 hadd hadd2 hr
          go_wp2
          go_ret3
          exact ⟨rfl, rfl⟩
        · have e := HoR.out.trans (tkV_end htk.out Hx.out (by omega) (by omega))
          rw [h0, Nat.mul_one, show 128 ^ 9 = 9223372036854775808 by decide, ← hr] at e
          injection e with e1 e2
          injection e2 with e2 e3
          subst e1; subst e2; subst e3
          rw [h0] at hcell9
          have hand1 : bits .and .u8 1 127 = 1 := by decide
          clear hand
          clear hr hu hu63
          go_wp2
          go_ret3
          exact ⟨rfl, rfl⟩
      have hi9 : ¬ (k : Int) = 9 := by omega
      by_cases h0 : x.toNat = 0
      · by_cases hk0 : k = 0
        · subst hk0
          have hcell0 : wr.cell? ad = some (.int .u8 (x.toNat : Int)) := by first | exact hcell | simpa [Addr.add] using hcell
          have hlt0 : (0 : Int) < (n : Int) := by omega
          rw [h0] at hcell0
          have hand0 : bits .and .u8 0 127 = 0 := by decide
          obtain rfl : u = 0 := by simp at hu; exact hu
          have e := HoR.out.trans (tkV_end htk.out Hx.out (by omega) (by omega))
          rw [h0] at e
          have e : (o1, o2, o3) = (0, 1, 0) := e
          injection e with e1 e2
          injection e2 with e2 e3
          subst e1; subst e2; subst e3
          have hor0 : bits .or .u64 0 0 = 0 := by decide
          clear hcell hi9
          go_wp2
          go_ret3
          exact ⟨rfl, rfl⟩
        · have e := HoR.out.trans (tkV_bad htk.out Hx.out (.inr ⟨h0, by omega⟩))
          injection e with e1 e2
          injection e2 with e2 e3
          subst e1; subst e2; subst e3
          rw [h0] at hcell
          have hk0' : (0 : Int) < (k : Int) := by omega
          clear hk0
          go_wp2
          go_ret3
          exact ⟨rfl, rfl⟩
      have hi0 : ¬ (x.toNat : Int) = 0 := by omega
      have hor := take_or (x := x.toNat) hu hk9 (fun e => absurd e h9)
      obtain ⟨hm1, hm2⟩ := take_mul (x := x.toNat) hu hk9 (fun e => absurd e h9)
      have hm3 : IntKind.u64.wrap (((128 ^ k : Nat) : Int) * 128) = ((128 ^ (k + 1) : Nat) : Int) := by
        rw [show ((128 ^ k : Nat) : Int) * 128 = ((128 ^ (k + 1) : Nat) : Int) by rw [Nat.pow_succ]; simp]
        refine IntWalk.u64_in _ ?_
        have : 128 ^ (k + 1) ≤ 128 ^ 9 := Nat.pow_le_pow_right (by omega) (by omega)
        have h128 : (128 : Nat) ^ 9 = 9223372036854775808 := by decide
        omega
      obtain ⟨q, hq⟩ : ∃ q, q = 128 ^ k * (x.toNat % 128) := ⟨_, rfl⟩
      rw [← hq] at hor hm1 hm2
      obtain ⟨r, hr⟩ : ∃ r, r = u + q := ⟨_, rfl⟩
      rw [← hr] at hor hm2
      have hm4 : (u : Int) + (q : Int) = (r : Int) := by omega
      rw [hm4] at hm2
      obtain ⟨p, hp⟩ : ∃ p, p = 128 ^ k := ⟨_, rfl⟩
      obtain ⟨p2, hp2⟩ : ∃ p, p = 128 ^ (k + 1) := ⟨_, rfl⟩
      have Hp2 := Lib.hid hp2
      rw [← hp] at hm1 hm3 ⊢
      rw [← hp2] at hm3
      by_cases hx1 : x.toNat < 128
      · have e := HoR.out.trans (tkV_end htk.out Hx.out (by omega) hx1)
        rw [show x.toNat % 128 = x.toNat by omega] at hq
        rw [← hq, ← hr] at e
        injection e with e1 e2
        injection e2 with e2 e3
        subst e1; subst e2; subst e3
        clear hq hr hu hp hp2
        go_wp2
        go_ret3
        exact ⟨rfl, rfl⟩
      · have hst := tkV_more htk.out Hx.out (by omega) hx1
        rw [show x.toNat % 128 = x.toNat - 128 by omega] at hq
        rw [← hq, ← hr] at hst
        have hr2 : r < 128 ^ (k + 1) := by
          rw [hr, hq, Nat.pow_succ]
          have h1 : 128 ^ k * (x.toNat - 128) ≤ 128 ^ k * 127 := Nat.mul_le_mul_left _ (by omega)
          omega
        have Hst := Lib.hid hst
        have Hr2 := Lib.hid hr2
        clear hq hr hu hst hr2 htk hp hp2
        go_wp2
        go_roundw
        case rel => exact ⟨k + 1, r, by omega, by omega, rfl, by rw [← Hp2.out], by go_num, Hr2.out, by first | rfl | trivial, Hst⟩
        case measure => simp [intOf]; omega
    · obtain rfl : k = n := by omega
      have e := HoR.out.trans (tkV_short htk.out (by rw [Hlb.out]; exact Nat.le_refl _))
      injection e with e1 e2
      injection e2 with e2 e3
      subst e1; subst e2; subst e3
      go_wp2
      go_ret3
      exact ⟨rfl, rfl⟩

set_option maxRecDepth 10000 in
set_option maxHeartbeats 2000000 in
theorem varyInts_any (A : Option Addr) (n c B : Nat) (l : List Int) (w : World) (h : Rd w B 1 A n c (l.map (Value.int .i64))) (hB : B ≤ w.heap.size) (hl : ∀ x ∈ l, -9223372036854775808 ≤ x ∧ x ≤ 9223372036854775807) (hn : n ≤ 100000) :
    Calls Try.prog 74 #[.slice A n c] w (RetB w (l.flatMap fun d => varB (zigV d))) := by
  have hll : l.length = n := by have := h.len; simpa using this
  have hle := h.le
  have Hll := Lib.hid hll
  have Hl := Lib.hid hl
  obtain ⟨oP, hoP⟩ : ∃ p, p = l.flatMap fun d => varB (zigV d) := ⟨_, rfl⟩
  rw [← hoP]
  have HoP := Lib.hid hoP
  clear hll hl hoP
  have hp : Pen (w.alloc (.cells #[.slice none 0 0] 154)) w.heap.size (.slice none 0 0) [] := ⟨heap_alloc_new w _, World.ownsRow_nil _ _ _ _⟩
  have hb : Below w.heap.size w (w.alloc (.cells #[.slice none 0 0] 154)) := (Below.refl _ _).alloc (Nat.le_refl _) _
  go_enter Try.func74, Try.ntmps74
  go_wp2_with fail
  generalize (w.alloc (.cells #[.slice none 0 0] 154)) = w1 at *
  go_loopw [10] (fun i wr => ∃ (k : Nat) (v : Value) (lw : List UInt8), k ≤ n ∧ i = .int .i64 k ∧ Pen wr w.heap.size v lw ∧ Below w.heap.size w wr ∧ lw.length ≤ 10 * k ∧ Hid (lw = (l.take k).flatMap fun d => varB (zigV d))) (fun i _ => n - (intOf i).toNat)
  case atStart => exact ⟨0, _, [], by omega, rfl, hp, hb, by simp, Lib.hid (by simp)⟩
  case round =>
    clear hp hb w1
    obtain ⟨k, v, lw, hk, rfl, hp, hb, hlw, hlB⟩ := hrel
    by_cases hlt : k < n
    · obtain ⟨ad, u, rfl, hu, hcell⟩ := h.one hlt
      obtain ⟨x, hx, rfl⟩ : ∃ x, l[k]? = some x ∧ Value.int .i64 x = u := by simpa using hu
      have had : ad.block < B := by
        obtain ⟨ad', e', hb', _⟩ := h.at_ (by omega)
        injection e' with e'
        rw [e']; exact hb'
      have hcr : wr.cell? (ad.add k) = some (.int .i64 x) := (hb.cell (p := ad.add k) (by rw [blk_add]; omega)).trans hcell
      have hxr := Hl.out x (List.mem_of_getElem? hx)
      have hts : l.take (k + 1) = l.take k ++ [x] := take_succ hx
      have Hts := Lib.hid hts
      clear hu hx hcell hts
      go_wp2_with fail
      go_fit (varyZig_any x wr hxr)
      rintro e w2 ⟨rfl, rfl⟩
      clear hcr
      go_wp2_with fail
      go_fit (penput_any w.heap.size v lw (zigV x) wr hp (zig_lt hxr) (by omega))
      rintro e w2 ⟨rfl, v2, hp2, hb2⟩
      have hb3 := hb.trans hb2
      have hvl := (varN_len 9 (zigV x)).2
      have hvl : (varB (zigV x)).length ≤ 10 := hvl
      clear hp hb hb2
      go_wp2
      go_roundw
      case rel => exact ⟨k + 1, v2, lw ++ varB (zigV x), by omega, by go_num, hp2, hb3, by rw [List.length_append]; omega, Lib.hid (by rw [Hts.out, List.flatMap_append, ← hlB.out]; simp)⟩
      case measure => simp [intOf]; omega
    · obtain rfl : k = n := by omega
      have e : lw = oP := by rw [hlB.out, HoP.out, List.take_of_length_le (by rw [Hll.out]; exact Nat.le_refl _)]
      subst e
      obtain ⟨hbl, hown⟩ := hp
      obtain ⟨A2, c2, rfl⟩ := own_sl hown
      have c0 := blk_cell (i := 0) (v := .slice A2 lw.length c2) hbl rfl
      obtain ⟨m, hm⟩ : ∃ m, m = lw.length := ⟨_, rfl⟩
      rw [← hm] at c0 hown
      have HM := Lib.hid hm
      clear hm hlw
      go_wp2
      go_ret
      exact ⟨A2, c2, m, rfl, own_mono hown (by omega), hb⟩

end Go.Proofs.Ytplgcfjcdjlnbaa
