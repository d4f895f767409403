/-
  The document's shapes: number, Take walked.
-/
import Derived.Test.YtkelepnipndbbaaShRef3
set_option linter.unusedSimpArgs false
set_option linter.unusedVariables false
namespace Go.Proofs.Ytkelepnipndbbaa
open Go.RowKit NumLaw
attribute [local go_sem] Addr.add_mid

def numV (f : FieldV) (b : List UInt8) : Int := if f.sg = true then sgn f.size.toNat (num b) else ((num b % 9223372036854775808 : Nat) : Int)
def numK (f : FieldV) (b : List UInt8) : Bool := f.sg || decide (num b < 9223372036854775808)
/-- A number that is told, and within its field, is the field's; and the other way round. -/
theorem num_in {f : FieldV} {b : List UInt8} (hr : rightF f = true) (hb : b.length = f.size.toNat) : (numK f b = true → numV f b = fieldV f b) ∧ (numK f b = false → inF f (fieldV f b) = false) := by
  have hs := right_fits hr
  have hm := num_lt b
  rw [hb] at hm
  have hm8 := Nat.lt_of_lt_of_le hm (pow_le8 (show f.size.toNat ≤ 8 by omega))
  unfold numK numV fieldV
  cases hg : f.sg with
  | true => simp
  | false =>
    simp only [Bool.false_or, decide_eq_true_eq, Bool.false_eq_true, if_false, decide_eq_false_iff_not]
    refine ⟨fun h => ?_, fun h => ?_⟩
    · unfold sg64; rw [if_pos h, Nat.mod_eq_of_lt h]
    · unfold inF sg64
      rw [if_neg h]
      refine decide_eq_false ?_
      have hlo : 0 ≤ f.lo := by
        obtain ⟨size, sg, lo, hi⟩ := f
        unfold rightF at hr
        simp only [Bool.and_eq_true, decide_eq_true_eq] at hr hg
        subst hg
        have h3 := of_decide_eq_true hr.1.2
        unfold anyF at h3
        rw [if_pos hr.1.1.1] at h3
        simp at h3
        exact h3.1
      omega
set_option maxRecDepth 10000 in
set_option maxHeartbeats 1000000 in
theorem qnumber_any (f : FieldV) (A : Option Addr) (n c B : Nat) (b : List UInt8) (w : World) (h : Rd w B 1 A n c (bv b)) (hB : B ≤ w.heap.size) (hs1 : 1 ≤ f.size) (hs8 : f.size ≤ 8) (hn : n = f.size.toNat) :
    Calls Try.prog 146 #[fv f, .slice A n c] w fun e w' => e = .returned (.tuple #[.int .i64 (numV f b), .bool (numK f b)]) ∧ Below w.heap.size w w' := by
  have hlb := h.blen
  obtain ⟨size, sg, lo, hi⟩ := f
  simp only at hs1 hs8 hn
  obtain ⟨sz, rfl⟩ : ∃ sz : Nat, size = sz := ⟨size.toNat, by omega⟩
  rw [Int.toNat_natCast] at hn
  subst hn
  have hm := num_lt b
  rw [hlb] at hm
  have hm8 := Nat.lt_of_lt_of_le hm (pow_le8 (show n ≤ 8 by omega))
  have hbx : Below w.heap.size w (w.alloc (.cells #[.int .i64 n, .bool sg, .int .i64 lo, .int .i64 hi] 80)) := (Below.refl _ _).alloc (Nat.le_refl _) _
  have hx := heap_alloc_new w (.cells #[.int .i64 n, .bool sg, .int .i64 lo, .int .i64 hi] 80)
  have hnum := number_any A n c B b _ (h.up (hbx.mono hB)) (by omega)
  have hsig := fun w => signed_any n (num b) w (by omega) (by omega) hm
  have c0 := blk_cell (i := 0) (v := .int .i64 n) hx rfl
  have c1 := blk_cell (i := 1) (v := .bool sg) hx rfl
  unfold fv numV numK
  simp only [Int.toNat_natCast]
  obtain ⟨u, hu⟩ : ∃ u, u = num b := ⟨_, rfl⟩
  rw [← hu] at hnum hsig hm8 ⊢
  clear hu hm hx
  cases sg with
  | true =>
    obtain ⟨sv, hsv⟩ : ∃ sv, sv = sgn n u := ⟨_, rfl⟩
    simp only [if_true, Bool.true_or]
    rw [← hsv] at hsig ⊢
    clear hsv
    have Hsig := Lib.hid hsig
    clear hsig
    go_enter Try.func146, Try.ntmps146
    go_wp2_with fail
    go_fit hnum
    rintro e w1 ⟨rfl, rfl⟩
    go_wp2_with fail
    go_fit (Hsig.out _)
    rintro e w2 ⟨rfl, rfl⟩
    go_wp2
    go_ret2
    exact ⟨rfl, hbx⟩
  | false =>
    simp only [Bool.false_eq_true, if_false, Bool.false_or]
    obtain ⟨r, hr⟩ : ∃ r, r = u % 9223372036854775808 := ⟨_, rfl⟩
    have e1 : (u : Int) % 9223372036854775808 = (r : Int) := by omega
    have e2 : IntKind.i64.wrap (r : Int) = (r : Int) := by rw [IntKind.wrap_i64]; omega
    rw [← hr]
    clear hr hsig
    go_enter Try.func146, Try.ntmps146
    go_wp2_with fail
    go_fit hnum
    rintro e w1 ⟨rfl, rfl⟩
    go_wp2
    go_ret2
    refine ⟨?_, hbx⟩
    simp
    try omega

end Go.Proofs.Ytkelepnipndbbaa
