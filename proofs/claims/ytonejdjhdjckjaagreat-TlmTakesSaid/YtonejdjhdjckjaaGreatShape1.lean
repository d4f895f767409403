/-
  shape: fits, Any, U, I, in, right walked.
-/
import Derived.Test.YtonejdjhdjckjaaGreatOctWr2
import Derived.Test.YtonejdjhdjckjaaGreatOpen
set_option linter.unusedSimpArgs false
set_option linter.unusedVariables false
namespace Go.Proofs.YtonejdjhdjckjaaGreat
open Go.RowKit NumLaw

structure FieldV where
  size : Int
  sg : Bool
  lo : Int
  hi : Int
def fv (f : FieldV) : Value := .agg #[.int .i64 f.size, .bool f.sg, .int .i64 f.lo, .int .i64 f.hi]
def fitsF (n : Int) : Bool := decide (1 ≤ n ∧ n ≤ 8)
def anyF (n : Int) (sg : Bool) : FieldV :=
  if fitsF n = true then ⟨n, sg, if sg then -(128 * 256 ^ (n.toNat - 1)) else 0, if sg then 128 * 256 ^ (n.toNat - 1) - 1 else if n = 8 then 9223372036854775807 else 256 ^ n.toNat - 1⟩ else ⟨0, false, 0, 0⟩
def inF (f : FieldV) (n : Int) : Bool := decide (f.lo ≤ n ∧ n ≤ f.hi)
def rightF (f : FieldV) : Bool := fitsF f.size && decide (f.lo ≤ f.hi) && inF (anyF f.size f.sg) f.lo && inF (anyF f.size f.sg) f.hi
theorem shfits_any (n : Int) (w : World) : Calls Tryz.prog 87 #[.int .i64 n] w fun e w' => e = .returned (.bool (fitsF n)) ∧ w = w' := by
  unfold fitsF
  rcases (by omega : n < 1 ∨ (1 ≤ n ∧ n ≤ 8) ∨ (1 ≤ n ∧ 8 < n)) with h | ⟨h1, h2⟩ | ⟨h1, h2⟩
  all_goals
    go_enter Tryz.func87, Tryz.ntmps87
    go_wp2
    go_ret
    refine ⟨?_, rfl⟩
    simp
    try omega
theorem fits_cases {n : Int} (h : fitsF n = true) : n = 1 ∨ n = 2 ∨ n = 3 ∨ n = 4 ∨ n = 5 ∨ n = 6 ∨ n = 7 ∨ n = 8 := by
  have := of_decide_eq_true h
  omega
set_option maxRecDepth 10000 in
set_option maxHeartbeats 4000000 in
theorem shAny_any (n : Int) (sg : Bool) (w : World) : Calls Tryz.prog 55 #[.int .i64 n, .bool sg] w fun e w' => e = .returned (fv (anyF n sg)) ∧ Below w.heap.size w w' := by
  have hb1 : ∀ o1, Below w.heap.size w (w.alloc o1) := fun o1 => (Below.refl _ _).alloc (Nat.le_refl _) _
  have hb2 : ∀ o1 o2, Below w.heap.size w ((w.alloc o1).alloc o2) := fun o1 o2 => (hb1 o1).alloc (hb1 o1).size _
  have Hb1 := Lib.hid hb1
  have Hb2 := Lib.hid hb2
  clear hb1 hb2
  cases hf : fitsF n with
  | false =>
    have hfit := fun w => shfits_any n w
    rw [hf] at hfit
    rw [show anyF n sg = ⟨0, false, 0, 0⟩ by unfold anyF; rw [hf]; rfl]
    clear hf
    go_enter Tryz.func55, Tryz.ntmps55
    go_wp2_with fail
    go_fit (hfit _)
    rintro e w1 ⟨rfl, rfl⟩
    go_wp2
    refine bodyPost_ret (v := .agg #[.int .i64 0, .bool false, .int .i64 0, .int .i64 0]) (by simp [results, go_sem]) rfl ⟨rfl, ?_⟩
    exact Hb1.out _
  | true =>
    rcases fits_cases hf with rfl | rfl | rfl | rfl | rfl | rfl | rfl | rfl
    all_goals
      clear hf
      cases sg
    all_goals
      go_enter Tryz.func55, Tryz.ntmps55
      go_wp2_with fail
      go_fit (shfits_any _ _)
      rintro e w1 ⟨rfl, rfl⟩
      simp only [show fitsF 1 = true from rfl, show fitsF 2 = true from rfl, show fitsF 3 = true from rfl, show fitsF 4 = true from rfl, show fitsF 5 = true from rfl, show fitsF 6 = true from rfl, show fitsF 7 = true from rfl, show fitsF 8 = true from rfl]
      go_wp2
    all_goals
      refine bodyPost_ret (v := fv (anyF _ _)) (by simp [results, go_sem, fv, anyF, fitsF] <;> first | rfl | decide) rfl ⟨rfl, ?_⟩
      exact Hb2.out _ _

set_option maxRecDepth 10000 in
set_option maxHeartbeats 1000000 in
theorem shin_any (f : FieldV) (n : Int) (w : World) : Calls Tryz.prog 60 #[fv f, .int .i64 n] w fun e w' => e = .returned (.bool (inF f n)) ∧ Below w.heap.size w w' := by
  obtain ⟨size, sg, lo, hi⟩ := f
  have hb : Below w.heap.size w (w.alloc (.cells #[.int .i64 size, .bool sg, .int .i64 lo, .int .i64 hi] 85)) := (Below.refl _ _).alloc (Nat.le_refl _) _
  unfold inF fv
  rcases (by omega : n < lo ∨ (lo ≤ n ∧ n ≤ hi) ∨ (lo ≤ n ∧ hi < n)) with h | ⟨h1, h2⟩ | ⟨h1, h2⟩
  all_goals
    go_enter Tryz.func60, Tryz.ntmps60
    go_wp2
    go_ret
    refine ⟨?_, hb⟩
    simp
    try omega

end Go.Proofs.YtonejdjhdjckjaaGreat
