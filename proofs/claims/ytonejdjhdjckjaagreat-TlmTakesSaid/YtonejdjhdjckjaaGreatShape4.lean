/-
  shape: of, plain, Put walked.
-/
import Derived.Test.YtonejdjhdjckjaaGreatShape3
import Derived.Laws.EntriesVeiled
set_option linter.unusedSimpArgs false
set_option linter.unusedVariables false
namespace Go.Proofs.YtonejdjhdjckjaaGreat
open Go.RowKit NumLaw
attribute [local go_sem] Addr.add_mid

def ofV (sg : Bool) : Value := if sg = true then .agg #[.func (.func 90) #[] #[], .func (.func 91) #[] #[]] else .agg #[.func (.func 105) #[] #[], .func (.func 107) #[] #[]]
set_option maxRecDepth 10000 in
set_option maxHeartbeats 1000000 in
theorem shplain_any (w : World) : Calls Tryz.prog 92 #[] w fun e w' => e = .returned (ofV false) ∧ Below w.heap.size w w' := by
  have hb : ∀ o1, Below w.heap.size w (w.alloc o1) := fun o1 => (Below.refl _ _).alloc (Nat.le_refl _) _
  have Hb := Lib.hid hb
  clear hb
  go_enter Tryz.func92, Tryz.ntmps92
  go_wp2
  refine bodyPost_ret (v := ofV false) (by simp [results, go_sem, ofV]) rfl ⟨rfl, Hb.out _⟩
set_option maxRecDepth 10000 in
set_option maxHeartbeats 1000000 in
theorem shof_any (f : FieldV) (w : World) : Calls Tryz.prog 59 #[fv f] w fun e w' => e = .returned (ofV f.sg) ∧ Below w.heap.size w w' := by
  obtain ⟨size, sg, lo, hi⟩ := f
  have hb : ∀ o1 o2, Below w.heap.size w ((w.alloc o1).alloc o2) := fun o1 o2 => ((Below.refl _ _).alloc (Nat.le_refl _) _).alloc (by simp) _
  have Hb := Lib.hid hb
  clear hb
  unfold fv
  cases sg with
  | true =>
    go_enter Tryz.func59, Tryz.ntmps59
    go_wp2
    refine bodyPost_ret (v := ofV true) (by simp [results, go_sem, ofV]) rfl ⟨rfl, Hb.out _ _⟩
  | false =>
    go_enter Tryz.func59, Tryz.ntmps59
    go_wp2_with fail
    go_fit (shplain_any _)
    rintro e w1 ⟨rfl, hb1⟩
    rw [show ofV false = .agg #[.func (.func 105) #[] #[], .func (.func 107) #[] #[]] from rfl]
    have hres := blk_old (blk_new2 w (.cells #[.int .i64 size, .bool false, .int .i64 lo, .int .i64 hi] 85) (.cells #[.nilFunc, .nilFunc] 94)) hb1 (by simp)
    have hbw := bnx (Hb.out _ _) hb1
    have c0 := blk_cell (i := 0) (v := .nilFunc) hres rfl
    have f0 := blk_free (i := 0) hres
    have hr1 := blk_set (i := 0) hres (.func (.func 105) #[] #[])
    have c1 := blk_cell (i := 1) (v := .nilFunc) hr1 rfl
    have f1 := blk_free (i := 1) hr1
    have hr2 := blk_set (i := 1) hr1 (.func (.func 107) #[] #[])
    have e0 := blk_cell (i := 0) (v := .func (.func 105) #[] #[]) hr2 rfl
    have e1 := blk_cell (i := 1) (v := .func (.func 107) #[] #[]) hr2 rfl
    go_wp2
    refine bodyPost_ret (v := .agg #[.func (.func 105) #[] #[], .func (.func 107) #[] #[]]) (by simp [results, go_sem, e0, e1]) rfl ⟨rfl, ?_⟩
    exact (hbw.setCell (p := ⟨w.heap.size + 1, 0, none⟩) (by show w.heap.size ≤ w.heap.size + 1; omega) _).setCell (p := ⟨w.heap.size + 1, 1, none⟩) (by show w.heap.size ≤ w.heap.size + 1; omega) _
theorem shplain1_any (g : Nat) (v : Value) (l : List UInt8) (bad : Bool) (n x : Int) (w : World) (h : Wtr w g v l bad) (hl : l.length ≤ 1000000) :
    Calls Tryz.prog 105 #[.pointer (some ⟨g, 0, none⟩), .int .i64 n, .int .i64 x] w (RetW w g v (wtB bad (fU n (un x)) l (bytesN n.toNat (un x))) (bad || !fU n (un x))) := by
  have hc := wU_any g v l bad n (un x) w h (un_lt x) hl
  have e := un_wrap x
  obtain ⟨u, hu⟩ : ∃ u, u = un x := ⟨_, rfl⟩
  rw [← hu] at hc e ⊢
  clear hu
  go_enter Tryz.func105, Tryz.ntmps105
  go_wp2_with fail
  go_fit hc
  rintro x w' hret
  obtain rfl := hret.1
  go_wp2
  ((try simp only [Exit.inBlock, Exit.then]); refine bodyPost_end (results_none rfl _ _ _) rfl ?_)
  exact hret
/-- A number of 64 bits, as one with a sign. -/
def sg64 (u : Nat) : Int := if u < 9223372036854775808 then u else (u : Int) - 18446744073709551616
theorem sg64_wrap (u : Nat) (h : u < 18446744073709551616) : IntKind.i64.wrap (u : Int) = sg64 u := by
  rw [IntKind.wrap_i64]
  unfold sg64
  split <;> omega
theorem shplain2_any (lo g : Nat) (l : List UInt8) (bad : Bool) (n : Int) (w : World) (h : Rdr lo w g l bad) :
    Calls Tryz.prog 107 #[.pointer (some ⟨g, 0, none⟩), .int .i64 n] w (RetU lo w g (.int .i64 (sg64 (num (rdB (nU n) l bad)))) (rdL (nU n) l bad) (rdF (nU n) l bad)) := by
  have hc := rU_any lo g l bad n w h
  have e := sg64_wrap _ (rdB_lt (nU n) l bad (by unfold nU; split <;> omega))
  generalize num (rdB (nU n) l bad) = u at *
  generalize sg64 u = s at *
  go_enter Tryz.func107, Tryz.ntmps107
  go_wp2_with fail
  go_fit hc
  rintro x w1 ⟨rfl, hr, hg⟩
  go_wp2
  go_ret
  exact ⟨rfl, hr, hg⟩

end Go.Proofs.YtonejdjhdjckjaaGreat
