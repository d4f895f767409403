/-
  Several texts in one: Shape1 Shape2 Shape4.
-/
import Derived.Test.YtmkidihcdljkiaaGreatKPGA
import Derived.Laws.EntriesVeiled
/-
  shape: fits, Any, U, I, in, right walked.
-/
set_option linter.unusedSimpArgs false
set_option linter.unusedVariables false
namespace Go.Proofs.YtmkidihcdljkiaaGreat
open Go.RowKit NumLaw

structure FieldV where
  size : Int
  sg : Bool
  lo : Int
  hi : Int
def fv (f : FieldV) : Value := .agg #[.int .i64 f.size, .bool f.sg, .int .i64 f.lo, .int .i64 f.hi]
def fitsF (n : Int) : Bool := decide (1 ≤ n ∧ n ≤ 8)
def anyF (n : Int) (sg : Bool) : FieldV :=
  if fitsF n = true then ⟨n, sg, if sg then -(128 * 256 ^ (n.toNat - 1)) else 0, if sg then 128 * 256 ^ (n.toNat - 1) - 1 else if n = 8 then 9223372036854775807 else 256 ^ n.toNat - 1⟩ else ⟨0, false, 0, 0⟩
def inF (f : FieldV) (n : Int) : Bool := decide (f.lo ≤ n ∧ n ≤ f.hi)
def rightF (f : FieldV) : Bool := fitsF f.size && decide (f.lo ≤ f.hi) && inF (anyF f.size f.sg) f.lo && inF (anyF f.size f.sg) f.hi
theorem shfits_any (n : Int) (w : World) : Calls Tryz.prog 135 #[.int .i64 n] w fun e w' => e = .returned (.bool (fitsF n)) ∧ w = w' := by
  unfold fitsF
  rcases (by omega : n < 1 ∨ (1 ≤ n ∧ n ≤ 8) ∨ (1 ≤ n ∧ 8 < n)) with h | ⟨h1, h2⟩ | ⟨h1, h2⟩
  all_goals
    go_enter Tryz.func135, Tryz.ntmps135
    go_wp2
    go_ret
    refine ⟨?_, rfl⟩
    simp
    try omega
theorem fits_cases {n : Int} (h : fitsF n = true) : n = 1 ∨ n = 2 ∨ n = 3 ∨ n = 4 ∨ n = 5 ∨ n = 6 ∨ n = 7 ∨ n = 8 := by
  have := of_decide_eq_true h
  omega
set_option maxRecDepth 10000 in
set_option maxHeartbeats 4000000 in
theorem shAny_any (n : Int) (sg : Bool) (w : World) : Calls Tryz.prog 123 #[.int .i64 n, .bool sg] w fun e w' => e = .returned (fv (anyF n sg)) ∧ Below w.heap.size w w' := by
  have hb1 : ∀ o1, Below w.heap.size w (w.alloc o1) := fun o1 => (Below.refl _ _).alloc (Nat.le_refl _) _
  have hb2 : ∀ o1 o2, Below w.heap.size w ((w.alloc o1).alloc o2) := fun o1 o2 => (hb1 o1).alloc (hb1 o1).size _
  have Hb1 := Lib.hid hb1
  have Hb2 := Lib.hid hb2
  clear hb1 hb2
  cases hf : fitsF n with
  | false =>
    have hfit := fun w => shfits_any n w
    rw [hf] at hfit
    rw [show anyF n sg = ⟨0, false, 0, 0⟩ by unfold anyF; rw [hf]; rfl]
    clear hf
    go_enter Tryz.func123, Tryz.ntmps123
    go_wp2_with fail
    go_fit (hfit _)
    rintro e w1 ⟨rfl, rfl⟩
    go_wp2
    refine bodyPost_ret (v := .agg #[.int .i64 0, .bool false, .int .i64 0, .int .i64 0]) (by simp [results, go_sem]) rfl ⟨rfl, ?_⟩
    exact Hb1.out _
  | true =>
    rcases fits_cases hf with rfl | rfl | rfl | rfl | rfl | rfl | rfl | rfl
    all_goals
      clear hf
      cases sg
    all_goals
      go_enter Tryz.func123, Tryz.ntmps123
      go_wp2_with fail
      go_fit (shfits_any _ _)
      rintro e w1 ⟨rfl, rfl⟩
      simp only [show fitsF 1 = true from rfl, show fitsF 2 = true from rfl, show fitsF 3 = true from rfl, show fitsF 4 = true from rfl, show fitsF 5 = true from rfl, show fitsF 6 = true from rfl, show fitsF 7 = true from rfl, show fitsF 8 = true from rfl]
      go_wp2
    all_goals
      refine bodyPost_ret (v := fv (anyF _ _)) (by simp [results, go_sem, fv, anyF, fitsF] <;> first | rfl | decide) rfl ⟨rfl, ?_⟩
      exact Hb2.out _ _

set_option maxRecDepth 10000 in
set_option maxHeartbeats 1000000 in
theorem shin_any (f : FieldV) (n : Int) (w : World) : Calls Tryz.prog 121 #[fv f, .int .i64 n] w fun e w' => e = .returned (.bool (inF f n)) ∧ Below w.heap.size w w' := by
  obtain ⟨size, sg, lo, hi⟩ := f
  have hb : Below w.heap.size w (w.alloc (.cells #[.int .i64 size, .bool sg, .int .i64 lo, .int .i64 hi] 130)) := (Below.refl _ _).alloc (Nat.le_refl _) _
  unfold inF fv
  rcases (by omega : n < lo ∨ (lo ≤ n ∧ n ≤ hi) ∨ (lo ≤ n ∧ hi < n)) with h | ⟨h1, h2⟩ | ⟨h1, h2⟩
  all_goals
    go_enter Tryz.func121, Tryz.ntmps121
    go_wp2
    go_ret
    refine ⟨?_, hb⟩
    simp
    try omega

end Go.Proofs.YtmkidihcdljkiaaGreat

/-
  shape: right, Right, Width, U, I walked.
-/
set_option linter.unusedSimpArgs false
set_option linter.unusedVariables false
namespace Go.Proofs.YtmkidihcdljkiaaGreat
open Go.RowKit NumLaw

set_option maxRecDepth 10000 in
set_option maxHeartbeats 2000000 in
theorem shright_any (f : FieldV) (w : World) : Calls Tryz.prog 131 #[fv f] w fun e w' => e = .returned (.bool (rightF f)) ∧ Below w.heap.size w w' := by
  have hany := fun w => shAny_any f.size f.sg w
  have hfit := fun w => shfits_any f.size w
  have hlo := fun w => shin_any (anyF f.size f.sg) f.lo w
  have hhi := fun w => shin_any (anyF f.size f.sg) f.hi w
  obtain ⟨b1, hb1⟩ : ∃ b1, b1 = fitsF f.size := ⟨_, rfl⟩
  obtain ⟨b3, hb3⟩ : ∃ b3, b3 = inF (anyF f.size f.sg) f.lo := ⟨_, rfl⟩
  obtain ⟨b4, hb4⟩ : ∃ b4, b4 = inF (anyF f.size f.sg) f.hi := ⟨_, rfl⟩
  obtain ⟨b2, hb2⟩ : ∃ b2, b2 = decide (f.lo ≤ f.hi) := ⟨_, rfl⟩
  unfold rightF
  rw [← hb1, ← hb2, ← hb3, ← hb4]
  rw [← hb1] at hfit
  rw [← hb3] at hlo
  rw [← hb4] at hhi
  have HB2 := Lib.hid hb2
  clear hb1 hb2 hb3 hb4
  obtain ⟨a0, a1, a2, a3, ha⟩ : ∃ a0 a1 a2 a3, anyF f.size f.sg = ⟨a0, a1, a2, a3⟩ := ⟨_, _, _, _, rfl⟩
  rw [ha] at hany hlo hhi
  clear ha
  obtain ⟨size, sg, lo, hi⟩ := f
  have hbx : Below w.heap.size w (w.alloc (.cells #[.int .i64 size, .bool sg, .int .i64 lo, .int .i64 hi] 130)) := (Below.refl _ _).alloc (Nat.le_refl _) _
  have hx := heap_alloc_new w (.cells #[.int .i64 size, .bool sg, .int .i64 lo, .int .i64 hi] 130)
  have hxl := blk_lt hx
  unfold fv at *
  simp only at hany hfit hlo hhi
  have Hany := Lib.hid hany
  have Hfit := Lib.hid hfit
  have Hlo := Lib.hid hlo
  have Hhi := Lib.hid hhi
  clear hany hfit hlo hhi
  go_enter Tryz.func131, Tryz.ntmps131
  go_wp2_with fail
  go_fit (Hany.out _)
  rintro e w1 ⟨rfl, hb1⟩
  have hx1 := blk_old hx hb1 hxl
  have hb1' := bnx hbx hb1
  have hy := heap_alloc_new w1 (.cells #[.int .i64 a0, .bool a1, .int .i64 a2, .int .i64 a3] 130)
  have hx2 := (heap_alloc_old w1 (.cells #[.int .i64 a0, .bool a1, .int .i64 a2, .int .i64 a3] 130) (blk_lt hx1)).trans hx1
  have hb2 := hb1'.alloc hb1'.size (.cells #[.int .i64 a0, .bool a1, .int .i64 a2, .int .i64 a3] 130)
  clear hx hxl hb1 hx1 hb1' hbx
  have c0 := blk_cell (i := 0) (v := .int .i64 size) hx2 rfl
  have d0 := blk_cell (i := 0) (v := .int .i64 a0) hy rfl
  have d1 := blk_cell (i := 1) (v := .bool a1) hy rfl
  have d2 := blk_cell (i := 2) (v := .int .i64 a2) hy rfl
  have d3 := blk_cell (i := 3) (v := .int .i64 a3) hy rfl
  have c2 := blk_cell (i := 2) (v := .int .i64 lo) hx2 rfl
  have c3 := blk_cell (i := 3) (v := .int .i64 hi) hx2 rfl
  go_wp2_with fail
  generalize (w1.alloc (.cells #[.int .i64 a0, .bool a1, .int .i64 a2, .int .i64 a3] 130)) = w2 at *
  go_fit (Hfit.out _)
  rintro e w3 ⟨rfl, rfl⟩
  cases b1 with
  | false =>
    go_wp2
    go_ret
    exact ⟨rfl, hb2⟩
  | true =>
    cases b2 with
    | true =>
      have hlh : lo ≤ hi := of_decide_eq_true HB2.out.symm
      go_wp2_with fail
      go_fit (Hlo.out _)
      rintro e w4 ⟨rfl, hb4⟩
      have hy4 := blk_old hy hb4 (blk_lt hy)
      have hx4 := blk_old hx2 hb4 (blk_lt hx2)
      have hb4' := bnx hb2 hb4
      clear d0 d1 d2 d3 c0 c2 c3 hy hx2
      have d0 := blk_cell (i := 0) (v := .int .i64 a0) hy4 rfl
      have d1 := blk_cell (i := 1) (v := .bool a1) hy4 rfl
      have d2 := blk_cell (i := 2) (v := .int .i64 a2) hy4 rfl
      have d3 := blk_cell (i := 3) (v := .int .i64 a3) hy4 rfl
      have c3 := blk_cell (i := 3) (v := .int .i64 hi) hx4 rfl
      cases b3 with
      | false =>
        go_wp2
        go_ret
        exact ⟨rfl, hb4'⟩
      | true =>
        go_wp2_with fail
        go_fit (Hhi.out _)
        rintro e w5 ⟨rfl, hb5⟩
        go_wp2
        go_ret
        exact ⟨by simp, bnx hb4' hb5⟩
    | false =>
      have hlh : ¬ lo ≤ hi := of_decide_eq_false HB2.out.symm
      go_wp2
      go_ret
      exact ⟨rfl, hb2⟩

set_option maxRecDepth 10000 in
set_option maxHeartbeats 1000000 in
theorem shU_any (n hi : Int) (w : World) : Calls Tryz.prog 125 #[.int .i64 n, .int .i64 hi] w fun e w' => e = .returned (fv (if fitsF n = true then ⟨n, false, 0, hi⟩ else ⟨0, false, 0, 0⟩)) ∧ Below w.heap.size w w' := by
  have hb : ∀ o1, Below w.heap.size w (w.alloc o1) := fun o1 => (Below.refl _ _).alloc (Nat.le_refl _) _
  have Hb := Lib.hid hb
  have hfit := fun w => shfits_any n w
  clear hb
  cases hf : fitsF n
  all_goals
    rw [hf] at hfit
    clear hf
    go_enter Tryz.func125, Tryz.ntmps125
    go_wp2_with fail
    go_fit (hfit _)
    rintro e w1 ⟨rfl, rfl⟩
    go_wp2
  · refine bodyPost_ret (v := .agg #[.int .i64 0, .bool false, .int .i64 0, .int .i64 0]) (by simp [results, go_sem]) rfl ⟨rfl, Hb.out _⟩
  · refine bodyPost_ret (v := .agg #[.int .i64 n, .bool false, .int .i64 0, .int .i64 hi]) (by simp [results, go_sem]) rfl ⟨rfl, Hb.out _⟩
set_option maxRecDepth 10000 in
set_option maxHeartbeats 1000000 in
theorem shI_any (n lo hi : Int) (w : World) : Calls Tryz.prog 124 #[.int .i64 n, .int .i64 lo, .int .i64 hi] w fun e w' => e = .returned (fv (if fitsF n = true then ⟨n, true, lo, hi⟩ else ⟨0, false, 0, 0⟩)) ∧ Below w.heap.size w w' := by
  have hb : ∀ o1, Below w.heap.size w (w.alloc o1) := fun o1 => (Below.refl _ _).alloc (Nat.le_refl _) _
  have Hb := Lib.hid hb
  have hfit := fun w => shfits_any n w
  clear hb
  cases hf : fitsF n
  all_goals
    rw [hf] at hfit
    clear hf
    go_enter Tryz.func124, Tryz.ntmps124
    go_wp2_with fail
    go_fit (hfit _)
    rintro e w1 ⟨rfl, rfl⟩
    go_wp2
  · refine bodyPost_ret (v := .agg #[.int .i64 0, .bool false, .int .i64 0, .int .i64 0]) (by simp [results, go_sem]) rfl ⟨rfl, Hb.out _⟩
  · refine bodyPost_ret (v := .agg #[.int .i64 n, .bool true, .int .i64 lo, .int .i64 hi]) (by simp [results, go_sem]) rfl ⟨rfl, Hb.out _⟩

/- rows of fields -/
def FieldAt (w : World) (g off : Nat) (f : FieldV) : Prop :=
  w.cell? ⟨g, off, none⟩ = some (.int .i64 f.size) ∧ w.cell? ⟨g, off + 1, none⟩ = some (.bool f.sg) ∧ w.cell? ⟨g, off + 2, none⟩ = some (.int .i64 f.lo) ∧ w.cell? ⟨g, off + 3, none⟩ = some (.int .i64 f.hi) ∧
    (-9223372036854775808 ≤ f.size ∧ f.size ≤ 9223372036854775807) ∧ (-9223372036854775808 ≤ f.lo ∧ f.lo ≤ 9223372036854775807) ∧ (-9223372036854775808 ≤ f.hi ∧ f.hi ≤ 9223372036854775807)
def RdF (w : World) (B : Nat) (A : Option Addr) (n c : Nat) (l : List FieldV) : Prop :=
  l.length = n ∧ n ≤ c ∧ c ≤ maxLen ∧ (0 < n → ∃ g off, A = some ⟨g, off, none⟩ ∧ g < B ∧ ∀ k f, l[k]? = some f → FieldAt w g (off + k * 4) f)
theorem FieldAt.up {w w' : World} {B g off : Nat} {f : FieldV} (h : FieldAt w g off f) (ha : g < B) (hb : Below B w w') : FieldAt w' g off f := by
  have hc : ∀ j, w'.cell? ⟨g, j, none⟩ = w.cell? ⟨g, j, none⟩ := fun j => hb.cell ha
  obtain ⟨h1, h2, h3, h4, h5⟩ := h
  exact ⟨(hc _).trans h1, (hc _).trans h2, (hc _).trans h3, (hc _).trans h4, h5⟩
theorem RdF.up {w w' : World} {B n c : Nat} {A : Option Addr} {l : List FieldV} (h : RdF w B A n c l) (hb : Below B w w') : RdF w' B A n c l := by
  obtain ⟨h1, h2, h3, h4⟩ := h
  refine ⟨h1, h2, h3, fun hn => ?_⟩
  obtain ⟨g, off, e, hlt, ho⟩ := h4 hn
  exact ⟨g, off, e, hlt, fun k o hk => (ho k o hk).up hlt hb⟩
theorem RdF.at_ {w : World} {B n c : Nat} {A : Option Addr} {l : List FieldV} (h : RdF w B A n c l) {k : Nat} (hk : k < n) : ∃ g off f, A = some ⟨g, off, none⟩ ∧ g < B ∧ l[k]? = some f ∧ FieldAt w g (off + k * 4) f := by
  obtain ⟨h1, h2, h3, h4⟩ := h
  obtain ⟨g, off, e, hlt, ho⟩ := h4 (by omega)
  exact ⟨g, off, l[k], e, hlt, List.getElem?_eq_getElem (by omega), ho k _ (List.getElem?_eq_getElem (by omega))⟩
def rightL (l : List FieldV) : Bool := l.all rightF
def sumL (l : List FieldV) : Nat := (l.map fun f => f.size.toNat).foldl (· + ·) 0
def widthL (l : List FieldV) : Nat := if rightL l = true then sumL l else 0
theorem right_fits {f : FieldV} (h : rightF f = true) : 1 ≤ f.size ∧ f.size ≤ 8 := by
  unfold rightF fitsF at h
  simp only [Bool.and_eq_true, decide_eq_true_eq] at h
  exact h.1.1.1
attribute [local go_sem] Addr.add_mid
set_option maxRecDepth 10000 in
set_option maxHeartbeats 1000000 in
theorem shRight_any (A : Option Addr) (n c B : Nat) (l : List FieldV) (w : World) (h : RdF w B A n c l) (hB : B ≤ w.heap.size) :
    Calls Tryz.prog 120 #[.slice A n c] w fun e w' => e = .returned (.bool (rightL l)) ∧ Below w.heap.size w w' := by
  have hle := h.2.1
  have hm := h.2.2.1
  have Hl := Lib.hid h.1
  unfold maxLen at hm
  go_enter Tryz.func120, Tryz.ntmps120
  go_wp2_with fail
  go_loopw [7] (fun i wr => ∃ (k : Nat), k ≤ n ∧ i = .int .i64 k ∧ Below w.heap.size w wr ∧ Hid (rightL (l.take k) = true)) (fun i _ => n - (intOf i).toNat)
  case atStart => exact ⟨0, by omega, rfl, Below.refl _ _, Lib.hid rfl⟩
  case round =>
    obtain ⟨k, hk, rfl, hb, hall⟩ := hrel
    by_cases hlt : k < n
    · obtain ⟨g, off, f, rfl, hg, hx, h1, h2, h3, h4, _⟩ := (h.up (hb.mono hB)).at_ hlt
      have Hs : Hid (rightL (l.take (k + 1)) = rightF f) := Lib.hid (by have h0 := hall.out; unfold rightL at h0 ⊢; rw [take_succ hx, List.all_append, h0]; simp)
      have Hm : Hid (rightF f = false → rightL l = false) := Lib.hid (fun hb => by
        unfold rightL
        rw [List.all_eq_false]
        exact ⟨f, List.mem_of_getElem? hx, by rw [hb]; simp⟩)
      have hr := fun w => shright_any f w
      unfold fv at hr
      obtain ⟨size, sg, lo, hi⟩ := f
      simp only at h1 h2 h3 h4 hr
      have Hr := Lib.hid hr
      clear hr hx
      have hb2 := hb.alloc hb.size (.cells #[.int .i64 size, .bool sg, .int .i64 lo, .int .i64 hi] 130)
      go_wp2_with fail
      go_fit (Hr.out _)
      rintro e w2 ⟨rfl, hb3⟩
      have hb4 := bnx hb2 hb3
      cases hb : rightF ⟨size, sg, lo, hi⟩ with
      | false =>
        have Hm2 := Lib.hid (Hm.out hb)
        clear Hs Hm hb
        go_wp2
        go_ret
        exact ⟨by rw [Hm2.out]; rfl, hb4⟩
      | true =>
        rw [hb] at Hs
        clear hb Hm
        go_wp2
        go_roundw
        case rel => exact ⟨k + 1, by omega, by go_num, hb4, Hs⟩
        case measure => simp [intOf]; omega
    · obtain rfl : k = n := by omega
      have ht : l.take k = l := List.take_of_length_le (by rw [Hl.out]; omega)
      rw [ht] at hall
      go_wp2
      go_ret
      exact ⟨by rw [hall.out]; rfl, hb⟩

end Go.Proofs.YtmkidihcdljkiaaGreat

/-
  shape: of, plain, Put walked.
-/
set_option linter.unusedSimpArgs false
set_option linter.unusedVariables false
namespace Go.Proofs.YtmkidihcdljkiaaGreat
open Go.RowKit NumLaw
attribute [local go_sem] Addr.add_mid

def ofV (sg : Bool) : Value := if sg = true then .agg #[.func (.func 132) #[] #[], .func (.func 133) #[] #[]] else .agg #[.func (.func 136) #[] #[], .func (.func 137) #[] #[]]
set_option maxRecDepth 10000 in
set_option maxHeartbeats 1000000 in
theorem shplain_any (w : World) : Calls Tryz.prog 134 #[] w fun e w' => e = .returned (ofV false) ∧ Below w.heap.size w w' := by
  have hb : ∀ o1, Below w.heap.size w (w.alloc o1) := fun o1 => (Below.refl _ _).alloc (Nat.le_refl _) _
  have Hb := Lib.hid hb
  clear hb
  go_enter Tryz.func134, Tryz.ntmps134
  go_wp2
  refine bodyPost_ret (v := ofV false) (by simp [results, go_sem, ofV]) rfl ⟨rfl, Hb.out _⟩
set_option maxRecDepth 10000 in
set_option maxHeartbeats 1000000 in
theorem shof_any (f : FieldV) (w : World) : Calls Tryz.prog 122 #[fv f] w fun e w' => e = .returned (ofV f.sg) ∧ Below w.heap.size w w' := by
  obtain ⟨size, sg, lo, hi⟩ := f
  have hb : ∀ o1 o2, Below w.heap.size w ((w.alloc o1).alloc o2) := fun o1 o2 => ((Below.refl _ _).alloc (Nat.le_refl _) _).alloc (by simp) _
  have Hb := Lib.hid hb
  clear hb
  unfold fv
  cases sg with
  | true =>
    go_enter Tryz.func122, Tryz.ntmps122
    go_wp2
    refine bodyPost_ret (v := ofV true) (by simp [results, go_sem, ofV]) rfl ⟨rfl, Hb.out _ _⟩
  | false =>
    go_enter Tryz.func122, Tryz.ntmps122
    go_wp2_with fail
    go_fit (shplain_any _)
    rintro e w1 ⟨rfl, hb1⟩
    rw [show ofV false = .agg #[.func (.func 136) #[] #[], .func (.func 137) #[] #[]] from rfl]
    have hres := blk_old (blk_new2 w (.cells #[.int .i64 size, .bool false, .int .i64 lo, .int .i64 hi] 130) (.cells #[.nilFunc, .nilFunc] 185)) hb1 (by simp)
    have hbw := bnx (Hb.out _ _) hb1
    have c0 := blk_cell (i := 0) (v := .nilFunc) hres rfl
    have f0 := blk_free (i := 0) hres
    have hr1 := blk_set (i := 0) hres (.func (.func 136) #[] #[])
    have c1 := blk_cell (i := 1) (v := .nilFunc) hr1 rfl
    have f1 := blk_free (i := 1) hr1
    have hr2 := blk_set (i := 1) hr1 (.func (.func 137) #[] #[])
    have e0 := blk_cell (i := 0) (v := .func (.func 136) #[] #[]) hr2 rfl
    have e1 := blk_cell (i := 1) (v := .func (.func 137) #[] #[]) hr2 rfl
    go_wp2
    refine bodyPost_ret (v := .agg #[.func (.func 136) #[] #[], .func (.func 137) #[] #[]]) (by simp [results, go_sem, e0, e1]) rfl ⟨rfl, ?_⟩
    exact (hbw.setCell (p := ⟨w.heap.size + 1, 0, none⟩) (by show w.heap.size ≤ w.heap.size + 1; omega) _).setCell (p := ⟨w.heap.size + 1, 1, none⟩) (by show w.heap.size ≤ w.heap.size + 1; omega) _
theorem shplain1_any (g : Nat) (v : Value) (l : List UInt8) (bad : Bool) (n x : Int) (w : World) (h : Wtr w g v l bad) (hl : l.length ≤ 1000000) :
    Calls Tryz.prog 136 #[.pointer (some ⟨g, 0, none⟩), .int .i64 n, .int .i64 x] w (RetW w g v (wtB bad (fU n (un x)) l (bytesN n.toNat (un x))) (bad || !fU n (un x))) := by
  have hc := wU_any g v l bad n (un x) w h (un_lt x) hl
  have e := un_wrap x
  obtain ⟨u, hu⟩ : ∃ u, u = un x := ⟨_, rfl⟩
  rw [← hu] at hc e ⊢
  clear hu
  go_enter Tryz.func136, Tryz.ntmps136
  go_wp2_with fail
  go_fit hc
  rintro x w' hret
  obtain rfl := hret.1
  go_wp2
  ((try simp only [Exit.inBlock, Exit.then]); refine bodyPost_end (results_none rfl _ _ _) rfl ?_)
  exact hret
/-- A number of 64 bits, as one with a sign. -/
def sg64 (u : Nat) : Int := if u < 9223372036854775808 then u else (u : Int) - 18446744073709551616
end Go.Proofs.YtmkidihcdljkiaaGreat
