/-
  shape: right, Right, Width, U, I walked.
-/
import Derived.Test.YtonejdjhdjckjaaGreatShape1
import Derived.Test.YtonejdjhdjckjaaGreatOctRef
set_option linter.unusedSimpArgs false
set_option linter.unusedVariables false
namespace Go.Proofs.YtonejdjhdjckjaaGreat
open Go.RowKit NumLaw

set_option maxRecDepth 10000 in
set_option maxHeartbeats 2000000 in
theorem shright_any (f : FieldV) (w : World) : Calls Tryz.prog 88 #[fv f] w fun e w' => e = .returned (.bool (rightF f)) ∧ Below w.heap.size w w' := by
  have hany := fun w => shAny_any f.size f.sg w
  have hfit := fun w => shfits_any f.size w
  have hlo := fun w => shin_any (anyF f.size f.sg) f.lo w
  have hhi := fun w => shin_any (anyF f.size f.sg) f.hi w
  obtain ⟨b1, hb1⟩ : ∃ b1, b1 = fitsF f.size := ⟨_, rfl⟩
  obtain ⟨b3, hb3⟩ : ∃ b3, b3 = inF (anyF f.size f.sg) f.lo := ⟨_, rfl⟩
  obtain ⟨b4, hb4⟩ : ∃ b4, b4 = inF (anyF f.size f.sg) f.hi := ⟨_, rfl⟩
  obtain ⟨b2, hb2⟩ : ∃ b2, b2 = decide (f.lo ≤ f.hi) := ⟨_, rfl⟩
  unfold rightF
  rw [← hb1, ← hb2, ← hb3, ← hb4]
  rw [← hb1] at hfit
  rw [← hb3] at hlo
  rw [← hb4] at hhi
  have HB2 := Lib.hid hb2
  clear hb1 hb2 hb3 hb4
  obtain ⟨a0, a1, a2, a3, ha⟩ : ∃ a0 a1 a2 a3, anyF f.size f.sg = ⟨a0, a1, a2, a3⟩ := ⟨_, _, _, _, rfl⟩
  rw [ha] at hany hlo hhi
  clear ha
  obtain ⟨size, sg, lo, hi⟩ := f
  have hbx : Below w.heap.size w (w.alloc (.cells #[.int .i64 size, .bool sg, .int .i64 lo, .int .i64 hi] 85)) := (Below.refl _ _).alloc (Nat.le_refl _) _
  have hx := heap_alloc_new w (.cells #[.int .i64 size, .bool sg, .int .i64 lo, .int .i64 hi] 85)
  have hxl := blk_lt hx
  unfold fv at *
  simp only at hany hfit hlo hhi
  have Hany := Lib.hid hany
  have Hfit := Lib.hid hfit
  have Hlo := Lib.hid hlo
  have Hhi := Lib.hid hhi
  clear hany hfit hlo hhi
  go_enter Tryz.func88, Tryz.ntmps88
  go_wp2_with fail
  go_fit (Hany.out _)
  rintro e w1 ⟨rfl, hb1⟩
  have hx1 := blk_old hx hb1 hxl
  have hb1' := bnx hbx hb1
  have hy := heap_alloc_new w1 (.cells #[.int .i64 a0, .bool a1, .int .i64 a2, .int .i64 a3] 85)
  have hx2 := (heap_alloc_old w1 (.cells #[.int .i64 a0, .bool a1, .int .i64 a2, .int .i64 a3] 85) (blk_lt hx1)).trans hx1
  have hb2 := hb1'.alloc hb1'.size (.cells #[.int .i64 a0, .bool a1, .int .i64 a2, .int .i64 a3] 85)
  clear hx hxl hb1 hx1 hb1' hbx
  have c0 := blk_cell (i := 0) (v := .int .i64 size) hx2 rfl
  have d0 := blk_cell (i := 0) (v := .int .i64 a0) hy rfl
  have d1 := blk_cell (i := 1) (v := .bool a1) hy rfl
  have d2 := blk_cell (i := 2) (v := .int .i64 a2) hy rfl
  have d3 := blk_cell (i := 3) (v := .int .i64 a3) hy rfl
  have c2 := blk_cell (i := 2) (v := .int .i64 lo) hx2 rfl
  have c3 := blk_cell (i := 3) (v := .int .i64 hi) hx2 rfl
  go_wp2_with fail
  generalize (w1.alloc (.cells #[.int .i64 a0, .bool a1, .int .i64 a2, .int .i64 a3] 85)) = w2 at *
  go_fit (Hfit.out _)
  rintro e w3 ⟨rfl, rfl⟩
  cases b1 with
  | false =>
    go_wp2
    go_ret
    exact ⟨rfl, hb2⟩
  | true =>
    cases b2 with
    | true =>
      have hlh : lo ≤ hi := of_decide_eq_true HB2.out.symm
      go_wp2_with fail
      go_fit (Hlo.out _)
      rintro e w4 ⟨rfl, hb4⟩
      have hy4 := blk_old hy hb4 (blk_lt hy)
      have hx4 := blk_old hx2 hb4 (blk_lt hx2)
      have hb4' := bnx hb2 hb4
      clear d0 d1 d2 d3 c0 c2 c3 hy hx2
      have d0 := blk_cell (i := 0) (v := .int .i64 a0) hy4 rfl
      have d1 := blk_cell (i := 1) (v := .bool a1) hy4 rfl
      have d2 := blk_cell (i := 2) (v := .int .i64 a2) hy4 rfl
      have d3 := blk_cell (i := 3) (v := .int .i64 a3) hy4 rfl
      have c3 := blk_cell (i := 3) (v := .int .i64 hi) hx4 rfl
      cases b3 with
      | false =>
        go_wp2
        go_ret
        exact ⟨rfl, hb4'⟩
      | true =>
        go_wp2_with fail
        go_fit (Hhi.out _)
        rintro e w5 ⟨rfl, hb5⟩
        go_wp2
        go_ret
        exact ⟨by simp, bnx hb4' hb5⟩
    | false =>
      have hlh : ¬ lo ≤ hi := of_decide_eq_false HB2.out.symm
      go_wp2
      go_ret
      exact ⟨rfl, hb2⟩

/- rows of fields -/
def FieldAt (w : World) (g off : Nat) (f : FieldV) : Prop :=
  w.cell? ⟨g, off, none⟩ = some (.int .i64 f.size) ∧ w.cell? ⟨g, off + 1, none⟩ = some (.bool f.sg) ∧ w.cell? ⟨g, off + 2, none⟩ = some (.int .i64 f.lo) ∧ w.cell? ⟨g, off + 3, none⟩ = some (.int .i64 f.hi) ∧
    (-9223372036854775808 ≤ f.size ∧ f.size ≤ 9223372036854775807) ∧ (-9223372036854775808 ≤ f.lo ∧ f.lo ≤ 9223372036854775807) ∧ (-9223372036854775808 ≤ f.hi ∧ f.hi ≤ 9223372036854775807)
def RdF (w : World) (B : Nat) (A : Option Addr) (n c : Nat) (l : List FieldV) : Prop :=
  l.length = n ∧ n ≤ c ∧ c ≤ maxLen ∧ (0 < n → ∃ g off, A = some ⟨g, off, none⟩ ∧ g < B ∧ ∀ k f, l[k]? = some f → FieldAt w g (off + k * 4) f)
theorem FieldAt.up {w w' : World} {B g off : Nat} {f : FieldV} (h : FieldAt w g off f) (ha : g < B) (hb : Below B w w') : FieldAt w' g off f := by
  have hc : ∀ j, w'.cell? ⟨g, j, none⟩ = w.cell? ⟨g, j, none⟩ := fun j => hb.cell ha
  obtain ⟨h1, h2, h3, h4, h5⟩ := h
  exact ⟨(hc _).trans h1, (hc _).trans h2, (hc _).trans h3, (hc _).trans h4, h5⟩
theorem RdF.up {w w' : World} {B n c : Nat} {A : Option Addr} {l : List FieldV} (h : RdF w B A n c l) (hb : Below B w w') : RdF w' B A n c l := by
  obtain ⟨h1, h2, h3, h4⟩ := h
  refine ⟨h1, h2, h3, fun hn => ?_⟩
  obtain ⟨g, off, e, hlt, ho⟩ := h4 hn
  exact ⟨g, off, e, hlt, fun k o hk => (ho k o hk).up hlt hb⟩
theorem RdF.at_ {w : World} {B n c : Nat} {A : Option Addr} {l : List FieldV} (h : RdF w B A n c l) {k : Nat} (hk : k < n) : ∃ g off f, A = some ⟨g, off, none⟩ ∧ g < B ∧ l[k]? = some f ∧ FieldAt w g (off + k * 4) f := by
  obtain ⟨h1, h2, h3, h4⟩ := h
  obtain ⟨g, off, e, hlt, ho⟩ := h4 (by omega)
  exact ⟨g, off, l[k], e, hlt, List.getElem?_eq_getElem (by omega), ho k _ (List.getElem?_eq_getElem (by omega))⟩
def rightL (l : List FieldV) : Bool := l.all rightF
def sumL (l : List FieldV) : Nat := (l.map fun f => f.size.toNat).foldl (· + ·) 0
def widthL (l : List FieldV) : Nat := if rightL l = true then sumL l else 0
theorem sumL_snoc (l : List FieldV) (f : FieldV) : sumL (l ++ [f]) = sumL l + f.size.toNat := by simp [sumL]
theorem right_fits {f : FieldV} (h : rightF f = true) : 1 ≤ f.size ∧ f.size ≤ 8 := by
  unfold rightF fitsF at h
  simp only [Bool.and_eq_true, decide_eq_true_eq] at h
  exact h.1.1.1
theorem sumL_take {l : List FieldV} (h : rightL l = true) (k : Nat) : sumL (l.take k) ≤ 8 * k := by
  induction k with
  | zero => simp [sumL]
  | succ k ih =>
    rcases Nat.lt_or_ge k l.length with hk | hk
    · rw [take_succ (List.getElem?_eq_getElem hk), sumL_snoc]
      have := right_fits (List.all_eq_true.1 h _ (List.getElem_mem hk))
      omega
    · rw [List.take_of_length_le (by omega)] at ih ⊢
      omega
attribute [local go_sem] Addr.add_mid
set_option maxRecDepth 10000 in
set_option maxHeartbeats 1000000 in
theorem shRight_any (A : Option Addr) (n c B : Nat) (l : List FieldV) (w : World) (h : RdF w B A n c l) (hB : B ≤ w.heap.size) :
    Calls Tryz.prog 57 #[.slice A n c] w fun e w' => e = .returned (.bool (rightL l)) ∧ Below w.heap.size w w' := by
  have hle := h.2.1
  have hm := h.2.2.1
  have Hl := Lib.hid h.1
  unfold maxLen at hm
  go_enter Tryz.func57, Tryz.ntmps57
  go_wp2_with fail
  go_loopw [7] (fun i wr => ∃ (k : Nat), k ≤ n ∧ i = .int .i64 k ∧ Below w.heap.size w wr ∧ Hid (rightL (l.take k) = true)) (fun i _ => n - (intOf i).toNat)
  case atStart => exact ⟨0, by omega, rfl, Below.refl _ _, Lib.hid rfl⟩
  case round =>
    obtain ⟨k, hk, rfl, hb, hall⟩ := hrel
    by_cases hlt : k < n
    · obtain ⟨g, off, f, rfl, hg, hx, h1, h2, h3, h4, _⟩ := (h.up (hb.mono hB)).at_ hlt
      have Hs : Hid (rightL (l.take (k + 1)) = rightF f) := Lib.hid (by have h0 := hall.out; unfold rightL at h0 ⊢; rw [take_succ hx, List.all_append, h0]; simp)
      have Hm : Hid (rightF f = false → rightL l = false) := Lib.hid (fun hb => by
        unfold rightL
        rw [List.all_eq_false]
        exact ⟨f, List.mem_of_getElem? hx, by rw [hb]; simp⟩)
      have hr := fun w => shright_any f w
      unfold fv at hr
      obtain ⟨size, sg, lo, hi⟩ := f
      simp only at h1 h2 h3 h4 hr
      have Hr := Lib.hid hr
      clear hr hx
      have hb2 := hb.alloc hb.size (.cells #[.int .i64 size, .bool sg, .int .i64 lo, .int .i64 hi] 85)
      go_wp2_with fail
      go_fit (Hr.out _)
      rintro e w2 ⟨rfl, hb3⟩
      have hb4 := bnx hb2 hb3
      cases hb : rightF ⟨size, sg, lo, hi⟩ with
      | false =>
        have Hm2 := Lib.hid (Hm.out hb)
        clear Hs Hm hb
        go_wp2
        go_ret
        exact ⟨by rw [Hm2.out]; rfl, hb4⟩
      | true =>
        rw [hb] at Hs
        clear hb Hm
        go_wp2
        go_roundw
        case rel => exact ⟨k + 1, by omega, by go_num, hb4, Hs⟩
        case measure => simp [intOf]; omega
    · obtain rfl : k = n := by omega
      have ht : l.take k = l := List.take_of_length_le (by rw [Hl.out]; omega)
      rw [ht] at hall
      go_wp2
      go_ret
      exact ⟨by rw [hall.out]; rfl, hb⟩

end Go.Proofs.YtonejdjhdjckjaaGreat
