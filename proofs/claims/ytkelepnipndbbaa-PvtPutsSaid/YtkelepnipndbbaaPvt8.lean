/-
  pvt.Of walked.
-/
import Derived.Test.YtkelepnipndbbaaPvt7
set_option linter.unusedSimpArgs false
set_option linter.unusedVariables false
namespace Go.Proofs.Ytkelepnipndbbaa
open Go.RowKit NumLaw
attribute [local go_sem] Addr.add_mid

theorem list_ext33 {a b : List Int} {n : Nat} (ha : a.length = n) (hb : b.length = n) (h : ∀ j, j < n → a[j]? = b[j]?) : a = b := by
  apply List.ext_getElem?
  intro j
  rcases Nat.lt_or_ge j n with hj | hj
  · exact h j hj
  · rw [List.getElem?_eq_none (by omega), List.getElem?_eq_none (by omega)]
theorem cur_msg {vs : List Int} (h : vs.length = 33) {k : Nat} (hk : k ≤ 33) {j : Nat} (hj : j < 32) : (msgOf (cur33 vs k))[j]? = if j < 29 then (if j < k then vs[j]? else some 0) else (if j + 1 < k then vs[j + 1]? else some 0) := by
  rw [msgOf_at (cur33_len h hk)]
  split
  · rw [cur33_at h hk j (by omega)]
  · rw [cur33_at h hk (j + 1) (by omega)]
theorem cur_none {vs : List Int} (h : vs.length = 33) {k : Nat} (hk : k ≤ 33) : (cur33 vs k).getD 29 0 = if 29 < k then vs.getD 29 0 else 0 := by
  have := cur33_at h hk 29 (by omega)
  unfold List.getD
  rw [this]
  split <;> rfl
theorem of_step (g gS : Nat) (A : Option Addr) (n c B : Nat) (vs : List Int) (w1 : World) (hl : vs.length = 33) (hn : n = 33) (a0 : w1.heap[gS]? = some (.cells #[.slice A n c] 75)) (h : Rd w1 B 1 A n c (vs.map (Value.int .i64))) (hB : B ≤ g) (hB2 : B ≤ w1.heap.size) (hgS : gS < g)
    (k : Nat) (p : Addr) (w' : World) (hp : (plc g (g + 1))[k]? = some p) (hk : k < 33) (hI : OfI g vs w1 k w') :
    Calls Try.prog 119 (#[.int .i64 k, pv p] ++ #[.pointer (some ⟨gS, 0, none⟩)]) w' fun e w2 => e = .returned (.tuple #[]) ∧ OfI g vs w1 (k + 1) w2 := by
  subst hn
  obtain ⟨i1, i2, i3⟩ := hI
  obtain ⟨_, hpe⟩ := plc_at g (g + 1) k p hp
  have q0 := i3.keep a0 (by omega)
  have hlt : k < vs.length := by omega
  have hx : vs[k]? = some vs[k] := List.getElem?_eq_getElem hlt
  generalize vs[k] = x at hx
  have hrd : Rd w' B 1 A 33 c (vs.map (Value.int .i64)) := h.keep (fun p hp => by
    rw [World.cell?, World.cell?, i3.block _ (by omega) (by omega)])
  have hL := msgOf_len (cur33_len hl (show k ≤ 33 by omega))
  have hL2 := msgOf_len (cur33_len hl (show k + 1 ≤ 33 by omega))
  by_cases h1 : k < 29
  · rw [if_pos h1] at hpe
    have hu : (msgOf (cur33 vs k))[k]? = some _ := List.getElem?_eq_getElem (by omega)
    have hc := blk_cell i1 (pvC_at hu)
    have hf := blk_free (i := k) i1
    rw [← hpe] at hc hf
    refine (of1_any k gS p x _ A 33 c B vs w' hk hx q0 hrd hc hf).mono ?_
    rintro e w2 ⟨he, rfl⟩
    rw [hpe]
    have s1 := blk_set (i := k) i1 (.int .i64 x)
    rw [pvC_set] at s1
    refine ⟨he, ?_, ?_, i3.set _ (.inl rfl)⟩
    · rw [s1]
      congr 2
      refine congrArg pvC ?_
      refine list_ext33 (n := 32) (by rw [List.length_set]; exact hL) hL2 (fun j hj => ?_)
      rw [List.getElem?_set, cur_msg hl (show k + 1 ≤ 33 by omega) hj, cur_msg hl (show k ≤ 33 by omega) hj, hL]
      by_cases hjk : k = j
      · subst hjk
        rw [if_pos rfl, if_pos hj, if_pos h1, if_pos (by omega), hx]
      · rw [if_neg hjk]
        split
        · by_cases hj2 : j < k
          · rw [if_pos hj2, if_pos (by omega)]
          · rw [if_neg hj2, if_neg (by omega)]
        · rw [if_neg (by omega), if_neg (by omega)]
    · have := ((Aw.refl (fun b => b = g) w').set (p := ⟨g, k, none⟩) (.int .i64 x) rfl).keep i2 (by omega)
      rw [this, cur_none hl (show k + 1 ≤ 33 by omega), cur_none hl (show k ≤ 33 by omega), if_neg (by omega), if_neg (by omega)]
  · rw [if_neg h1] at hpe
    by_cases h2 : k = 29
    · rw [if_pos h2] at hpe
      subst h2
      have hc := blk_cell (i := 0) (v := .int .i64 ((cur33 vs 29).getD 29 0)) i2 rfl
      have hf := blk_free (i := 0) i2
      rw [← hpe] at hc hf
      refine (of1_any 29 gS p x _ A 33 c B vs w' hk hx q0 hrd hc hf).mono ?_
      rintro e w2 ⟨he, rfl⟩
      rw [hpe]
      have s1 := blk_set (i := 0) i2 (.int .i64 x)
      refine ⟨he, ?_, ?_, i3.set _ (.inr rfl)⟩
      · have := ((Aw.refl (fun b => b = g + 1) w').set (p := ⟨g + 1, 0, none⟩) (.int .i64 x) rfl).keep i1 (by omega)
        rw [this]
        congr 2
        refine congrArg pvC ?_
        refine list_ext33 (n := 32) hL hL2 (fun j hj => ?_)
        rw [cur_msg hl (show 29 + 1 ≤ 33 by omega) hj, cur_msg hl (show 29 ≤ 33 by omega) hj]
        split
        · rw [if_pos (by omega)]
        · rw [if_neg (by omega), if_neg (by omega)]
      · rw [s1, cur_none hl (show 29 + 1 ≤ 33 by omega), if_pos (by omega)]
        congr 2
        show #[Value.int .i64 x] = _
        unfold List.getD
        rw [hx]
        rfl
    · rw [if_neg h2] at hpe
      have hu : (msgOf (cur33 vs k))[k - 1]? = some _ := List.getElem?_eq_getElem (by omega)
      have hc := blk_cell i1 (pvC_at hu)
      have hf := blk_free (i := k - 1) i1
      rw [← hpe] at hc hf
      refine (of1_any k gS p x _ A 33 c B vs w' hk hx q0 hrd hc hf).mono ?_
      rintro e w2 ⟨he, rfl⟩
      rw [hpe]
      have s1 := blk_set (i := k - 1) i1 (.int .i64 x)
      rw [pvC_set] at s1
      refine ⟨he, ?_, ?_, i3.set _ (.inl rfl)⟩
      · rw [s1]
        congr 2
        refine congrArg pvC ?_
        refine list_ext33 (n := 32) (by rw [List.length_set]; exact hL) hL2 (fun j hj => ?_)
        rw [List.getElem?_set, cur_msg hl (show k + 1 ≤ 33 by omega) hj, cur_msg hl (show k ≤ 33 by omega) hj, hL]
        by_cases hjk : k - 1 = j
        · subst hjk
          rw [if_pos rfl, if_pos hj, if_neg (by omega), if_pos (by omega), show k - 1 + 1 = k by omega, hx]
        · rw [if_neg hjk]
          split
          · rw [if_pos (by omega), if_pos (by omega)]
          · by_cases hj2 : j + 1 < k
            · rw [if_pos hj2, if_pos (by omega)]
            · rw [if_neg hj2, if_neg (by omega)]
      · have := ((Aw.refl (fun b => b = g) w').set (p := ⟨g, k - 1, none⟩) (.int .i64 x) rfl).keep i2 (by omega)
        rw [this, cur_none hl (show k + 1 ≤ 33 by omega), cur_none hl (show k ≤ 33 by omega), if_pos (by omega), if_pos (by omega)]

end Go.Proofs.Ytkelepnipndbbaa
