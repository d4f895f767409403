/-
  pvt.Values and Of walked.
-/
import Derived.Test.YtkelepnipndbbaaPvt6
set_option linter.unusedSimpArgs false
set_option linter.unusedVariables false
namespace Go.Proofs.Ytkelepnipndbbaa
open Go.RowKit NumLaw
attribute [local go_sem] Addr.add_mid

/-- Numbers in new memory. -/
def RetV (vs : List Int) (w : World) (e : Ending) (w' : World) : Prop :=
  ∃ A n c, e = .returned (.slice A n c) ∧ w'.ownsRow w.heap.size 2 1 (.slice A n c) n (vs.map (Value.int .i64)) ∧ Below w.heap.size w w'
theorem place_val {xs : List Int} {g gn k : Nat} {p : Addr} {w : World} (hl : xs.length = 32) (hp : (plc g gn)[k]? = some p) (hg : w.heap[g]? = some (.cells (pvC xs) 66)) (hn : w.heap[gn]? = some (.cells #[.int .i64 0] 2)) :
    ∃ v, (valsOf xs)[k]? = some v ∧ w.cell? p = some (.int .i64 v) := by
  obtain ⟨hk, hpe⟩ := plc_at g gn k p hp
  have hv := valsOf_at hl k
  split at hpe
  · rename_i h
    rw [if_pos h] at hv
    have hlt : k < xs.length := by omega
    rw [List.getElem?_eq_getElem hlt] at hv
    exact ⟨_, hv, by rw [hpe]; exact blk_cell hg (pvC_at (List.getElem?_eq_getElem hlt))⟩
  · rename_i h
    rw [if_neg h] at hv
    split at hpe
    · rename_i h2
      rw [if_pos h2] at hv
      exact ⟨_, hv, by rw [hpe]; exact blk_cell hn rfl⟩
    · rename_i h2
      rw [if_neg h2] at hv
      have hlt : k - 1 < xs.length := by omega
      rw [List.getElem?_eq_getElem hlt] at hv
      exact ⟨_, hv, by rw [hpe]; exact blk_cell hg (pvC_at (List.getElem?_eq_getElem hlt))⟩
theorem values_step (g : Nat) (xs : List Int) (w1 : World) (hl : xs.length = 32) (a0 : w1.heap[g]? = some (.cells (pvC xs) 66)) (a1 : w1.heap[g + 1]? = some (.cells #[.int .i64 0] 2))
    (k : Nat) (p : Addr) (w' : World) (hp : (plc g (g + 1))[k]? = some p) (hk : k < 33) (hI : VaI (g + 2) (g + 4) xs w1 k w') :
    Calls Try.prog 120 (#[.int .i64 k, pv p] ++ #[.pointer (some ⟨g + 2, 0, none⟩)]) w' fun e w2 => e = .returned (.tuple #[]) ∧ VaI (g + 2) (g + 4) xs w1 (k + 1) w2 := by
  obtain ⟨A, c, i1, i2, i3, i4, i5⟩ := hI
  have b0 := (i3.block g (by omega)).trans a0
  have b1 := (i3.block (g + 1) (by omega)).trans a1
  obtain ⟨v, hv, hc⟩ := place_val hl hp b0 b1
  refine (values1_any k (g + 2) (g + 4) p v A c _ w' (by omega) hc i1 i2 (by omega) i5).mono ?_
  rintro e w2 ⟨he, A', c', f1, f2, f3, f4, f5⟩
  rw [← take_succ hv] at f2
  exact ⟨he, A', c', f1, f2, i3.trans f5, fun b h1 h2 => (f3 b h2 (by omega)).trans (i4 b h1 h2), by omega⟩
set_option maxRecDepth 100000 in
set_option maxHeartbeats 1000000 in
theorem values_any (xs : List Int) (w : World) (hl : xs.length = 32) : Calls Try.prog 51 #[.agg (pvC xs)] w (RetV (valsOf xs) w) := by
  obtain ⟨a0, a1, a2, hs, hb⟩ := al3 w (.cells (pvC xs) 66) (.cells #[.int .i64 0] 2) (.cells #[.slice none 0 0] 75)
  have Hs := Lib.hid hs
  clear hs
  go_enter Try.func51, Try.ntmps51
  go_wp2_with fail
  generalize (((w.alloc (.cells (pvC xs) 66)).alloc (.cells #[.int .i64 0] 2)).alloc (.cells #[.slice none 0 0] 75)) = w1 at *
  have hpl := places_any w.heap.size (w.heap.size + 1) w1
  rw [Hs.out] at hpl
  go_fit hpl
  rintro e w2 ⟨rfl, a3, hb12⟩
  have hb2 := hb.trans (hb12.mono (by omega))
  have q0 := (hb12.block _ (by omega)).trans a0
  have q1 := (hb12.block _ (by omega)).trans a1
  have q2 := (hb12.block _ (by omega)).trans a2
  have hlt3 := blk_lt a3
  clear a0 a1 a2 hb12 hb hpl
  have heach := each_any 120 #[.pointer (some ⟨w.heap.size + 2, 0, none⟩)] (fun _ _ => by kernel_rfl) (some ⟨w.heap.size + 3, 0, none⟩) 33 33 (w.heap.size + 4) (plc w.heap.size (w.heap.size + 1)) w2
    (VaI (w.heap.size + 2) (w.heap.size + 4) xs w2) ⟨none, 0, q2, World.ownsRow_nil _ _ _ _, Below.refl _ _, fun _ _ _ => rfl, by omega⟩
    (fun k w' hI => by
      obtain ⟨A, c, i1, i2, i3, i4, i5⟩ := hI
      exact rd_ptrs (ps := plc w.heap.size (w.heap.size + 1)) ((i4 _ (by omega) (by omega)).trans a3) (by simp [plc, maxLen]))
    (fun k p w' hp hk hI => values_step w.heap.size xs w2 hl q0 q1 k p w' hp hk hI)
  go_wp2_with fail
  go_fit heach
  rintro e w3 ⟨rfl, A, c, i1, i2, i3, i4, i5⟩
  have c1 := blk_cell (i := 0) (v := .slice A 33 c) i1 rfl
  have ht : (valsOf xs).take 33 = valsOf xs := List.take_of_length_le (by rw [valsOf_len hl]; omega)
  rw [ht] at i2
  have hbf := hb2.trans (i3.mono (show w.heap.size ≤ w.heap.size + 2 by omega))
  have hown := own_mono i2 (show w.heap.size ≤ w.heap.size + 4 by omega)
  clear heach q0 q1 q2 a3 i1 i2 i3 i4 i5 hb2 hlt3 ht
  go_wp2
  go_ret
  exact ⟨A, 33, c, rfl, hown, hbf⟩

/-- Are numbers a message's? The message. -/
def pofOk (vs : List Int) : Bool := decide (vs.length = 33 ∧ vs[29]? = some 0)
def pofV (vs : List Int) : List Int := if pofOk vs = true then msgOf vs else List.replicate 32 0
/-- What Of has filled in by now. -/
def cur33 (vs : List Int) (k : Nat) : List Int := vs.take k ++ List.replicate (33 - k) 0
theorem cur33_len {vs : List Int} (h : vs.length = 33) {k : Nat} (hk : k ≤ 33) : (cur33 vs k).length = 33 := by simp [cur33]; omega
theorem cur33_at {vs : List Int} (h : vs.length = 33) {k : Nat} (hk : k ≤ 33) (j : Nat) (hj : j < 33) : (cur33 vs k)[j]? = if j < k then vs[j]? else some 0 := by
  have h1 : (vs.take k).length = k := by simp; omega
  unfold cur33
  split
  · rename_i hjk
    rw [List.getElem?_append_left (by omega), List.getElem?_take, if_pos hjk]
  · rename_i hjk
    rw [List.getElem?_append_right (by omega), List.getElem?_replicate, if_pos (by omega)]
def OfI (g : Nat) (vs : List Int) (w1 : World) (k : Nat) (w' : World) : Prop :=
  w'.heap[g]? = some (.cells (pvC (msgOf (cur33 vs k))) 66) ∧ w'.heap[g + 1]? = some (.cells #[.int .i64 ((cur33 vs k).getD 29 0)] 2) ∧ Aw (fun b => b = g ∨ b = g + 1) w1 w'
theorem pvC_set (xs : List Int) (j : Nat) (x : Int) : (pvC xs).setIfInBounds j (.int .i64 x) = pvC (xs.set j x) := by
  unfold pvC
  rw [List.setIfInBounds_toArray, List.map_set]
set_option maxHeartbeats 1000000 in
theorem of1_any (k gS : Nat) (p : Addr) (x : Int) (u : Value) (A : Option Addr) (n c B : Nat) (vs : List Int) (w : World) (hk : k < n) (hx : vs[k]? = some x) (hS : w.heap[gS]? = some (.cells #[.slice A n c] 75)) (h : Rd w B 1 A n c (vs.map (Value.int .i64)))
    (hp : w.cell? p = some u) (hf : w.frozen? p = false) :
    Calls Try.prog 119 #[.int .i64 k, .pointer (some p), .pointer (some ⟨gS, 0, none⟩)] w fun e w' => e = .returned (.tuple #[]) ∧ w' = w.setCell p (.int .i64 x) := by
  have hle := h.le
  have hmx := h.max
  unfold maxLen at hmx
  obtain ⟨ad, y, rfl, hy, hc, _⟩ := num_at h hk
  rw [hx] at hy
  injection hy with hy
  subst hy
  have c1 := blk_cell (i := 0) (v := .slice (some ad) n c) hS rfl
  clear hx h hS
  go_enter Try.func119, Try.ntmps119
  go_wp2
  ((try simp only [Exit.inBlock, Exit.then]); refine bodyPost_end (results_none rfl _ _ _) rfl ?_)
  exact ⟨rfl, rfl⟩

end Go.Proofs.Ytkelepnipndbbaa
