/-
  The statements' calls of layer 4: a row of Op; few, knows.
-/
import Derived.Test.YtglfhdkknhdphaaOctWr2
import Derived.Test.YtglfhdkknhdphaaOpen
set_option linter.unusedSimpArgs false
set_option linter.unusedVariables false
namespace Go.Proofs.Ytglfhdkknhdphaa
open Go.RowKit NumLaw
attribute [local go_sem] Addr.add_mid

structure OpV where
  kind : Int
  n : Int
  u : Nat
  i : Int
  b : List UInt8
/-- An Op lies at block g from off on. -/
def OpAt (w : World) (B g off : Nat) (o : OpV) : Prop :=
  w.cell? ⟨g, off, none⟩ = some (.int .i64 o.kind) ∧ w.cell? ⟨g, off + 1, none⟩ = some (.int .i64 o.n) ∧ w.cell? ⟨g, off + 2, none⟩ = some (.int .u64 o.u) ∧ w.cell? ⟨g, off + 3, none⟩ = some (.int .i64 o.i) ∧
    (∃ A n c, w.cell? ⟨g, off + 4, none⟩ = some (.slice A n c) ∧ Rd w B 1 A n c (bv o.b)) ∧ (-9223372036854775808 ≤ o.n ∧ o.n ≤ 9223372036854775807) ∧ o.u < 18446744073709551616 ∧ (-9223372036854775808 ≤ o.i ∧ o.i ≤ 9223372036854775807)
/-- A slice of Ops reads as l. -/
def RdOps (w : World) (B : Nat) (A : Option Addr) (n c : Nat) (l : List OpV) : Prop :=
  l.length = n ∧ n ≤ c ∧ c ≤ maxLen ∧ (0 < n → ∃ g off, A = some ⟨g, off, none⟩ ∧ g < B ∧ ∀ k o, l[k]? = some o → OpAt w B g (off + k * 5) o)
theorem OpAt.up {w w' : World} {B g off : Nat} {o : OpV} (h : OpAt w B g off o) (ha : g < B) (hb : Below B w w') : OpAt w' B g off o := by
  have hc : ∀ j, w'.cell? ⟨g, j, none⟩ = w.cell? ⟨g, j, none⟩ := fun j => hb.cell ha
  obtain ⟨h1, h2, h3, h4, ⟨A, n, c, h5, h6⟩, h7⟩ := h
  exact ⟨(hc _).trans h1, (hc _).trans h2, (hc _).trans h3, (hc _).trans h4, ⟨A, n, c, (hc _).trans h5, h6.up hb⟩, h7⟩
theorem RdOps.up {w w' : World} {B n c : Nat} {A : Option Addr} {l : List OpV} (h : RdOps w B A n c l) (hb : Below B w w') : RdOps w' B A n c l := by
  obtain ⟨h1, h2, h3, h4⟩ := h
  refine ⟨h1, h2, h3, fun hn => ?_⟩
  obtain ⟨g, off, e, hlt, ho⟩ := h4 hn
  exact ⟨g, off, e, hlt, fun k o hk => (ho k o hk).up hlt hb⟩
theorem RdOps.at_ {w : World} {B n c : Nat} {A : Option Addr} {l : List OpV} (h : RdOps w B A n c l) {k : Nat} (hk : k < n) : ∃ g off o, A = some ⟨g, off, none⟩ ∧ g < B ∧ l[k]? = some o ∧ OpAt w B g (off + k * 5) o := by
  obtain ⟨h1, h2, h3, h4⟩ := h
  obtain ⟨g, off, e, hlt, ho⟩ := h4 (by omega)
  exact ⟨g, off, l[k], e, hlt, List.getElem?_eq_getElem (by omega), ho k _ (List.getElem?_eq_getElem (by omega))⟩

/- few -/
def fewN (l : List OpV) : Bool := decide (l.length ≤ 60) && l.all fun o => decide (o.b.length ≤ 100)
theorem fewN_all {l : List OpV} (h : fewN l = true) : l.length ≤ 60 ∧ ∀ o ∈ l, o.b.length ≤ 100 := by
  simpa [fewN] using h
set_option maxHeartbeats 400000 in
theorem few_any (A : Option Addr) (n c B : Nat) (l : List OpV) (w : World) (h : RdOps w B A n c l) :
    Calls Try.prog 18 #[.slice A n c] w fun e w' => e = .returned (.bool (fewN l)) ∧ w = w' := by
  have hle := h.2.1
  have hm := h.2.2.1
  have Hl := Lib.hid h.1
  unfold maxLen at hm
  have hf : fewN l = (decide (n ≤ 60) && l.all fun o => decide (o.b.length ≤ 100)) := by unfold fewN; rw [Hl.out]
  go_enter Try.func18, Try.ntmps18
  by_cases h60 : n ≤ 60
  · have Hf := Lib.hid hf
    clear hf
    go_wp2
    go_loop [3] (fun i => ∃ k : Nat, k ≤ n ∧ i = .int .i64 k ∧ (l.take k).all (fun o => decide (o.b.length ≤ 100)) = true) (fun i => n - (intOf i).toNat)
    case atStart => exact ⟨0, by omega, rfl, rfl⟩
    case round =>
      obtain ⟨k, hk, rfl, hall⟩ := hrel
      have Hall := Lib.hid hall
      clear hall
      by_cases hlt : k < n
      · obtain ⟨g, off, o, rfl, hbl, hx, h1, h2, h3, h4, ⟨A', n', c', h5, h6⟩, h7⟩ := h.at_ hlt
        have hn' := h6.blen
        have hs : (l.take (k + 1)).all (fun o => decide (o.b.length ≤ 100)) = decide (n' ≤ 100) := by
          rw [take_succ hx, List.all_append, Hall.out, ← hn']; simp
        have Hs := Lib.hid (And.intro hs hx)
        clear hs hn' hx
        by_cases h100 : n' ≤ 100
        · go_wp2
          go_round
          case rel => exact ⟨k + 1, by omega, by go_num, by rw [Hs.out.1]; simpa using h100⟩
          case measure => simp [intOf]; omega
        · go_wp2
          go_ret
          refine ⟨?_, rfl⟩
          have : fewN l = false := by
            rw [Hf.out]
            have e : l.all (fun o => decide (o.b.length ≤ 100)) = false := by
              rw [← List.take_append_drop (k + 1) l, List.all_append, Hs.out.1, decide_eq_false h100]; rfl
            rw [e, Bool.and_false]
          rw [this]
          rfl
      · obtain rfl : k = n := by omega
        have ht : l.take k = l := List.take_of_length_le (by rw [Hl.out]; exact Nat.le_refl _)
        rw [ht] at Hall
        go_wp2
        go_ret
        refine ⟨?_, rfl⟩
        rw [Hf.out, Hall.out, decide_eq_true h60]
        rfl
  · rw [hf, decide_eq_false h60, Bool.false_and]
    clear hf
    go_wp2
    go_ret
    exact ⟨rfl, rfl⟩

section
variable {H : Type} {enc : TypeId × Value → H} {W : World}
theorem list_of {α : Type} {R : Nat → α → Prop} : ∀ (n : Nat), (∀ i, i < n → ∃ x, R i x) → ∃ l : List α, l.length = n ∧ ∀ i x, l[i]? = some x → R i x
  | 0, _ => ⟨[], rfl, fun i x h => by simp at h⟩
  | n + 1, h => by
    obtain ⟨l, hl, hr⟩ := list_of n (fun i hi => h i (by omega))
    obtain ⟨x, hx⟩ := h n (by omega)
    refine ⟨l ++ [x], by simp [hl], fun i y hy => ?_⟩
    rcases Nat.lt_trichotomy i n with h1 | rfl | h1
    · rw [List.getElem?_append_left (by omega)] at hy; exact hr i y hy
    · rw [List.getElem?_append_right (by omega), hl, Nat.sub_self] at hy
      simp at hy; subst hy; exact hx
    · rw [List.getElem?_eq_none (by simp; omega)] at hy; cases hy
set_option maxRecDepth 10000 in
theorem open_ops {b0 : Nat} {v : Value} {d : DataW H} {p : List MemPlace} (hv : Value.okWide Try.prog W .any b0 23 v) (h : DataW.Trod enc Try.prog W 0 (fun _ => true) true 23 v d p) :
    ∃ (A : Option Addr) (n c : Nat) (l : List OpV), v = .slice A n c ∧ RdOps W W.heap.size A n c l := by
  obtain ⟨A, n, c, rfl, hn, hc, hat⟩ := open_rows Try.underlying23 Try.underlying32 (by kernel_rfl) (by kernel_rfl) (Nat.succ_pos 4) hv h
  rcases Nat.eq_zero_or_pos n with rfl | hpos
  · exact ⟨A, 0, c, [], rfl, rfl, hn, hc, fun h => absurd h (Nat.lt_irrefl _)⟩
  obtain ⟨g, off, rfl, hlt, hel⟩ := hat hpos
  have := list_of (R := fun i o => OpAt W W.heap.size g (off + i * 5) o) n (fun i hi => by
    obtain ⟨u0, m0, y0, c0, t0⟩ := hel i hi 0 _ rfl
    obtain ⟨u1, m1, y1, c1, t1⟩ := hel i hi 1 _ rfl
    obtain ⟨u2, m2, y2, c2, t2⟩ := hel i hi 2 _ rfl
    obtain ⟨u3, m3, y3, c3, t3⟩ := hel i hi 3 _ rfl
    obtain ⟨u4, m4, y4, c4, t4⟩ := hel i hi 4 _ rfl
    obtain ⟨z0, e0, _, w0⟩ := DataW.trod_int Try.underlying3 t0
    obtain ⟨z1, e1, _, w1⟩ := DataW.trod_int Try.underlying3 t1
    obtain ⟨z2, e2, _, w2⟩ := DataW.trod_int Try.underlying30 t2
    obtain ⟨z3, e3, _, w3⟩ := DataW.trod_int Try.underlying2 t3
    obtain ⟨A4, n4, c4', l4, rfl, r4⟩ := cell_bytes Try.underlying22 Try.underlying5 (by kernel_rfl) t4
    injection e0 with e0; injection e1 with e1; injection e2 with e2; injection e3 with e3
    subst e0; subst e1; subst e2; subst e3
    obtain ⟨k2, rfl, h2⟩ := wf_u64 w2
    exact ⟨⟨z0, z1, k2, z3, l4⟩, by simpa using c0, c1, c2, c3, ⟨A4, n4, c4', c4, r4⟩, bounds_i64 w1, h2, bounds_i64 w3⟩)
  obtain ⟨l, hl, ho⟩ := this
  exact ⟨_, n, c, l, rfl, hl, hn, hc, fun _ => ⟨g, off, rfl, hlt, ho⟩⟩
end

end Go.Proofs.Ytglfhdkknhdphaa
