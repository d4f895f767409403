/-
  Rows of structs: a slice that reads as a list of rows of cells.
-/
import Derived.Test.YtonejdjhdjckjaaGreatBase
import Derived.Deep.MidRow
set_option linter.unusedSimpArgs false
set_option linter.unusedVariables false
namespace Go.Proofs.YtonejdjhdjckjaaGreat
open Go.RowKit

theorem flat_at {size : Nat} : ∀ (ls : List (List Value)) (k j : Nat) (r : List Value), (∀ x ∈ ls, x.length = size) → ls[k]? = some r → j < size → ls.flatten[k * size + j]? = r[j]?
  | [], _, _, _, _, h, _ => by simp at h
  | g :: l, 0, j, r, ha, h, hj => by
    simp at h; subst h
    have := ha g List.mem_cons_self
    simp only [List.flatten_cons, Nat.zero_mul, Nat.zero_add]
    rw [List.getElem?_append_left (by omega)]
  | g :: l, k + 1, j, r, ha, h, hj => by
    have ih := flat_at l k j r (fun x hx => ha x (List.mem_cons_of_mem _ hx)) (by simpa using h) hj
    have e := ha g List.mem_cons_self
    have e2 : (k + 1) * size + j = size + (k * size + j) := by rw [Nat.succ_mul]; omega
    rw [← ih, List.flatten_cons, List.getElem?_append_right (by rw [e2, e]; omega), e2, e]
    congr 1
    omega
theorem flat_len {size : Nat} : ∀ (ls : List (List Value)), (∀ x ∈ ls, x.length = size) → ls.flatten.length = ls.length * size
  | [], _ => by simp
  | g :: l, ha => by
    have := flat_len l (fun x hx => ha x (List.mem_cons_of_mem _ hx))
    rw [List.flatten_cons, List.length_append, this, ha g List.mem_cons_self, List.length_cons, Nat.succ_mul]
    omega
def RdR (w : World) (B size : Nat) (A : Option Addr) (n c : Nat) (ls : List (List Value)) : Prop :=
  ls.length = n ∧ (∀ r ∈ ls, r.length = size) ∧ n ≤ c ∧ c ≤ maxLen ∧ (0 < n → ∃ g off, A = some ⟨g, off, none⟩ ∧ g < B ∧ ∀ (k : Nat) (r : List Value), ls[k]? = some r → w.rangeAt g (off + k * size) r)
section
variable {w w' : World} {B B' size n c : Nat} {A : Option Addr} {ls : List (List Value)}
theorem RdR.none_ (w : World) (B size : Nat) : RdR w B size none 0 0 [] := ⟨rfl, by simp, Nat.le_refl _, Nat.zero_le _, fun h => absurd h (Nat.lt_irrefl _)⟩
theorem RdR.up (h : RdR w B size A n c ls) (hb : Below B w w') : RdR w' B size A n c ls :=
  ⟨h.1, h.2.1, h.2.2.1, h.2.2.2.1, fun hn => by
    obtain ⟨g, off, e, hg, hr⟩ := h.2.2.2.2 hn
    exact ⟨g, off, e, hg, fun k r hk j v hv => (hb.cell (p := ⟨g, off + k * size + j, none⟩) hg).trans (hr k r hk j v hv)⟩⟩
theorem RdR.more (h : RdR w B size A n c ls) (hB : B ≤ B') : RdR w B' size A n c ls :=
  ⟨h.1, h.2.1, h.2.2.1, h.2.2.2.1, fun hn => by
    obtain ⟨g, off, e, hg, hr⟩ := h.2.2.2.2 hn
    exact ⟨g, off, e, by omega, hr⟩⟩
theorem RdR.nx (h : RdR w w.heap.size size A n c ls) (hb : Below w.heap.size w w') : RdR w' w'.heap.size size A n c ls := (h.up hb).more hb.size
theorem RdR.at_ (h : RdR w B size A n c ls) {k : Nat} (hk : k < n) : ∃ g off r, A = some ⟨g, off, none⟩ ∧ g < B ∧ ls[k]? = some r ∧ r.length = size ∧ w.rangeAt g (off + k * size) r := by
  obtain ⟨g, off, e, hg, hr⟩ := h.2.2.2.2 (by omega)
  have hl : k < ls.length := by have := h.1; omega
  exact ⟨g, off, ls[k], e, hg, List.getElem?_eq_getElem hl, h.2.1 _ (List.getElem_mem hl), hr k _ (List.getElem?_eq_getElem hl)⟩
theorem RdR.own {base : Nat} {e : TypeId} (h : w.ownsRow base e size (.slice A n c) n ls.flatten) (hl : ls.length = n) (ha : ∀ r ∈ ls, r.length = size) : RdR w w.heap.size size A n c ls := by
  rcases h.2 with ⟨hv, h0⟩ | ⟨g, cap, cur, hv, hg, hh, h1, h2, h3, h4⟩
  · injection hv with e1 e2 e3
    subst e1; subst e2; subst e3
    exact ⟨hl, ha, Nat.le_refl _, Nat.zero_le _, fun h => absurd h (Nat.lt_irrefl _)⟩
  · have hcell := h.cells (g := g) (by rw [hv]; rfl)
    injection hv with e1 e2 e3
    subst e1; subst e3
    refine ⟨hl, ha, h1, h2, fun _ => ⟨g, 0, rfl, ?_, fun k r hk j v hv => ?_⟩⟩
    · rcases Nat.lt_or_ge g w.heap.size with hlt | hge
      · exact hlt
      · rw [Array.getElem?_eq_none hge] at hh; cases hh
    · have hj : j < r.length := (List.getElem?_eq_some_iff.1 hv).1
      have hr := ha r (List.mem_of_getElem? hk)
      have := hcell (k * size + j) v (by rw [flat_at ls k j r ha hk (by omega)]; exact hv)
      rwa [show (⟨g, 0, none⟩ : Addr).add (k * size + j) = ⟨g, 0 + k * size + j, none⟩ by unfold Addr.add; split <;> simp_all] at this
theorem RdR.rd (h : RdR w B size A n c ls) (hs : 0 < size) : Rd w B size A n c ls.flatten := by
  refine ⟨by rw [flat_len ls h.2.1, h.1], h.2.2.1, h.2.2.2.1, fun hn => ?_⟩
  obtain ⟨g, off, e, hg, hr⟩ := h.2.2.2.2 hn
  refine ⟨_, e, hg, fun j u hu => ?_⟩
  have hj : j < ls.flatten.length := (List.getElem?_eq_some_iff.1 hu).1
  rw [flat_len ls h.2.1] at hj
  have hk : j / size < ls.length := (Nat.div_lt_iff_lt_mul hs).2 hj
  have hdm : j = j / size * size + j % size := by rw [Nat.mul_comm]; exact (Nat.div_add_mod j size).symm
  have hx : ls[j / size]? = some ls[j / size] := List.getElem?_eq_getElem hk
  rw [hdm, flat_at ls (j / size) (j % size) _ h.2.1 hx (Nat.mod_lt _ hs)] at hu
  have := hr (j / size) _ hx (j % size) u hu
  have e2 : (⟨g, off, none⟩ : Addr).add j = ⟨g, off + j / size * size + j % size, none⟩ := by
    rw [Addr.add_mid]
    congr 1
    omega
  rw [e2]
  exact this
/-- A row that is laid by a literal of structs. -/
theorem RdR.lit {e : TypeId} (w : World) (ls : List (List Value)) (cs : Array Value) (hcs : cs = ls.flatten.toArray) (ha : ∀ r ∈ ls, r.length = size) (hm : ls.length ≤ maxLen) (n : Nat) (hn : ls.length = n) : RdR (w.alloc (.cells cs e)) (w.heap.size + 1) size (some ⟨w.heap.size, 0, none⟩) n n ls := by
  subst hcs; subst hn
  refine ⟨rfl, ha, Nat.le_refl _, hm, fun _ => ⟨_, _, rfl, Nat.lt_succ_self _, fun k r hk j v hv => ?_⟩⟩
  have hj : j < r.length := (List.getElem?_eq_some_iff.1 hv).1
  have hr := ha r (List.mem_of_getElem? hk)
  rw [World.cell?, show (⟨w.heap.size, 0 + k * size + j, none⟩ : Addr).block = w.heap.size from rfl, heap_alloc_new w _]
  have := flat_at ls k j r ha hk (by omega)
  simp only [Nat.zero_add]
  simpa [this] using hv
theorem own_litR (w : World) (base : Nat) (e : TypeId) (ls : List (List Value)) (cs : Array Value) (hcs : cs = ls.flatten.toArray) (ha : ∀ r ∈ ls, r.length = size) (hm : ls.length ≤ maxLen) (hB : base ≤ w.heap.size) (n : Nat) (hn : ls.length = n) :
    (w.alloc (.cells cs e)).ownsRow base e size (.slice (some ⟨w.heap.size, 0, none⟩) n n) n ls.flatten := by
  subst hcs; subst hn
  exact ⟨flat_len ls ha, .inr ⟨w.heap.size, ls.length, _, rfl, hB, heap_alloc_new w _, Nat.le_refl _, hm, by simp [flat_len ls ha], by
    show List.take _ ls.flatten = _
    exact List.take_of_length_le (by rw [flat_len ls ha]; exact Nat.le_refl _)⟩⟩
end
theorem flat_app (a : List (List Value)) (r : List Value) : (a ++ [r]).flatten = a.flatten ++ r := by simp

end Go.Proofs.YtonejdjhdjckjaaGreat
