/-
  Rows of fields that a call lays or appends: how they read. What a single field's literal is; the plain values of shape.Any, U, I at known numbers.
-/
import Derived.Test.YtonejdjhdjckjaaGreatShape7
set_option linter.unusedSimpArgs false
set_option linter.unusedVariables false
namespace Go.Proofs.YtonejdjhdjckjaaGreat
open Go.RowKit NumLaw

def f4 (f : FieldV) : List Value := [.int .i64 f.size, .bool f.sg, .int .i64 f.lo, .int .i64 f.hi]
def fcs (l : List FieldV) : List Value := l.flatMap f4
theorem fcs_app (a b : List FieldV) : fcs (a ++ b) = fcs a ++ fcs b := by simp [fcs]
theorem fcs_one (l : List FieldV) : ∀ u ∈ fcs l, u.oneCell' = true := by
  intro u hu
  obtain ⟨f, _, h⟩ := List.mem_flatMap.1 hu
  simp [f4] at h
  rcases h with rfl | rfl | rfl | rfl <;> rfl
theorem fcs_at : ∀ (l : List FieldV) (k j : Nat) (f : FieldV), l[k]? = some f → j < 4 → (fcs l)[k * 4 + j]? = (f4 f)[j]?
  | [], _, _, _, h, _ => by simp at h
  | g :: l, 0, j, f, h, hj => by
    simp at h; subst h
    have : j < (f4 g).length := by simpa [f4] using hj
    simp only [fcs, List.flatMap_cons, Nat.zero_mul, Nat.zero_add]
    rw [List.getElem?_append_left this]
  | g :: l, k + 1, j, f, h, hj => by
    have := fcs_at l k j f (by simpa using h) hj
    have e : (f4 g).length = 4 := rfl
    rw [← this]
    show (f4 g ++ fcs l)[(k + 1) * 4 + j]? = _
    rw [List.getElem?_append_right (by omega), e, show (k + 1) * 4 + j - 4 = k * 4 + j by omega]
theorem fcs_len (l : List FieldV) : (fcs l).length = l.length * 4 := by
  induction l with
  | nil => rfl
  | cons f l ih => show (f4 f ++ fcs l).length = _; rw [List.length_append, ih]; simp [f4]; omega
def FB (l : List FieldV) : Prop := ∀ f ∈ l, (-9223372036854775808 ≤ f.size ∧ f.size ≤ 9223372036854775807) ∧ (-9223372036854775808 ≤ f.lo ∧ f.lo ≤ 9223372036854775807) ∧ (-9223372036854775808 ≤ f.hi ∧ f.hi ≤ 9223372036854775807)
theorem rdF_cells {w : World} {g off B n c : Nat} {l : List FieldV} (hn : l.length = n) (hc : n ≤ c) (hm : c ≤ maxLen) (hg : g < B) (h : ∀ j u, (fcs l)[j]? = some u → w.cell? ⟨g, off + j, none⟩ = some u) (hb : FB l) : RdF w B (some ⟨g, off, none⟩) n c l :=
  ⟨hn, hc, hm, fun _ => ⟨g, off, rfl, hg, fun k f hk => by
    have e := fun j (hj : j < 4) => h (k * 4 + j) ((f4 f)[j]'(by simpa [f4] using hj)) (by rw [fcs_at l k j f hk hj, List.getElem?_eq_getElem])
    refine ⟨?_, ?_, ?_, ?_, hb f (List.mem_of_getElem? hk)⟩
    · exact e 0 (by omega)
    · have := e 1 (by omega); rwa [show off + (k * 4 + 1) = off + k * 4 + 1 by omega] at this
    · have := e 2 (by omega); rwa [show off + (k * 4 + 2) = off + k * 4 + 2 by omega] at this
    · have := e 3 (by omega); rwa [show off + (k * 4 + 3) = off + k * 4 + 3 by omega] at this⟩⟩
/-- A row of fields of the call's own. -/
theorem rdF_own {w : World} {base : Nat} {e : TypeId} {n c : Nat} {A : Option Addr} {l : List FieldV} (h : w.ownsRow base e 4 (.slice A n c) n (fcs l)) (hb : FB l) : RdF w w.heap.size A n c l := by
  have hl : l.length = n := by have := h.1; rw [fcs_len] at this; omega
  rcases h.2 with ⟨hv, h0⟩ | ⟨g, cap, cur, hv, hg, hh, h1, h2, h3, h4⟩
  · injection hv with e1 e2 e3
    subst e1; subst e2; subst e3
    exact ⟨hl, Nat.le_refl _, Nat.zero_le _, fun h => absurd h (Nat.lt_irrefl _)⟩
  · have hcell := h.cells (g := g) (by rw [hv]; rfl)
    injection hv with e1 e2 e3
    subst e1; subst e3
    refine rdF_cells hl h1 h2 (blk_lt hh) (fun j u hu => ?_) hb
    have := hcell j u hu
    rwa [show (⟨g, 0, none⟩ : Addr).add j = ⟨g, 0 + j, none⟩ by unfold Addr.add; split <;> simp_all] at this
/-- A literal's row. -/
theorem rdF_lit (w : World) (e : TypeId) (l : List FieldV) (cs : Array Value) (hcs : cs = (fcs l).toArray) (hm : l.length ≤ maxLen) (hb : FB l) : RdF (w.alloc (.cells cs e)) (w.heap.size + 1) (some ⟨w.heap.size, 0, none⟩) l.length l.length l := by
  subst hcs
  refine rdF_cells rfl (Nat.le_refl _) hm (Nat.lt_succ_self _) (fun j u hu => ?_) hb
  rw [World.cell?, show (⟨w.heap.size, 0 + j, none⟩ : Addr).block = w.heap.size from rfl, heap_alloc_new w _]
  simpa using hu
theorem rd_litF (w : World) (e : TypeId) (l : List FieldV) (cs : Array Value) (hcs : cs = (fcs l).toArray) (hm : l.length ≤ maxLen) : Rd (w.alloc (.cells cs e)) (w.heap.size + 1) 4 (some ⟨w.heap.size, 0, none⟩) l.length l.length (fcs l) := by
  subst hcs
  refine ⟨fcs_len l, Nat.le_refl _, hm, fun _ => ⟨_, rfl, Nat.lt_succ_self _, fun j u hu => ?_⟩⟩
  have e1 : (⟨w.heap.size, 0, none⟩ : Addr).add j = ⟨w.heap.size, j, none⟩ := by unfold Addr.add; split <;> simp_all
  rw [e1, World.cell?, show (⟨w.heap.size, j, none⟩ : Addr).block = w.heap.size from rfl, heap_alloc_new w _]
  simpa using hu
theorem own_litF (w : World) (base : Nat) (e : TypeId) (l : List FieldV) (cs : Array Value) (hcs : cs = (fcs l).toArray) (hB : base ≤ w.heap.size) (hm : l.length ≤ maxLen) : (w.alloc (.cells cs e)).ownsRow base e 4 (.slice (some ⟨w.heap.size, 0, none⟩) l.length l.length) l.length (fcs l) := by
  subst hcs
  exact ⟨fcs_len l, .inr ⟨w.heap.size, l.length, _, rfl, hB, heap_alloc_new w _, Nat.le_refl _, hm, by simp [fcs_len], by show List.take _ (fcs l) = _; exact List.take_of_length_le (by rw [fcs_len]; exact Nat.le_refl _)⟩⟩
theorem field_info : (Tryz.prog.info? 85).map (fun i => (i.zero, i.size, i.bytes)) = some (some (.agg #[.int .i64 0, .bool false, .int .i64 0, .int .i64 0]), 4, 32) := by kernel_rfl
/-- A function that lays a row of fields: the row reads, in new memory. -/
def RetF (l : List FieldV) (w : World) (e : Ending) (w' : World) : Prop :=
  ∃ A n c, e = .returned (.slice A n c) ∧ n ≤ 1000 ∧ RdF w' w'.heap.size A n c l ∧ Below w.heap.size w w'

end Go.Proofs.YtonejdjhdjckjaaGreat
