/-
  Several texts in one: Shape7 ShapeLaw ShBack OpenCell FldRow Cells Big Big2.
-/
import Derived.Test.YtmkidihcdljkiaaGreatKPGD
import Derived.Test.YtmkidihcdljkiaaGreatKPGA
import Derived.Laws.CopyOwn
import Derived.Laws.Tables
import Derived.Laws.Rows
/-
  shape.Take whole; the document's Same of numbers; the statements' knows of layer 14.
-/
set_option linter.unusedSimpArgs false
set_option linter.unusedVariables false
namespace Go.Proofs.YtmkidihcdljkiaaGreat
open Go.RowKit NumLaw

/- the document's Same -/
/- knows -/
theorem rd_lit' (w : World) (e : TypeId) (cs : List Value) (hm : cs.length ≤ maxLen) : Rd (w.alloc (.cells cs.toArray e)) (w.heap.size + 1) 1 (some ⟨w.heap.size, 0, none⟩) cs.length cs.length cs := by
  refine ⟨by simp, Nat.le_refl _, hm, fun _ => ⟨_, rfl, Nat.lt_succ_self _, fun j u hu => ?_⟩⟩
  have e1 : (⟨w.heap.size, 0, none⟩ : Addr).add j = ⟨w.heap.size, j, none⟩ := by unfold Addr.add; split <;> simp_all
  rw [e1, World.cell?, show (⟨w.heap.size, j, none⟩ : Addr).block = w.heap.size from rfl, heap_alloc_new w _]
  simpa using hu
end Go.Proofs.YtmkidihcdljkiaaGreat

/-
  The plain law of shapes: there and back.
-/
set_option linter.unusedSimpArgs false
set_option linter.unusedVariables false
namespace Go.Proofs.YtmkidihcdljkiaaGreat
open Go.RowKit NumLaw

theorem sgn_back (k : Nat) (i : Int) (h1 : 1 ≤ k) (h8 : k ≤ 8) (hlo : -(128 * 256 ^ (k - 1)) ≤ i) (hhi : i < 128 * 256 ^ (k - 1)) : sgn k (un i % 256 ^ k) = i := by
  unfold sgn un
  rcases (by omega : k = 1 ∨ k = 2 ∨ k = 3 ∨ k = 4 ∨ k = 5 ∨ k = 6 ∨ k = 7 ∨ k = 8) with rfl | rfl | rfl | rfl | rfl | rfl | rfl | rfl
  all_goals
    simp at hlo hhi ⊢
    split <;> omega
/-- A number in range comes back. -/
theorem field_back {f : FieldV} {x : Int} (hr : rightF f = true) (hx : inF f x = true) : fieldV f (bytesN f.size.toNat (un x)) = x := by
  obtain ⟨h1, h8, hs, hu⟩ := in_fits hr hx
  unfold fieldV
  rw [num_bytesN]
  cases hg : f.sg with
  | true =>
    simp only [if_true]
    have := hs hg
    unfold fI at this
    obtain ⟨_, _, h3, h4⟩ := of_decide_eq_true this
    exact sgn_back _ _ (by omega) (by omega) h3 h4
  | false =>
    simp only [Bool.false_eq_true, if_false]
    obtain ⟨hfu, hx0⟩ := hu hg
    unfold fU at hfu
    obtain ⟨_, _, h3⟩ := of_decide_eq_true hfu
    rw [Nat.mod_eq_of_lt h3]
    have hhi : x ≤ 9223372036854775807 := by
      have hx := of_decide_eq_true hx
      obtain ⟨size, sg, lo, hi⟩ := f
      unfold rightF at hr
      simp only [Bool.and_eq_true, decide_eq_true_eq] at hr
      have h4 := of_decide_eq_true hr.2
      unfold anyF at h4
      rw [if_pos hr.1.1.1] at h4
      simp only at hg hx h4
      subst hg
      simp only [Bool.false_eq_true, if_false] at h4
      rcases fits_cases hr.1.1.1 with rfl | rfl | rfl | rfl | rfl | rfl | rfl | rfl
      all_goals
        simp at h4
        omega
    unfold sg64 un
    split <;> omega
theorem put_take : ∀ (l : List FieldV) (vs : List Int), rightL l = true → vs.length = l.length → inAll l vs = true → takeV l (shB l vs) = vs ∧ (shB l vs).length = sumL l
  | [], vs, _, hl, _ => by
    obtain rfl : vs = [] := List.eq_nil_of_length_eq_zero (by simpa using hl)
    exact ⟨rfl, rfl⟩
  | f :: l, [], _, hl, _ => by simp at hl
  | f :: l, x :: vs, hr, hl, hi => by
    have hr' : rightF f = true ∧ rightL l = true := by simpa [rightL] using hr
    have hi' : inF f x = true ∧ inAll l vs = true := by simpa [inAll] using hi
    obtain ⟨h1, h2⟩ := put_take l vs hr'.2 (by simpa using hl) hi'.2
    have e : shB (f :: l) (x :: vs) = bytesN f.size.toNat (un x) ++ shB l vs := by simp [shB]
    rw [e, sumL_cons]
    refine ⟨?_, by rw [List.length_append, bytesN_len, h2]⟩
    have t1 : (bytesN f.size.toNat (un x) ++ shB l vs).take f.size.toNat = bytesN f.size.toNat (un x) := by
      rw [List.take_append_of_le_length (by rw [bytesN_len]; exact Nat.le_refl _), List.take_of_length_le (by rw [bytesN_len]; exact Nat.le_refl _)]
    have t2 : (bytesN f.size.toNat (un x) ++ shB l vs).drop f.size.toNat = shB l vs := by
      have : (bytesN f.size.toNat (un x)).length = f.size.toNat := bytesN_len _ _
      rw [List.drop_append_of_le_length (by omega), List.drop_of_length_le (by omega)]; rfl
    show fieldV f _ :: takeV l _ = _
    rw [t1, t2, field_back hr'.1 hi'.1, h1]
/-- What is put is taken. -/
theorem shape_there {l : List FieldV} {vs : List Int} (h : shE l vs = 0) : shTE l (shP l vs) = 0 ∧ shT l (shP l vs) = vs ∧ (shP l vs).length = widthL l := by
  have hP : shP l vs = shB l vs := by unfold shP; rw [if_pos h]
  unfold shE at h
  split at h
  · rename_i h1
    split at h
    · rename_i h2
      obtain ⟨e1, e2⟩ := put_take l vs h1.1 h1.2 h2
      have hE : shTE l (shB l vs) = 0 := by
        unfold shTE
        rw [if_pos h1.1, if_neg (by omega), if_neg (by omega), e1, if_pos h2]
      rw [hP]
      exact ⟨hE, by unfold shT; rw [if_pos hE, e1], by rw [e2]; unfold widthL; rw [if_pos h1.1]⟩
    · cases h
  · cases h
end Go.Proofs.YtmkidihcdljkiaaGreat

/-
  The law ShapeBack walked. (Its last part is printed by gen_shback.py.)
-/
set_option linter.unusedSimpArgs false
set_option linter.unusedVariables false
namespace Go.Proofs.YtmkidihcdljkiaaGreat
open Go.RowKit NumLaw Go.ChangeShapes Go.WideShapes Go.ChangeAt

theorem list_of' {β : Type} {R : Nat → β → Prop} (n : Nat) (h : ∀ i, i < n → ∃ x, R i x) : ∃ l : List β, l.length = n ∧ ∀ i x, l[i]? = some x → R i x := by
  induction n with
  | zero => exact ⟨[], rfl, fun i x hx => by simp at hx⟩
  | succ n ih =>
    obtain ⟨l, hl, hr⟩ := ih (fun i hi => h i (by omega))
    obtain ⟨x, hx⟩ := h n (by omega)
    refine ⟨l ++ [x], by simp [hl], fun i y hy => ?_⟩
    rcases Nat.lt_or_ge i l.length with hi | hi
    · rw [List.getElem?_append_left hi] at hy
      exact hr i y hy
    · rw [List.getElem?_append_right hi] at hy
      rcases Nat.eq_or_lt_of_le hi with he | he
      · rw [← he] at hy
        simp at hy
        subst hy
        rw [← he, hl]
        exact hx
      · rw [List.getElem?_eq_none (by simp; omega)] at hy; cases hy
section
variable {H : Type} {enc : TypeId × Value → H} {W : World}
end
theorem RdF.bounds {w : World} {B n c : Nat} {A : Option Addr} {l : List FieldV} (h : RdF w B A n c l) : ∀ f ∈ l, (-9223372036854775808 ≤ f.lo ∧ f.lo ≤ 9223372036854775807) ∧ (-9223372036854775808 ≤ f.hi ∧ f.hi ≤ 9223372036854775807) := by
  intro f hf
  obtain ⟨k, hk⟩ := List.mem_iff_getElem?.1 hf
  have hkl : k < n := by have := (List.getElem?_eq_some_iff.1 hk).1; rw [h.1] at this; exact this
  obtain ⟨g, off, f', _, _, hx, _, _, _, _, _, h6, h7⟩ := h.at_ hkl
  rw [hk] at hx
  injection hx with hx
  subst hx
  exact ⟨h6, h7⟩

end Go.Proofs.YtmkidihcdljkiaaGreat

/-
  A cell that holds a slice of structs, opened; a slice of structs whose cells all are numbers.
-/
set_option linter.unusedSimpArgs false
set_option linter.unusedVariables false
namespace Go.Proofs.YtmkidihcdljkiaaGreat
open Go.RowKit Go.ChangeShapes Go.WideShapes Go.ChangeAt

section
variable {H : Type} {enc : TypeId × Value → H} {P : Program} {W : World}
theorem cell_els {t e : TypeId} {fs : Array Field} {sz : Nat} {fuel : Nat} {u : Value} {x : DataW H × List MemPlace} (ht : P.underlying t = some (.slice e)) (he : P.underlying e = some (.struct fs)) (hC : P.cellsOf e = sz) (hpos : 0 < sz)
    (h : DataW.trod enc P W 0 (fun _ => true) true fuel t [u] = some x) :
    ∃ (A : Option Addr) (n c : Nat), u = .slice A n c ∧ n ≤ c ∧ c ≤ maxLen ∧ (0 < n → ∃ g off, A = some ⟨g, off, none⟩ ∧ g < W.heap.size ∧
      ∀ i, i < n → ∃ (cs : List Value) (m : Nat) (y : _), cs.length = sz ∧ DataW.trod enc P W 0 (fun _ => true) true m e cs = some y ∧ ∀ j u, cs[j]? = some u → W.cell? ⟨g, off + i * sz + j, none⟩ = some u) := by
  rcases Go.Deep.open_slice ht h with ⟨hcs, _⟩ | ⟨a, len, cap, m, n', D, Pl, hcs, _, hl, hm, hmm, _, hi⟩
  · injection hcs with hcs
    subst hcs
    exact ⟨none, 0, 0, rfl, Nat.le_refl _, Nat.zero_le _, fun h => absurd h (Nat.lt_irrefl _)⟩
  · injection hcs with hcs
    subst hcs
    refine ⟨_, len, cap, rfl, hl, hm, fun hn => ?_⟩
    have hmc : len ≤ m := by rw [hmm]; simp; omega
    have one : ∀ i, i < len → ∃ (cs : List Value) (k : Nat) (y : _), cs.length = sz ∧ DataW.trod enc P W 0 (fun _ => true) true k e cs = some y ∧ ∀ j u, cs[j]? = some u → W.cell? (a.add (i * sz + j)) = some u := by
      intro i hin
      obtain ⟨cs, hc, htr⟩ := hi i (by omega)
      rw [hC] at hc
      obtain ⟨_, hlen, hat⟩ := World.cells?_some hc
      refine ⟨cs, _, _, hlen, htr, fun j u hj => ?_⟩
      have hjl : j < sz := by have := (List.getElem?_eq_some_iff.1 hj).1; omega
      rw [← addr_add, hat j hjl, hj]
    obtain ⟨cs0, _, _, hl0, _, hu0⟩ := one 0 hn
    have hu0 := hu0 0 cs0[0] (List.getElem?_eq_getElem (by omega))
    rw [Nat.zero_mul, Nat.zero_add, addr_zero] at hu0
    have hsp := World.cell?_spot hu0
    have hlt := World.block_lt_of_cell? W _ hu0
    obtain ⟨g, off, sp⟩ := a
    simp only at hsp
    subst hsp
    refine ⟨g, off, rfl, hlt, fun i hin => ?_⟩
    obtain ⟨cs, k, y, h0, h1, h2⟩ := one i hin
    refine ⟨cs, k, y, h0, h1, fun j u hj => ?_⟩
    have := h2 j u hj
    rwa [Addr.add_mid, ← Nat.add_assoc] at this
/-- Rows of a kind Rw: what each element's cells are. -/
theorem rows_of {sz : Nat} {e : TypeId} {β : Type} {C : β → List Value} {Q : β → Prop} {A : Option Addr} {n c : Nat} (hsz : ∀ x, (C x).length = sz ∨ ¬ Q x) (hn : n ≤ c) (hc : c ≤ maxLen)
    (hone : ∀ (m : Nat) (cs : List Value) (y : _), cs.length = sz → DataW.trod enc P W 0 (fun _ => true) true m e cs = some y → ∃ x, Q x ∧ cs = C x)
    (hat : 0 < n → ∃ g off, A = some ⟨g, off, none⟩ ∧ g < W.heap.size ∧
      ∀ i, i < n → ∃ (cs : List Value) (m : Nat) (y : _), cs.length = sz ∧ DataW.trod enc P W 0 (fun _ => true) true m e cs = some y ∧ ∀ j u, cs[j]? = some u → W.cell? ⟨g, off + i * sz + j, none⟩ = some u) :
    ∃ l : List β, RdR W W.heap.size sz A n c (l.map C) ∧ ∀ x ∈ l, Q x := by
  rcases Nat.eq_zero_or_pos n with h0 | hpos
  · subst h0
    exact ⟨[], ⟨rfl, by simp, hn, hc, fun h => absurd h (Nat.lt_irrefl _)⟩, by simp⟩
  obtain ⟨g, off, rfl, hlt, hel⟩ := hat hpos
  obtain ⟨l, hl, ho⟩ := list_of' (R := fun i x => Q x ∧ W.rangeAt g (off + i * sz) (C x)) n (fun i hi => by
    obtain ⟨cs, m, y, hlen, htr, hcell⟩ := hel i hi
    obtain ⟨x, hq, rfl⟩ := hone m cs y hlen htr
    exact ⟨x, hq, fun j v hv => hcell j v hv⟩)
  have hQ : ∀ x ∈ l, Q x := fun x hx => by
    obtain ⟨i, hi⟩ := List.getElem?_of_mem hx
    exact (ho i x hi).1
  refine ⟨l, ⟨by simp [hl], fun r hr => ?_, hn, hc, fun _ => ⟨g, off, rfl, hlt, fun k r hk => ?_⟩⟩, hQ⟩
  · obtain ⟨x, hx, rfl⟩ := List.mem_map.1 hr
    exact (hsz x).resolve_right (fun h => h (hQ x hx))
  · rw [List.getElem?_map] at hk
    cases hx : l[k]? with
    | none => rw [hx] at hk; cases hk
    | some x =>
      rw [hx] at hk
      injection hk with hk
      subst hk
      exact (ho k x hx).2
end

end Go.Proofs.YtmkidihcdljkiaaGreat

/-
  Rows of fields that a call lays or appends: how they read. What a single field's literal is; the plain values of shape.Any, U, I at known numbers.
-/
set_option linter.unusedSimpArgs false
set_option linter.unusedVariables false
namespace Go.Proofs.YtmkidihcdljkiaaGreat
open Go.RowKit NumLaw

def f4 (f : FieldV) : List Value := [.int .i64 f.size, .bool f.sg, .int .i64 f.lo, .int .i64 f.hi]
def fcs (l : List FieldV) : List Value := l.flatMap f4
theorem fcs_app (a b : List FieldV) : fcs (a ++ b) = fcs a ++ fcs b := by simp [fcs]
theorem fcs_one (l : List FieldV) : ∀ u ∈ fcs l, u.oneCell' = true := by
  intro u hu
  obtain ⟨f, _, h⟩ := List.mem_flatMap.1 hu
  simp [f4] at h
  rcases h with rfl | rfl | rfl | rfl <;> rfl
theorem fcs_at : ∀ (l : List FieldV) (k j : Nat) (f : FieldV), l[k]? = some f → j < 4 → (fcs l)[k * 4 + j]? = (f4 f)[j]?
  | [], _, _, _, h, _ => by simp at h
  | g :: l, 0, j, f, h, hj => by
    simp at h; subst h
    have : j < (f4 g).length := by simpa [f4] using hj
    simp only [fcs, List.flatMap_cons, Nat.zero_mul, Nat.zero_add]
    rw [List.getElem?_append_left this]
  | g :: l, k + 1, j, f, h, hj => by
    have := fcs_at l k j f (by simpa using h) hj
    have e : (f4 g).length = 4 := rfl
    rw [← this]
    show (f4 g ++ fcs l)[(k + 1) * 4 + j]? = _
    rw [List.getElem?_append_right (by omega), e, show (k + 1) * 4 + j - 4 = k * 4 + j by omega]
theorem fcs_len (l : List FieldV) : (fcs l).length = l.length * 4 := by
  induction l with
  | nil => rfl
  | cons f l ih => show (f4 f ++ fcs l).length = _; rw [List.length_append, ih]; simp [f4]; omega
def FB (l : List FieldV) : Prop := ∀ f ∈ l, (-9223372036854775808 ≤ f.size ∧ f.size ≤ 9223372036854775807) ∧ (-9223372036854775808 ≤ f.lo ∧ f.lo ≤ 9223372036854775807) ∧ (-9223372036854775808 ≤ f.hi ∧ f.hi ≤ 9223372036854775807)
theorem rdF_cells {w : World} {g off B n c : Nat} {l : List FieldV} (hn : l.length = n) (hc : n ≤ c) (hm : c ≤ maxLen) (hg : g < B) (h : ∀ j u, (fcs l)[j]? = some u → w.cell? ⟨g, off + j, none⟩ = some u) (hb : FB l) : RdF w B (some ⟨g, off, none⟩) n c l :=
  ⟨hn, hc, hm, fun _ => ⟨g, off, rfl, hg, fun k f hk => by
    have e := fun j (hj : j < 4) => h (k * 4 + j) ((f4 f)[j]'(by simpa [f4] using hj)) (by rw [fcs_at l k j f hk hj, List.getElem?_eq_getElem])
    refine ⟨?_, ?_, ?_, ?_, hb f (List.mem_of_getElem? hk)⟩
    · exact e 0 (by omega)
    · have := e 1 (by omega); rwa [show off + (k * 4 + 1) = off + k * 4 + 1 by omega] at this
    · have := e 2 (by omega); rwa [show off + (k * 4 + 2) = off + k * 4 + 2 by omega] at this
    · have := e 3 (by omega); rwa [show off + (k * 4 + 3) = off + k * 4 + 3 by omega] at this⟩⟩
/-- A row of fields of the call's own. -/
theorem rdF_own {w : World} {base : Nat} {e : TypeId} {n c : Nat} {A : Option Addr} {l : List FieldV} (h : w.ownsRow base e 4 (.slice A n c) n (fcs l)) (hb : FB l) : RdF w w.heap.size A n c l := by
  have hl : l.length = n := by have := h.1; rw [fcs_len] at this; omega
  rcases h.2 with ⟨hv, h0⟩ | ⟨g, cap, cur, hv, hg, hh, h1, h2, h3, h4⟩
  · injection hv with e1 e2 e3
    subst e1; subst e2; subst e3
    exact ⟨hl, Nat.le_refl _, Nat.zero_le _, fun h => absurd h (Nat.lt_irrefl _)⟩
  · have hcell := h.cells (g := g) (by rw [hv]; rfl)
    injection hv with e1 e2 e3
    subst e1; subst e3
    refine rdF_cells hl h1 h2 (blk_lt hh) (fun j u hu => ?_) hb
    have := hcell j u hu
    rwa [show (⟨g, 0, none⟩ : Addr).add j = ⟨g, 0 + j, none⟩ by unfold Addr.add; split <;> simp_all] at this
/-- A literal's row. -/
theorem rdF_lit (w : World) (e : TypeId) (l : List FieldV) (cs : Array Value) (hcs : cs = (fcs l).toArray) (hm : l.length ≤ maxLen) (hb : FB l) : RdF (w.alloc (.cells cs e)) (w.heap.size + 1) (some ⟨w.heap.size, 0, none⟩) l.length l.length l := by
  subst hcs
  refine rdF_cells rfl (Nat.le_refl _) hm (Nat.lt_succ_self _) (fun j u hu => ?_) hb
  rw [World.cell?, show (⟨w.heap.size, 0 + j, none⟩ : Addr).block = w.heap.size from rfl, heap_alloc_new w _]
  simpa using hu
theorem rd_litF (w : World) (e : TypeId) (l : List FieldV) (cs : Array Value) (hcs : cs = (fcs l).toArray) (hm : l.length ≤ maxLen) : Rd (w.alloc (.cells cs e)) (w.heap.size + 1) 4 (some ⟨w.heap.size, 0, none⟩) l.length l.length (fcs l) := by
  subst hcs
  refine ⟨fcs_len l, Nat.le_refl _, hm, fun _ => ⟨_, rfl, Nat.lt_succ_self _, fun j u hu => ?_⟩⟩
  have e1 : (⟨w.heap.size, 0, none⟩ : Addr).add j = ⟨w.heap.size, j, none⟩ := by unfold Addr.add; split <;> simp_all
  rw [e1, World.cell?, show (⟨w.heap.size, j, none⟩ : Addr).block = w.heap.size from rfl, heap_alloc_new w _]
  simpa using hu
theorem own_litF (w : World) (base : Nat) (e : TypeId) (l : List FieldV) (cs : Array Value) (hcs : cs = (fcs l).toArray) (hB : base ≤ w.heap.size) (hm : l.length ≤ maxLen) : (w.alloc (.cells cs e)).ownsRow base e 4 (.slice (some ⟨w.heap.size, 0, none⟩) l.length l.length) l.length (fcs l) := by
  subst hcs
  exact ⟨fcs_len l, .inr ⟨w.heap.size, l.length, _, rfl, hB, heap_alloc_new w _, Nat.le_refl _, hm, by simp [fcs_len], by show List.take _ (fcs l) = _; exact List.take_of_length_le (by rw [fcs_len]; exact Nat.le_refl _)⟩⟩
theorem field_info : (Tryz.prog.info? 130).map (fun i => (i.zero, i.size, i.bytes)) = some (some (.agg #[.int .i64 0, .bool false, .int .i64 0, .int .i64 0]), 4, 32) := by kernel_rfl
/-- A function that lays a row of fields: the row reads, in new memory. -/
def RetF (l : List FieldV) (w : World) (e : Ending) (w' : World) : Prop :=
  ∃ A n c, e = .returned (.slice A n c) ∧ n ≤ 1000 ∧ RdF w' w'.heap.size A n c l ∧ Below w.heap.size w w'

end Go.Proofs.YtmkidihcdljkiaaGreat

/-
  A struct laid cell by cell; what a message taken is.
-/
set_option linter.unusedSimpArgs false
set_option linter.unusedVariables false
namespace Go.Proofs.YtmkidihcdljkiaaGreat
open Go.RowKit NumLaw

theorem shP_none {l : List FieldV} {vs : List Int} (h : shE l vs ≠ 0) : shP l vs = [] := by unfold shP; rw [if_neg h]
end Go.Proofs.YtmkidihcdljkiaaGreat

/-
  Where a walk halts: ahead of a load, or a store, of a certain type.
-/
set_option linter.unusedSimpArgs false
set_option linter.unusedVariables false
namespace Go.Proofs.YtmkidihcdljkiaaGreat
open Go.RowKit

theorem stop_loadT (t : TypeId) {P : Program} {w : World} {ops : Array Oper} {rest : List Oper} {a : Act} {Q : Exit → Act → World → Prop} {d : Option Tmp} {x : Operand} {ty : TypeId} {pos : String} {af : Array Edge}
    (h : Stop (wpList P ops Q (⟨d, .load t x, ty, pos, af, none⟩ :: rest) a w)) : wpList P ops Q (⟨d, .load t x, ty, pos, af, none⟩ :: rest) a w := h
theorem stop_storeT (t : TypeId) {P : Program} {w : World} {ops : Array Oper} {rest : List Oper} {a : Act} {Q : Exit → Act → World → Prop} {x y : Operand} {ty : TypeId} {pos : String} {af : Array Edge}
    (h : Stop (wpList P ops Q (⟨none, .store t x y, ty, pos, af, none⟩ :: rest) a w)) : wpList P ops Q (⟨none, .store t x y, ty, pos, af, none⟩ :: rest) a w := h
theorem al2 (w : World) (o0 o1 : Obj) : ((w.alloc o0).alloc o1).heap[w.heap.size]? = some o0 ∧ ((w.alloc o0).alloc o1).heap[w.heap.size + 1]? = some o1 ∧ ((w.alloc o0).alloc o1).heap.size = w.heap.size + 2 ∧ Below w.heap.size w ((w.alloc o0).alloc o1) := by
  have h0 := heap_alloc_new w o0
  have h1 := heap_alloc_new (w.alloc o0) o1
  have s0 : (w.alloc o0).heap.size = w.heap.size + 1 := World.size_alloc _ _
  have s1 : ((w.alloc o0).alloc o1).heap.size = w.heap.size + 2 := by rw [World.size_alloc, s0]
  rw [s0] at h1
  exact ⟨(heap_alloc_old _ o1 (by omega)).trans h0, h1, s1, ((Below.refl _ _).alloc (Nat.le_refl _) _).alloc (by omega) _⟩
theorem al3 (w : World) (o0 o1 o2 : Obj) : (((w.alloc o0).alloc o1).alloc o2).heap[w.heap.size]? = some o0 ∧ (((w.alloc o0).alloc o1).alloc o2).heap[w.heap.size + 1]? = some o1 ∧ (((w.alloc o0).alloc o1).alloc o2).heap[w.heap.size + 2]? = some o2 ∧
    (((w.alloc o0).alloc o1).alloc o2).heap.size = w.heap.size + 3 ∧ Below w.heap.size w (((w.alloc o0).alloc o1).alloc o2) := by
  obtain ⟨a, b, s, hb⟩ := al2 w o0 o1
  have h := heap_alloc_new ((w.alloc o0).alloc o1) o2
  rw [s] at h
  exact ⟨(heap_alloc_old _ o2 (by omega)).trans a, (heap_alloc_old _ o2 (by omega)).trans b, h, by rw [World.size_alloc, s], hb.alloc hb.size _⟩
theorem al4 (w : World) (o0 o1 o2 o3 : Obj) : ((((w.alloc o0).alloc o1).alloc o2).alloc o3).heap[w.heap.size]? = some o0 ∧ ((((w.alloc o0).alloc o1).alloc o2).alloc o3).heap[w.heap.size + 1]? = some o1 ∧
    ((((w.alloc o0).alloc o1).alloc o2).alloc o3).heap[w.heap.size + 2]? = some o2 ∧ ((((w.alloc o0).alloc o1).alloc o2).alloc o3).heap[w.heap.size + 3]? = some o3 ∧
    ((((w.alloc o0).alloc o1).alloc o2).alloc o3).heap.size = w.heap.size + 4 ∧ Below w.heap.size w ((((w.alloc o0).alloc o1).alloc o2).alloc o3) := by
  obtain ⟨a, b, c, s, hb⟩ := al3 w o0 o1 o2
  have h := heap_alloc_new (((w.alloc o0).alloc o1).alloc o2) o3
  rw [s] at h
  exact ⟨(heap_alloc_old _ o3 (by omega)).trans a, (heap_alloc_old _ o3 (by omega)).trans b, (heap_alloc_old _ o3 (by omega)).trans c, h, by rw [World.size_alloc, s], hb.alloc hb.size _⟩
end Go.Proofs.YtmkidihcdljkiaaGreat

/-
  A guarded load of a struct, whole.
-/
set_option linter.unusedSimpArgs false
set_option linter.unusedVariables false
namespace Go.Proofs.YtmkidihcdljkiaaGreat
open Go.RowKit

theorem stop_loadG (t : TypeId) {P : Program} {w : World} {ops : Array Oper} {rest : List Oper} {a : Act} {Q : Exit → Act → World → Prop} {d : Option Tmp} {x : Operand} {ty : TypeId} {pos : String} {af : Array Edge} {g : Nat × Bool}
    (h : Stop (wpList P ops Q (⟨d, .load t x, ty, pos, af, some g⟩ :: rest) a w)) : wpList P ops Q (⟨d, .load t x, ty, pos, af, some g⟩ :: rest) a w := h
end Go.Proofs.YtmkidihcdljkiaaGreat
