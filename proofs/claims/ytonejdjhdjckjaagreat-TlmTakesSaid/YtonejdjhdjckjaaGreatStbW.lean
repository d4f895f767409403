/-
  A block of rows of cells: one row read, one row stored; rows copied into it.
-/
import Derived.Test.YtonejdjhdjckjaaGreatRowR
import Derived.Test.YtonejdjhdjckjaaGreatCells
import Derived.Laws.CopyRow
import Derived.Deep.MidRow
import Derived.OwnWalk
set_option linter.unusedSimpArgs false
set_option linter.unusedVariables false
namespace Go.Proofs.YtonejdjhdjckjaaGreat
open Go.RowKit

def RW (w : World) (g : Nat) (t : TypeId) (rows : List (List Value)) : Prop := w.heap[g]? = some (.cells rows.flatten.toArray t (0, 0))
section
variable {w w' : World} {g : Nat} {t : TypeId} {rows : List (List Value)} {size : Nat}
theorem RW.at_ (h : RW w g t rows) (ha : ∀ r ∈ rows, r.length = size) {k : Nat} {r : List Value} (hk : rows[k]? = some r) : w.rangeAt g (k * size) r := fun j v hv => by
  have hj : j < r.length := (List.getElem?_eq_some_iff.1 hv).1
  have hr := ha r (List.mem_of_getElem? hk)
  refine blk_cell (cs := rows.flatten.toArray) h ?_
  rw [List.getElem?_toArray, flat_at rows k j r ha hk (by omega)]
  exact hv
theorem RW.there (h : RW w g t rows) (ha : ∀ r ∈ rows, r.length = size) {k : Nat} {r : List Value} (hk : rows[k]? = some r) {n : Nat} (hn : n = size) : w.there g (k * size) n := fun j hj => by
  subst hn
  have hr := ha r (List.mem_of_getElem? hk)
  have := h.at_ ha hk j _ (List.getElem?_eq_getElem (by omega))
  exact ⟨by rw [this]; rfl, blk_free (cs := rows.flatten.toArray) h⟩
theorem setCells_heap (g : Nat) : ∀ (vs : List Value) (o : Nat) (w : World) (l : List Value) (t : TypeId), w.heap[g]? = some (.cells l.toArray t (0, 0)) → o + vs.length ≤ l.length →
    (w.setCells g o vs).heap[g]? = some (.cells (l.take o ++ vs ++ l.drop (o + vs.length)).toArray t (0, 0))
  | [], o, w, l, t, h, _ => by
    show w.heap[g]? = _
    rw [h]; simp
  | v :: vs, o, w, l, t, h, hl => by
    have h1 := blk_set (i := o) h v
    rw [List.setIfInBounds_toArray] at h1
    have ih := setCells_heap g vs (o + 1) (w.setCell ⟨g, o, none⟩ v) (l.set o v) t h1 (by rw [List.length_set]; simp at hl; omega)
    show ((w.setCell ⟨g, o, none⟩ v).setCells g (o + 1) vs).heap[g]? = _
    rw [ih]
    have e := list_seg_step l o v vs (by simpa using hl)
    rw [e]
    simp
theorem flatten_set (ha : ∀ r ∈ rows, r.length = size) {k : Nat} {r' : List Value} (hk : k < rows.length) (hr : r'.length = size) :
    rows.flatten.take (k * size) ++ r' ++ rows.flatten.drop (k * size + r'.length) = (rows.set k r').flatten := by
  have h1 : rows = rows.take k ++ rows[k] :: rows.drop (k + 1) := by rw [← List.drop_eq_getElem_cons hk, List.take_append_drop]
  have h2 : (rows.take k).flatten.length = k * size := by
    rw [flat_len (rows.take k) (fun r hr => ha r (List.mem_of_mem_take hr)), List.length_take, Nat.min_eq_left (by omega)]
  have h3 : rows[k].length = size := ha _ (List.getElem_mem hk)
  have h4 : rows.set k r' = rows.take k ++ r' :: rows.drop (k + 1) := by
    rw [List.set_eq_take_append_cons_drop, if_pos hk]
  have h5 : rows.flatten = (rows.take k).flatten ++ (rows[k] ++ (rows.drop (k + 1)).flatten) := by
    conv => lhs; rw [h1]
    rw [List.flatten_append, List.flatten_cons]
  rw [h4, List.flatten_append, List.flatten_cons, h5, List.take_append_of_le_length (by omega), List.take_of_length_le (by omega)]
  have h6 : ((rows.take k).flatten ++ (rows[k] ++ (rows.drop (k + 1)).flatten)).drop (k * size + r'.length) = (rows.drop (k + 1)).flatten := by
    rw [List.drop_append, List.drop_eq_nil_of_le (by omega), List.nil_append, h2, Nat.add_sub_cancel_left, List.drop_append, List.drop_eq_nil_of_le (by omega), List.nil_append, hr, h3, Nat.sub_self, List.drop_zero]
  rw [h6, List.append_assoc]
theorem RW.set (h : RW w g t rows) (ha : ∀ r ∈ rows, r.length = size) {k : Nat} {r' : List Value} (hk : k < rows.length) (hr : r'.length = size) : RW (w.setCells g (k * size) r') g t (rows.set k r') := by
  have hl := flat_len rows ha
  have := setCells_heap g r' (k * size) w rows.flatten t h (by
    rw [hl, hr]
    have := Nat.mul_le_mul_right size (show k + 1 ≤ rows.length by omega)
    rw [Nat.succ_mul] at this
    exact this)
  rw [flatten_set ha hk hr] at this
  exact this
theorem below_setCells {B : Nat} {w0 : World} (hg : B ≤ g) : ∀ (vs : List Value) (o : Nat) (w : World), Below B w0 w → Below B w0 (w.setCells g o vs)
  | [], _, _, h => h
  | v :: vs, o, w, h => below_setCells hg vs (o + 1) _ (h.setCell (p := ⟨g, o, none⟩) hg v)
theorem RW.old {B : Nat} (h : RW w g t rows) (hb : Below B w w') (hg : g < B) : RW w' g t rows := blk_old h hb hg
end
/-- Rows copied over a whole block. -/
theorem run_copy_rows {P : Program} (w : World) (dT sT ty elem : TypeId) (g n dCap : Nat) (a : Addr) (sCap size : Nat) (cur : Array Value) (t : TypeId) (cs : List Value)
    (hu : P.underlying dT = some (.slice elem)) (hs : (P.info? elem).map (·.size) = some size)
    (hg : w.heap[g]? = some (.cells cur t (0, 0))) (hn : cs.length = n * size) (hc : cur.size = n * size)
    (hsrc : ∀ j v, cs[j]? = some v → w.cell? (a.add j) = some v) (h1 : ∀ v ∈ cs, v.oneCell' = true) :
    (Builtin.copy_ #[dT, sT] ty #[.slice (some ⟨g, 0, none⟩) n dCap, .slice (some a) n sCap]).run P w = .ok (goInt n) (w.setRow g cs.toArray) := by
  have hl := run_loadCells_list (P := P) w a cs hsrc
  have hst := run_storeCells_at P g 0 t cs 0 cur w hg (by omega) h1
  have e : (cur.toList.take (0 + 0) ++ cs ++ cur.toList.drop (0 + 0 + cs.length)) = cs := by
    rw [List.drop_eq_nil_of_le (by rw [Array.length_toList]; omega)]; simp
  rw [e] at hst
  cases hq : P.info? elem with
  | none => simp [hq] at hs
  | some i =>
    have hi : i.size = size := by simpa [hq] using hs
    simp [Builtin.copy_, run_underlying hu, Builtin.lenOf, Builtin.firstCells, sizeOf, typeInfo, hq, hi, ← hn, hl, hst]

theorem run_copy_zero {P : Program} (w : World) (dT sT ty elem : TypeId) (d a : Option Addr) (dCap sCap : Nat) (hu : P.underlying dT = some (.slice elem)) {i : TypeInfo} (hq : P.info? elem = some i) :
    (Builtin.copy_ #[dT, sT] ty #[.slice d 0 dCap, .slice a 0 sCap]).run P w = .ok (goInt 0) w := by
  have hl : ∀ (x : Addr), (loadCells x 0).run P w = .ok #[] w := fun x => by simpa using run_loadCells_list (P := P) w x [] (by simp)
  cases d <;> cases a <;> simp [Builtin.copy_, run_underlying hu, Builtin.lenOf, Builtin.firstCells, sizeOf, typeInfo, hq, storeCells, hl]
/-- Rows copied over a whole block: the block has these rows. -/
theorem run_copy_RW {P : Program} {w : World} {dT sT ty elem : TypeId} {g n dCap sCap size B : Nat} {A : Option Addr} {cur : Array Value} {t : TypeId} {rows : List (List Value)}
    (hu : P.underlying dT = some (.slice elem)) {i : TypeInfo} (hq : P.info? elem = some i) (hs : i.size = size) (h0 : 0 < size)
    (hg : w.heap[g]? = some (.cells cur t (0, 0))) (hc : cur.size = n * size) (h : RdR w B size A n sCap rows) (h1 : ∀ u ∈ rows.flatten, u.oneCell' = true) :
    ∃ w', (Builtin.copy_ #[dT, sT] ty #[.slice (some ⟨g, 0, none⟩) n dCap, .slice A n sCap]).run P w = .ok (goInt n) w' ∧ RW w' g t rows ∧ ∀ (B0 : Nat) (w0 : World), Below B0 w0 w → B0 ≤ g → Below B0 w0 w' := by
  have hl : rows.length = n := h.1
  have hfl : rows.flatten.length = n * size := by rw [flat_len rows h.2.1, hl]
  rcases Nat.eq_zero_or_pos n with hn | hn
  · subst hn
    have hr : rows = [] := List.eq_nil_of_length_eq_zero hl
    subst hr
    refine ⟨w, run_copy_zero w dT sT ty elem _ A dCap sCap hu hq, ?_, fun _ _ h _ => h⟩
    unfold RW
    rw [hg]
    have : cur = #[] := Array.eq_empty_of_size_eq_zero (by rw [hc]; simp)
    rw [this]; rfl
  · obtain ⟨ad, rfl, hb, hcell⟩ := (RdR.rd h h0).at_ hn
    refine ⟨_, run_copy_rows w dT sT ty elem g n dCap ad sCap size cur t rows.flatten hu (by rw [hq, ← hs]; rfl) hg hfl hc hcell h1, ?_, fun B0 w0 hb0 hB => below_setRow hb0 hB _⟩
    exact setRow_heap _ _ _ _ _ _ hg
theorem wpList_copy_run' {P : Program} {w w' : World} {ops : Array Oper} {rest : List Oper} {a : Act} {Q : Exit → Act → World → Prop} {d : Option Tmp} {x y : Operand} {t t' ty : TypeId} {pos : String} {af : Array Edge} {v u r : Value}
    (hx : a.eval x = v) (hy : a.eval y = u) (hr : (Builtin.copy_ #[t, t'] ty #[v, u]).run P w = .ok r w') (h : wpList P ops Q rest (a.put d r) w') : wpList P ops Q (⟨d, .call { callee := .builtin .copy, args := #[x, y], argTypes := #[t, t'] }, ty, pos, af, none⟩ :: rest) a w :=
  wpList_plain rfl fun _ hK => by
    unfold Oper.wp execOp
    simp only [resolve, invoke, builtin, Sem.run_bind, Sem.run_pure, Result.andThen_ok, List.map_toArray, List.map_cons, List.map_nil, hx, hy, hr]
    exact hK _ _ h
theorem own_full {w : World} {base g n : Nat} {e : TypeId} {size : Nat} {xs : List Value} (h : w.ownsRow base e size (.slice (some ⟨g, 0, none⟩) n n) n xs) : ∃ cur, w.heap[g]? = some (.cells cur e (0, 0)) ∧ cur.size = n * size ∧ base ≤ g := by
  rcases h.2 with ⟨hv, _⟩ | ⟨g', cap, cur, hv, hb, hg, _, _, hs, _⟩
  · cases hv
  · injection hv with e1 _ e3
    injection e1 with e1
    injection e1 with e1 _ _
    subst e1
    subst e3
    exact ⟨cur, hg, hs, hb⟩
theorem stop_makeR {P : Program} {w : World} {ops : Array Oper} {rest : List Oper} {a : Act} {Q : Exit → Act → World → Prop} {d : Option Tmp} {t ty : TypeId} {x y : Operand} {pos : String} {af : Array Edge}
    (h : Stop (wpList P ops Q (⟨d, .makeSlice t x y, ty, pos, af, none⟩ :: rest) a w)) : wpList P ops Q (⟨d, .makeSlice t x y, ty, pos, af, none⟩ :: rest) a w := h
theorem stop_copyR {P : Program} {w : World} {ops : Array Oper} {rest : List Oper} {a : Act} {Q : Exit → Act → World → Prop} {d : Option Tmp} {ar : Array Operand} {ts : Array TypeId} {ty : TypeId} {pos : String} {af : Array Edge} {g : Option (Nat × Bool)}
    (h : Stop (wpList P ops Q (⟨d, .call { callee := .builtin .copy, args := ar, argTypes := ts }, ty, pos, af, g⟩ :: rest) a w)) : wpList P ops Q (⟨d, .call { callee := .builtin .copy, args := ar, argTypes := ts }, ty, pos, af, g⟩ :: rest) a w := h
/-- The rows of a block, as a slice. -/
theorem RW.rd {w : World} {g n : Nat} {t : TypeId} {rows : List (List Value)} {size : Nat} (h : RW w g t rows) (ha : ∀ r ∈ rows, r.length = size) (hl : rows.length = n) (hm : n ≤ maxLen) : RdR w w.heap.size size (some ⟨g, 0, none⟩) n n rows := by
  refine ⟨hl, ha, Nat.le_refl _, hm, fun _ => ⟨g, 0, rfl, blk_lt h, fun k r hk => ?_⟩⟩
  rw [Nat.zero_add]
  exact h.at_ ha hk

end Go.Proofs.YtonejdjhdjckjaaGreat
