/-
  Where a walk halts: ahead of a load, or a store, of a certain type.
-/
import Derived.Test.YtonejdjhdjckjaaGreatCells
import Derived.Laws.Rows
set_option linter.unusedSimpArgs false
set_option linter.unusedVariables false
namespace Go.Proofs.YtonejdjhdjckjaaGreat
open Go.RowKit

theorem stop_loadT (t : TypeId) {P : Program} {w : World} {ops : Array Oper} {rest : List Oper} {a : Act} {Q : Exit → Act → World → Prop} {d : Option Tmp} {x : Operand} {ty : TypeId} {pos : String} {af : Array Edge}
    (h : Stop (wpList P ops Q (⟨d, .load t x, ty, pos, af, none⟩ :: rest) a w)) : wpList P ops Q (⟨d, .load t x, ty, pos, af, none⟩ :: rest) a w := h
theorem stop_storeT (t : TypeId) {P : Program} {w : World} {ops : Array Oper} {rest : List Oper} {a : Act} {Q : Exit → Act → World → Prop} {x y : Operand} {ty : TypeId} {pos : String} {af : Array Edge}
    (h : Stop (wpList P ops Q (⟨none, .store t x y, ty, pos, af, none⟩ :: rest) a w)) : wpList P ops Q (⟨none, .store t x y, ty, pos, af, none⟩ :: rest) a w := h
theorem al2 (w : World) (o0 o1 : Obj) : ((w.alloc o0).alloc o1).heap[w.heap.size]? = some o0 ∧ ((w.alloc o0).alloc o1).heap[w.heap.size + 1]? = some o1 ∧ ((w.alloc o0).alloc o1).heap.size = w.heap.size + 2 ∧ Below w.heap.size w ((w.alloc o0).alloc o1) := by
  have h0 := heap_alloc_new w o0
  have h1 := heap_alloc_new (w.alloc o0) o1
  have s0 : (w.alloc o0).heap.size = w.heap.size + 1 := World.size_alloc _ _
  have s1 : ((w.alloc o0).alloc o1).heap.size = w.heap.size + 2 := by rw [World.size_alloc, s0]
  rw [s0] at h1
  exact ⟨(heap_alloc_old _ o1 (by omega)).trans h0, h1, s1, ((Below.refl _ _).alloc (Nat.le_refl _) _).alloc (by omega) _⟩
theorem al3 (w : World) (o0 o1 o2 : Obj) : (((w.alloc o0).alloc o1).alloc o2).heap[w.heap.size]? = some o0 ∧ (((w.alloc o0).alloc o1).alloc o2).heap[w.heap.size + 1]? = some o1 ∧ (((w.alloc o0).alloc o1).alloc o2).heap[w.heap.size + 2]? = some o2 ∧
    (((w.alloc o0).alloc o1).alloc o2).heap.size = w.heap.size + 3 ∧ Below w.heap.size w (((w.alloc o0).alloc o1).alloc o2) := by
  obtain ⟨a, b, s, hb⟩ := al2 w o0 o1
  have h := heap_alloc_new ((w.alloc o0).alloc o1) o2
  rw [s] at h
  exact ⟨(heap_alloc_old _ o2 (by omega)).trans a, (heap_alloc_old _ o2 (by omega)).trans b, h, by rw [World.size_alloc, s], hb.alloc hb.size _⟩
theorem al4 (w : World) (o0 o1 o2 o3 : Obj) : ((((w.alloc o0).alloc o1).alloc o2).alloc o3).heap[w.heap.size]? = some o0 ∧ ((((w.alloc o0).alloc o1).alloc o2).alloc o3).heap[w.heap.size + 1]? = some o1 ∧
    ((((w.alloc o0).alloc o1).alloc o2).alloc o3).heap[w.heap.size + 2]? = some o2 ∧ ((((w.alloc o0).alloc o1).alloc o2).alloc o3).heap[w.heap.size + 3]? = some o3 ∧
    ((((w.alloc o0).alloc o1).alloc o2).alloc o3).heap.size = w.heap.size + 4 ∧ Below w.heap.size w ((((w.alloc o0).alloc o1).alloc o2).alloc o3) := by
  obtain ⟨a, b, c, s, hb⟩ := al3 w o0 o1 o2
  have h := heap_alloc_new (((w.alloc o0).alloc o1).alloc o2) o3
  rw [s] at h
  exact ⟨(heap_alloc_old _ o3 (by omega)).trans a, (heap_alloc_old _ o3 (by omega)).trans b, (heap_alloc_old _ o3 (by omega)).trans c, h, by rw [World.size_alloc, s], hb.alloc hb.size _⟩
theorem al5 (w : World) (o0 o1 o2 o3 o4 : Obj) : (((((w.alloc o0).alloc o1).alloc o2).alloc o3).alloc o4).heap[w.heap.size]? = some o0 ∧ (((((w.alloc o0).alloc o1).alloc o2).alloc o3).alloc o4).heap[w.heap.size + 1]? = some o1 ∧
    (((((w.alloc o0).alloc o1).alloc o2).alloc o3).alloc o4).heap[w.heap.size + 2]? = some o2 ∧ (((((w.alloc o0).alloc o1).alloc o2).alloc o3).alloc o4).heap[w.heap.size + 3]? = some o3 ∧ (((((w.alloc o0).alloc o1).alloc o2).alloc o3).alloc o4).heap[w.heap.size + 4]? = some o4 ∧
    (((((w.alloc o0).alloc o1).alloc o2).alloc o3).alloc o4).heap.size = w.heap.size + 5 ∧ Below w.heap.size w (((((w.alloc o0).alloc o1).alloc o2).alloc o3).alloc o4) := by
  obtain ⟨a, b, c, s, hb⟩ := al3 w o0 o1 o2
  obtain ⟨d, e, s2, hb2⟩ := al2 (((w.alloc o0).alloc o1).alloc o2) o3 o4
  rw [s] at d e s2 hb2
  have hk : ∀ k, k < w.heap.size + 3 → _ := fun k hk => hb2.block k hk
  exact ⟨(hk _ (by omega)).trans a, (hk _ (by omega)).trans b, (hk _ (by omega)).trans c, d, e, s2, hb.trans (hb2.mono (by omega))⟩
/-- A struct that lies whole in its block, and a value beside it, handed back. -/
theorem results_cell2 {P : Program} {fn : Func} {p q : Tmp} {ty : TypeId} (h : fn.results = #[.cell p ty, .tmp q]) (tmps : Array Value) (w : World) (g : Nat) (t : TypeId) (cs : Array Value) (fr : Nat × Nat) (d : TypeDesc)
    (hp : tmps.getD p undef = .pointer (some ⟨g, 0, none⟩)) (hg : w.heap[g]? = some (.cells cs t fr))
    (hu : P.underlying ty = some d) (hd : (match d with | .struct _ | .array _ _ => true | _ => false) = true) (hi : (P.info? ty).map (·.size) = some cs.size) :
    (results fn tmps).run P w = .ok (.tuple #[.agg cs, tmps.getD q undef]) w := by
  have hp' : tmps[p]?.getD undef = .pointer (some ⟨g, 0, none⟩) := by simpa using hp
  simp [results, h, hp', asAddr, run_loadVar_row w g t ty cs fr d hg hu hd hi]

end Go.Proofs.YtonejdjhdjckjaaGreat
