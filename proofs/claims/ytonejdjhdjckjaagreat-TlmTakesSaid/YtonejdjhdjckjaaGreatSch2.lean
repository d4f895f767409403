/-
  inertial walked (printed by gen_sch3.py).
-/
import Derived.Test.YtonejdjhdjckjaaGreatSch1
set_option linter.unusedSimpArgs false
set_option linter.unusedVariables false
namespace Go.Proofs.YtonejdjhdjckjaaGreat
open Go.RowKit NumLaw
attribute [local go_sem] Addr.add_mid

theorem stop_buildF (t : TypeId) {P : Program} {w : World} {ops : Array Oper} {rest : List Oper} {a : Act} {Q : Exit → Act → World → Prop} {d : Option Tmp} {ty : TypeId} {pos : String} {af : Array Edge}
    (h : Stop (wpList P ops Q (⟨d, .build t #[], ty, pos, af, none⟩ :: rest) a w)) : wpList P ops Q (⟨d, .build t #[], ty, pos, af, none⟩ :: rest) a w := h
/-- Parts lie in rows of four cells: a block of two is none of theirs. -/
theorem rdP_set {w : World} {A : Option Addr} {n c g : Nat} {L : List PtT} {t : TypeId} {x y : Value} (h : RdP w w.heap.size A n c L) (hg : w.heap[g]? = some (.cells #[x, y] t)) (cs' : Array Value) : RdP (w.setRow g cs') (w.setRow g cs').heap.size A n c L := by
  unfold RdP at h ⊢
  refine ⟨h.1, h.2.1, h.2.2.1, h.2.2.2.1, fun hn => ?_⟩
  obtain ⟨g', off, e, hlt, hr⟩ := h.2.2.2.2 hn
  have hne : g' ≠ g := fun he => by
    subst he
    have hl : 0 < (L.map ptC).length := by have := h.1; omega
    have hr0 := hr 0 _ (List.getElem?_eq_getElem hl)
    have h14 := h.2.1 _ (List.getElem_mem hl)
    have h13 := hr0 3 _ (List.getElem?_eq_getElem (by rw [h14]; decide))
    simp [World.cell?, hg] at h13
  refine ⟨g', off, e, by rw [setRow_size]; exact hlt, fun k r hk j v hv => ?_⟩
  have := hr k r hk j v hv
  rw [World.cell?] at this ⊢
  rw [show (⟨g', off + k * 4 + j, none⟩ : Addr).block = g' from rfl] at this ⊢
  rw [setRow_other w _ g' _ hne]
  exact this
theorem strs_lit (w : World) (L : List ByteArray) (cs : Array Value) (hcs : cs = (L.map Value.string).toArray) (n : Nat) (hn : L.length = n) (hm : n ≤ 1000) : RdS (w.alloc (.cells cs 9)) (w.alloc (.cells cs 9)).heap.size (some ⟨w.heap.size, 0, none⟩) n n L := by
  have h := RdR.lit (size := 1) (e := 9) w (L.map fun s => [Value.string s]) cs (by
    rw [hcs]
    congr 1
    induction L generalizing cs n with
    | nil => rfl
    | cons s L ih => exact congrArg (List.cons (Value.string s)) (ih _ rfl _ rfl (by simp at hn; omega))) (fun r hr => by obtain ⟨s, _, rfl⟩ := List.mem_map.1 hr; rfl) (by rw [List.length_map, hn]; unfold maxLen; omega) n (by rw [List.length_map, hn])
  have e : (w.alloc (.cells cs 9)).heap.size = w.heap.size + 1 := World.size_alloc _ _
  unfold RdS
  rw [e]
  exact h
set_option maxRecDepth 20000 in
theorem inertial_any (w : World) : Calls Tryz.prog 86 #[] w (RetP (mkP 2 true [⟨#[120, 97, 99, 99]⟩, ⟨#[121, 97, 99, 99]⟩, ⟨#[122, 97, 99, 99]⟩, ⟨#[120, 103, 121, 114, 111]⟩, ⟨#[121, 103, 121, 114, 111]⟩, ⟨#[122, 103, 121, 114, 111]⟩, ⟨#[120, 109, 97, 103]⟩, ⟨#[121, 109, 97, 103]⟩, ⟨#[122, 109, 97, 103]⟩]) w) := by
  have hS := strs_lit w [⟨#[120, 97, 99, 99]⟩, ⟨#[121, 97, 99, 99]⟩, ⟨#[122, 97, 99, 99]⟩, ⟨#[120, 103, 121, 114, 111]⟩, ⟨#[121, 103, 121, 114, 111]⟩, ⟨#[122, 103, 121, 114, 111]⟩, ⟨#[120, 109, 97, 103]⟩, ⟨#[121, 109, 97, 103]⟩, ⟨#[122, 109, 97, 103]⟩] #[.string ⟨#[120, 97, 99, 99]⟩, .string ⟨#[121, 97, 99, 99]⟩, .string ⟨#[122, 97, 99, 99]⟩, .string ⟨#[120, 103, 121, 114, 111]⟩, .string ⟨#[121, 103, 121, 114, 111]⟩, .string ⟨#[122, 103, 121, 114, 111]⟩, .string ⟨#[120, 109, 97, 103]⟩, .string ⟨#[121, 109, 97, 103]⟩, .string ⟨#[122, 109, 97, 103]⟩] rfl 9 rfl (by omega)
  have hbs := (Below.refl w.heap.size w).alloc (Nat.le_refl _) (.cells #[.string ⟨#[120, 97, 99, 99]⟩, .string ⟨#[121, 97, 99, 99]⟩, .string ⟨#[122, 97, 99, 99]⟩, .string ⟨#[120, 103, 121, 114, 111]⟩, .string ⟨#[121, 103, 121, 114, 111]⟩, .string ⟨#[122, 103, 121, 114, 111]⟩, .string ⟨#[120, 109, 97, 103]⟩, .string ⟨#[121, 109, 97, 103]⟩, .string ⟨#[122, 109, 97, 103]⟩] 9)
  have HS := Lib.hid hS
  clear hS
  go_enter Tryz.func86, Tryz.ntmps86
  go_wp2_with fail
  go_fit (i16_any (some ⟨w.heap.size, 0, none⟩) 9 9 [⟨#[120, 97, 99, 99]⟩, ⟨#[121, 97, 99, 99]⟩, ⟨#[122, 97, 99, 99]⟩, ⟨#[120, 103, 121, 114, 111]⟩, ⟨#[121, 103, 121, 114, 111]⟩, ⟨#[122, 103, 121, 114, 111]⟩, ⟨#[120, 109, 97, 103]⟩, ⟨#[121, 109, 97, 103]⟩, ⟨#[122, 109, 97, 103]⟩] _ HS.out (by omega))
  unfold RetP
  rintro e w1 ⟨A1, n1, c1, rfl, hl, own, hb⟩
  have own' := own_mono own hbs.size
  have hb' := bnx hbs hb
  have Hl := Lib.hid hl
  clear own hb HS hbs hl
  go_wp2
  go_ret
  exact ⟨A1, n1, c1, rfl, Hl.out, own', hb'⟩

end Go.Proofs.YtonejdjhdjckjaaGreat
