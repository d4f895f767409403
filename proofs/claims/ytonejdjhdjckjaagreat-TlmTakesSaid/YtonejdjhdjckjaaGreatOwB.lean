/-
  Rows of one cell an element whose block bears a mark behind its end ([]byte(s)): append onto such a row.
-/
import Derived.Test.YtonejdjhdjckjaaGreatStbW
import Derived.ArgAppend
import Derived.Lib.ConvBytes
set_option linter.unusedSimpArgs false
set_option linter.unusedVariables false
namespace Go.Proofs.YtonejdjhdjckjaaGreat
open Go.RowKit

def OwB (w : World) (base : Nat) (e : TypeId) (A : Option Addr) (n c : Nat) (xs : List Value) : Prop :=
  xs.length = n ∧ n ≤ c ∧ c ≤ maxLen ∧ ∃ g cs fr, A = some ⟨g, 0, none⟩ ∧ base ≤ g ∧ w.heap[g]? = some (.cells cs e fr) ∧ cs.size = c ∧ (fr = (0, 0) ∨ c ≤ fr.1) ∧ cs.toList.take n = xs
theorem setCells_heapF (g : Nat) (fr : Nat × Nat) : ∀ (vs : List Value) (o : Nat) (w : World) (l : List Value) (t : TypeId), w.heap[g]? = some (.cells l.toArray t fr) → o + vs.length ≤ l.length →
    (w.setCells g o vs).heap[g]? = some (.cells (l.take o ++ vs ++ l.drop (o + vs.length)).toArray t fr)
  | [], o, w, l, t, h, _ => by
    show w.heap[g]? = _
    rw [h]; simp
  | v :: vs, o, w, l, t, h, hl => by
    have h1 := blk_set (i := o) h v
    rw [List.setIfInBounds_toArray] at h1
    have ih := setCells_heapF g fr vs (o + 1) (w.setCell ⟨g, o, none⟩ v) (l.set o v) t h1 (by rw [List.length_set]; simp at hl; omega)
    show ((w.setCell ⟨g, o, none⟩ v).setCells g (o + 1) vs).heap[g]? = _
    rw [ih]
    have e := list_seg_step l o v vs (by simpa using hl)
    rw [e]
    simp
theorem OwB.up {w w' : World} {base n c : Nat} {e : TypeId} {A : Option Addr} {xs : List Value} (h : OwB w base e A n c xs) (hb : Below w.heap.size w w') : OwB w' base e A n c xs := by
  obtain ⟨h1, h2, h3, g, cs, fr, h4, h5, h6, h7⟩ := h
  exact ⟨h1, h2, h3, g, cs, fr, h4, h5, blk_old h6 hb (blk_lt h6), h7⟩
theorem OwB.drew {w : World} {base n c : Nat} {e : TypeId} {A : Option Addr} {xs : List Value} (h : OwB w base e A n c xs) : OwB w.drew base e A n c xs := h
theorem OwB.rd {w : World} {base n c : Nat} {e : TypeId} {A : Option Addr} {xs : List Value} (h : OwB w base e A n c xs) : Rd w w.heap.size 1 A n c xs := by
  obtain ⟨h1, h2, h3, g, cs, fr, rfl, h5, h6, h7, h8, rfl⟩ := h
  refine ⟨by omega, h2, h3, fun _ => ⟨_, rfl, blk_lt h6, fun j u hu => ?_⟩⟩
  have e1 : (⟨g, 0, none⟩ : Addr).add j = ⟨g, j, none⟩ := by unfold Addr.add; split <;> simp_all
  rw [e1]
  refine blk_cell h6 ?_
  rw [List.getElem?_take] at hu
  split at hu
  · rwa [Array.getElem?_toList] at hu
  · cases hu
theorem OwB.bytes (w : World) (e : TypeId) (s : ByteArray) (base : Nat) (hB : base ≤ w.heap.size) (hm : s.size ≤ maxLen) : OwB (Lib.bytesWorld w e s) base e (some ⟨w.heap.size, 0, none⟩) s.size (grownCap w s.size 0 e) (s.data.toList.map fun b => Value.int .u8 (b.toNat : Int)) := by
  have hge := grownCap_ge w s.size 0 e
  have hsz : (Lib.bytesCells w e s).size = grownCap w s.size 0 e := by
    unfold Lib.bytesCells
    rw [Array.size_append, Array.size_map, Array.size_replicate]
    have : s.data.size = s.size := rfl
    omega
  refine ⟨by rw [List.length_map]; exact Array.length_toList, hge, grownCap_le_maxLen _ _ _ _ hm, w.heap.size, _, _, rfl, hB, Lib.bytesWorld_at_new w e s, hsz, .inr (by rw [hsz]; exact Nat.le_refl _), ?_⟩
  unfold Lib.bytesCells
  rw [Array.toList_append, Array.toList_map, List.take_append_of_le_length (by rw [List.length_map]; exact Nat.le_of_eq Array.length_toList.symm), List.take_of_length_le (by rw [List.length_map]; exact Nat.le_of_eq Array.length_toList)]
theorem OwB.own {w : World} {base n c : Nat} {e : TypeId} {A : Option Addr} {xs : List Value} (h : w.ownsRow base e 1 (.slice A n c) n xs) (hn : 0 < n) : OwB w base e A n c xs := by
  obtain ⟨h1, h2⟩ := h
  rcases h2 with ⟨_, h0⟩ | ⟨g, cap, cur, he, hb, hg, h3, h4, h5, h6⟩
  · omega
  · injection he with e1 e2 e3
    subst e1; subst e3
    exact ⟨by omega, h3, h4, g, cur, (0, 0), rfl, hb, hg, by omega, .inl rfl, by simpa using h6⟩
theorem setCells_size (g : Nat) : ∀ (vs : List Value) (o : Nat) (w : World), (w.setCells g o vs).heap.size = w.heap.size
  | [], _, _ => rfl
  | v :: vs, o, w => by
    show ((w.setCell ⟨g, o, none⟩ v).setCells g (o + 1) vs).heap.size = _
    rw [setCells_size g vs (o + 1)]
    exact Array.size_modify
theorem wpList_appB {P : Program} {w : World} {ops : Array Oper} {rest : List Oper} {a : Act} {Q : Exit → Act → World → Prop} {d : Option Tmp} {s x : Operand} {t ty : TypeId} {pos : String} {af : Array Edge}
    {base : Nat} {e : TypeId} {i : TypeInfo} {z : Value} {bytes : Nat} (ht : P.underlying t = some (.slice e)) (hi : P.info? e = some i ∧ i.zero = some z ∧ i.size = 1 ∧ i.bytes = bytes) (hzs : z.cells.size = 1)
    {A0 : Option Addr} {n c0 : Nat} {xs : List Value} (hown : OwB w base e A0 n c0 xs) (hs : a.eval s = .slice A0 n c0)
    {B : Nat} {A : Option Addr} {m c : Nat} {news : List Value} (hr : Rd w B 1 A m c news) (hm : 0 < m) (hx : a.eval x = .slice A m c) (h1 : ∀ u ∈ news, u.oneCell' = true)
    {k : Nat} {ys : List Value} (hk : n + m = k) (hys : xs ++ news = ys)
    (h63 : k ≤ maxLen) (hbytes : k * bytes ≤ 140737488355328) (hbase : base ≤ w.heap.size)
    (h : ∀ A' c' w', OwB w' base e A' k c' ys → (∀ {B0 : Nat} {w0 : World}, Below B0 w0 w → B0 ≤ base → Below B0 w0 w') → w.heap.size ≤ w'.heap.size → wpList P ops Q rest (a.put d (.slice A' k c')) w') :
    wpList P ops Q (⟨d, .call { callee := .builtin .append, args := #[s, x], argTypes := #[t, t] }, ty, pos, af, none⟩ :: rest) a w := by
  subst hk; subst hys
  obtain ⟨hl, hnc, hcm, g, cs, fr, rfl, hg, hh, hcs, hfr, rfl⟩ := hown
  obtain ⟨hrl, _, _, hra⟩ := hr
  obtain ⟨ad, rfl, hadB, hcell⟩ := hra hm
  have hin : ∀ j, j < c0 → (w.cell? ⟨g, j, none⟩).isSome = true := fun j hj => by
    rw [blk_cell (v := cs[j]'(by omega)) hh (Array.getElem?_eq_getElem (by omega))]; rfl
  have hfz : ∀ j, j < c0 → w.frozen? ⟨g, j, none⟩ = false := fun j hj => by
    rw [World.frozen?, show (⟨g, j, none⟩ : Addr).block = g from rfl, hh]
    rcases hfr with rfl | hfr
    · simp
    · have : ¬ fr.1 ≤ j := by omega
      simp [this]
  have hold : ∀ j u, (cs.toList.take n)[j]? = some u → w.cell? ⟨g, 0 + j, none⟩ = some u := fun j u hu => by
    rw [List.getElem?_take] at hu
    rw [Nat.zero_add]
    split at hu
    · exact blk_cell hh (by rwa [Array.getElem?_toList] at hu)
    · cases hu
  refine wpList_append_arg w rfl s x t rfl e i z 1 bytes ht hi.1 hi.2.1 hi.2.2.1 hi.2.2.2 hzs (by omega) g 0 n c0 (cs.toList.take n) hs (by omega) hold ad m c news hx hrl hcell h1 (fun hroom j hj => ?_) h63 hbytes (fun hroom => ?_) (fun hgrow v' w' own' hgr => ?_)
  · rw [Nat.mul_one, Nat.zero_add]
    exact ⟨hin _ (by omega), hfz _ (by omega)⟩
  · rw [Nat.mul_one, Nat.zero_add]
    have hs2 := setCells_heapF g fr news n w cs.toList e (by simpa using hh) (by have h9 : cs.toList.length = cs.size := Array.length_toList; omega)
    refine h _ _ _ ⟨by rw [List.length_append]; omega, hroom, hcm, g, _, fr, rfl, hg, hs2, ?_, hfr, ?_⟩ (fun hb hB0 => below_setCells (by omega) _ _ _ hb) (Nat.le_of_eq (setCells_size _ _ _ _).symm)
    · simp
      omega
    · simp only [List.append_assoc]
      rw [← List.append_assoc, List.take_append_of_le_length (by rw [List.length_append]; omega), List.take_of_length_le (by rw [List.length_append]; omega)]
  · obtain ⟨A', c', rfl⟩ := own_sl own'
    have hb := Below.grown (Below.refl w.heap.size w) hgr (Nat.le_refl _) (fun j hj => by cases hj)
    have ho := OwB.own own' (by omega)
    obtain ⟨h1, h2, h3, g', cs', fr', h4, h5, h6⟩ := ho
    exact h _ _ _ ⟨h1, h2, h3, g', cs', fr', h4, by omega, h6⟩ (fun hb0 hB0 => Below.grown hb0 hgr (by omega) (fun j hj => by cases hj)) hb.size
end Go.Proofs.YtonejdjhdjckjaaGreat
