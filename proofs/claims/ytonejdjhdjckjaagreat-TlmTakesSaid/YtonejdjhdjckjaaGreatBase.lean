/-
  Words for memory that the walks over this seat share: a slice that reads as a list ('Rd'), bytes as cells ('bv'), append onto a row of the call's own from whatever source, bytes turned to a string, and the row's last step over 'Below'.
-/
import Derived.Test.YtonejdjhdjckjaaGreatRows
import Derived.WalkKit
import Derived.WalkSpells
import Derived.WalkLawsBesides
import Derived.Deep.AppendLies
import Derived.Deep.Draws
import Derived.Deep.MidRow
import Derived.Maps.AppendAt
import Derived.Lib.Hide
import Derived.Handy
import Derived.Lib.SlBytesConst
set_option linter.unusedSimpArgs false
set_option linter.unusedVariables false
namespace Go.Proofs.YtonejdjhdjckjaaGreat
open Go.RowKit

/-- Halts a walk in front of an operation. -/
def Stop (p : Prop) : Prop := p
theorem stop_ {p : Prop} (h : Stop p) : p := h
theorem go_ {p : Prop} (h : p) : Stop p := h

theorem ret_int {k : IntKind} {a b : Int} (h : a = b) : Ending.returned (.int k a) = .returned (.int k b) := by rw [h]
theorem val_int {k : IntKind} {a b : Int} (h : a = b) : Value.int k a = .int k b := by rw [h]
theorem cast_ {a b : Nat} (h : a = b) : (a : Int) = (b : Int) := by rw [h]

theorem blk_add (a : Addr) (n : Nat) : (a.add n).block = a.block := by unfold Addr.add; split <;> rfl
theorem addr_add (a : Addr) (i j : Nat) : (a.add i).add j = a.add (i + j) := by
  unfold Addr.add
  by_cases hi : i = 0 <;> by_cases hj : j = 0 <;> simp [hi, hj, Nat.add_assoc]
theorem addr_zero (a : Addr) : a.add 0 = a := by simp [Addr.add]

/-- Bytes as cells. -/
def bv (l : List UInt8) : List Value := l.map fun x => .int .u8 (x.toNat : Int)
theorem bv_len (l : List UInt8) : (bv l).length = l.length := by simp [bv]
theorem bv_app (a b : List UInt8) : bv (a ++ b) = bv a ++ bv b := by simp [bv]
theorem bv_take (l : List UInt8) (k : Nat) : bv (l.take k) = (bv l).take k := by simp [bv]
theorem bv_drop (l : List UInt8) (k : Nat) : bv (l.drop k) = (bv l).drop k := by simp [bv]
theorem bv_one (l : List UInt8) : ∀ u ∈ bv l, u.oneCell' = true := by
  intro u hu
  obtain ⟨x, _, rfl⟩ := List.mem_map.1 hu
  rfl
theorem bv_at {l : List UInt8} {k : Nat} {x : UInt8} (h : l[k]? = some x) : (bv l)[k]? = some (.int .u8 (x.toNat : Int)) := by simp [bv, h]
theorem take_succ {α : Type} {l : List α} {k : Nat} {x : α} (h : l[k]? = some x) : l.take (k + 1) = l.take k ++ [x] := by
  rw [List.take_add_one, h]; rfl

/-- The slice value '.slice A n c' holds the cells xs (size cells an element) and lies below block B. -/
structure Rd (w : World) (B size : Nat) (A : Option Addr) (n c : Nat) (xs : List Value) : Prop where
  len : xs.length = n * size
  le : n ≤ c
  max : c ≤ maxLen
  at_ : 0 < n → ∃ ad, A = some ad ∧ ad.block < B ∧ ∀ j u, xs[j]? = some u → w.cell? (ad.add j) = some u

section
variable {w w' : World} {B B' size n c : Nat} {A : Option Addr} {xs : List Value} {l : List UInt8}
theorem Rd.none_ (w : World) (B size : Nat) : Rd w B size none 0 0 [] := ⟨by simp, Nat.le_refl _, Nat.zero_le _, fun h => absurd h (Nat.lt_irrefl _)⟩
theorem Rd.keep (h : Rd w B size A n c xs) (hk : ∀ p : Addr, p.block < B → w'.cell? p = w.cell? p) : Rd w' B size A n c xs :=
  ⟨h.len, h.le, h.max, fun hn => by
    obtain ⟨ad, e, hb, hc⟩ := h.at_ hn
    exact ⟨ad, e, hb, fun j u hu => (hk _ (by rw [blk_add]; exact hb)).trans (hc j u hu)⟩⟩
theorem Rd.more (h : Rd w B size A n c xs) (hB : B ≤ B') : Rd w B' size A n c xs :=
  ⟨h.len, h.le, h.max, fun hn => by
    obtain ⟨ad, e, hb, hc⟩ := h.at_ hn
    exact ⟨ad, e, by omega, hc⟩⟩
/-- Later, where nothing below B has turned. -/
theorem Rd.up (h : Rd w B size A n c xs) (hb : Below B w w') : Rd w' B size A n c xs := h.keep fun _ hp => hb.cell hp
theorem Rd.nx (h : Rd w w.heap.size size A n c xs) (hb : Below w.heap.size w w') : Rd w' w'.heap.size size A n c xs := (h.up hb).more hb.size
theorem Rd.one (h : Rd w B 1 A n c xs) {k : Nat} (hk : k < n) : ∃ ad u, A = some ad ∧ xs[k]? = some u ∧ w.cell? (ad.add k) = some u := by
  obtain ⟨ad, e, hb, hc⟩ := h.at_ (by omega)
  have hl : k < xs.length := by have := h.len; omega
  exact ⟨ad, xs[k], e, List.getElem?_eq_getElem hl, hc k _ (List.getElem?_eq_getElem hl)⟩
theorem Rd.blen (h : Rd w B 1 A n c (bv l)) : l.length = n := by have := h.len; rw [bv_len] at this; omega
theorem Rd.byte (h : Rd w B 1 A n c (bv l)) {k : Nat} (hk : k < n) : ∃ ad x, A = some ad ∧ l[k]? = some x ∧ w.cell? (ad.add k) = some (.int .u8 (x.toNat : Int)) := by
  obtain ⟨ad, e, hb, hc⟩ := h.at_ (by omega)
  have hl : k < l.length := by have := h.blen; omega
  exact ⟨ad, l[k], e, List.getElem?_eq_getElem hl, hc k _ (bv_at (List.getElem?_eq_getElem hl))⟩
/-- s[k:] -/
theorem Rd.drop (h : Rd w B size A n c xs) {k : Nat} (hk : k ≤ n) : Rd w B size (if c = k then A else A.map (·.add (k * size))) (n - k) (c - k) (xs.drop (k * size)) := by
  refine ⟨by rw [List.length_drop, h.len, Nat.sub_mul], by have := h.le; omega, by have := h.max; omega, fun hn => ?_⟩
  obtain ⟨ad, rfl, hb, hcell⟩ := h.at_ (by omega)
  rw [if_neg (by have := h.le; omega)]
  refine ⟨ad.add (k * size), rfl, by rw [blk_add]; exact hb, fun j u hu => ?_⟩
  rw [addr_add]
  exact hcell _ u (by rw [← hu, List.getElem?_drop])
/-- s[:k] -/
theorem Rd.take (h : Rd w B size A n c xs) {k : Nat} (hk : k ≤ n) : Rd w B size A k c (xs.take (k * size)) := by
  refine ⟨by rw [List.length_take, h.len]; exact Nat.min_eq_left (Nat.mul_le_mul_right _ hk), by have := h.le; omega, h.max, fun hn => ?_⟩
  obtain ⟨ad, rfl, hb, hcell⟩ := h.at_ (by omega)
  refine ⟨ad, rfl, hb, fun j u hu => hcell j u ?_⟩
  rw [List.getElem?_take] at hu
  split at hu
  · exact hu
  · cases hu
theorem Rd.of_own {base : Nat} {e : TypeId} {v : Value} (h : w.ownsRow base e size v n xs) : ∃ A c, v = .slice A n c ∧ Rd w w.heap.size size A n c xs := by
  rcases h.2 with ⟨rfl, rfl⟩ | ⟨g, cap, cur, rfl, hg, hh, h1, h2, h3, h4⟩
  · refine ⟨none, 0, rfl, ?_⟩
    have : xs = [] := List.eq_nil_of_length_eq_zero (by simpa using h.1)
    subst this
    exact Rd.none_ _ _ _
  · refine ⟨_, _, rfl, h.1, h1, h2, fun hn => ⟨_, rfl, ?_, h.cells (g := g) rfl⟩⟩
    rcases Nat.lt_or_ge g w.heap.size with hlt | hge
    · exact hlt
    · rw [Array.getElem?_eq_none hge] at hh; cases hh
/-- What is owned reads, below any block that lies above it. -/
theorem Rd.own {base : Nat} {e : TypeId} (h : w.ownsRow base e size (.slice A n c) n xs) : Rd w w.heap.size size A n c xs := by
  obtain ⟨A', c', hv, hr⟩ := Rd.of_own h
  injection hv with h1 h2 h3
  subst h1; subst h3
  exact hr
end

theorem own_sl {w : World} {base : Nat} {e : TypeId} {size : Nat} {v : Value} {n : Nat} {xs : List Value} (h : w.ownsRow base e size v n xs) : ∃ A c, v = .slice A n c := by
  obtain ⟨A, c, hv, _⟩ := Rd.of_own h
  exact ⟨A, c, hv⟩
/-- What is owned stays owned where nothing below a block above it has turned. -/
theorem own_up {w w' : World} {base B : Nat} {e : TypeId} {size : Nat} {v : Value} {n : Nat} {xs : List Value} (h : w.ownsRow base e size v n xs) (hb : Below B w w') (hB : w.heap.size ≤ B) : w'.ownsRow base e size v n xs := by
  refine ⟨h.1, ?_⟩
  rcases h.2 with h2 | ⟨g, cap, cur, hv, hg, hh, r⟩
  · exact .inl h2
  · refine .inr ⟨g, cap, cur, hv, hg, ?_, r⟩
    rw [hb.block g ?_]
    · exact hh
    · rcases Nat.lt_or_ge g w.heap.size with hlt | hge
      · omega
      · rw [Array.getElem?_eq_none hge] at hh; cases hh
theorem own_mono {w : World} {base base' : Nat} {e : TypeId} {size : Nat} {v : Value} {n : Nat} {xs : List Value} (h : w.ownsRow base e size v n xs) (hB : base' ≤ base) : w.ownsRow base' e size v n xs := by
  refine ⟨h.1, ?_⟩
  rcases h.2 with h2 | ⟨g, cap, cur, hv, hg, r⟩
  · exact .inl h2
  · exact .inr ⟨g, cap, cur, hv, by omega, r⟩
theorem own_len {w : World} {base : Nat} {e : TypeId} {v : Value} {n : Nat} {l : List UInt8} (h : w.ownsRow base e 1 v n (bv l)) : l.length = n := by
  have := h.1; rw [bv_len] at this; omega
/-- The empty row that '[]T{}' makes. -/
theorem own_empty (w : World) (base : Nat) (e : TypeId) (hB : base ≤ w.heap.size) (size : Nat) : (w.alloc (.cells #[] e)).ownsRow base e size (.slice (some ⟨w.heap.size, 0, none⟩) 0 0) 0 [] :=
  ⟨by simp, .inr ⟨w.heap.size, 0, #[], rfl, hB, heap_alloc_new w _, Nat.le_refl _, Nat.zero_le _, by simp, by simp⟩⟩
/-- A row just made. -/
theorem own_new (w : World) (base : Nat) (e : TypeId) (cs : List Value) (hB : base ≤ w.heap.size) (hm : cs.length ≤ maxLen) :
    (w.alloc (.cells cs.toArray e)).ownsRow base e 1 (.slice (some ⟨w.heap.size, 0, none⟩) cs.length cs.length) cs.length cs :=
  ⟨by simp, .inr ⟨w.heap.size, cs.length, cs.toArray, rfl, hB, heap_alloc_new w _, Nat.le_refl _, hm, by simp, by simp⟩⟩

/-- A literal's row of bytes, marked or not. -/
theorem rd_const (w : World) (e : TypeId) (l : List UInt8) (fr : Nat × Nat) (hm : l.length ≤ maxLen) : Rd (w.alloc (.cells (bv l).toArray e fr)) (w.heap.size + 1) 1 (some ⟨w.heap.size, 0, none⟩) l.length l.length (bv l) := by
  refine ⟨by simp [bv], Nat.le_refl _, hm, fun _ => ⟨_, rfl, Nat.lt_succ_self _, fun j u hu => ?_⟩⟩
  have e1 : (⟨w.heap.size, 0, none⟩ : Addr).add j = ⟨w.heap.size, j, none⟩ := by unfold Addr.add; split <;> simp_all
  rw [e1, World.cell?, show (⟨w.heap.size, j, none⟩ : Addr).block = w.heap.size from rfl, heap_alloc_new w _]
  simpa using hu

theorem below_all {B : Nat} {w w' : World} (h : Below w.heap.size w w') (hB : B ≤ w.heap.size) : Below B w w' := h.mono hB
theorem below_nx {B : Nat} {a w w' : World} (h : Below B a w) (hB : B ≤ w.heap.size) (hb : Below w.heap.size w w') : Below B a w' := h.trans (hb.mono hB)
/-- One step more, from the world at which a function began. -/
theorem bnx {a w w' : World} (h : Below a.heap.size a w) (hb : Below w.heap.size w w') : Below a.heap.size a w' := h.trans (hb.mono h.size)
/-- One step more, a block laid ahead of it. -/
theorem bnxa {a w w' : World} {o : Obj} (h : Below a.heap.size a w) (hb : Below (w.heap.size + 1) (w.alloc o) w') : Below a.heap.size a w' := (h.alloc h.size o).trans (hb.mono (by have := h.size; omega))
theorem below_drewN {B : Nat} {a w : World} (h : Below B a w) (n : Nat) : Below B a (w.drewN n) := ⟨h.os, h.tape, h.output, h.size, h.block⟩
/-- Behind append: what was there below the call's own stands. -/
theorem below_app {B base : Nat} {a w w' : World} {e : TypeId} {size : Nat} {v : Value} {n : Nat} {xs : List Value} (h : Below B a w) (hown : w.ownsRow base e size v n xs) (hg : w.grownBy w' v.ownBlock) (hB : B ≤ w.heap.size) (hb : B ≤ base) : Below B a w' := by
  refine h.grown hg hB fun k hk => ?_
  rcases hown.2 with ⟨rfl, _⟩ | ⟨g, cap, cur, rfl, hg', _⟩
  · simp [Value.ownBlock] at hk
  · simp [Value.ownBlock] at hk; omega

section
variable {P : Program}
/-- append from whatever source. -/
theorem run_app (w : World) (base : Nat) (t ty e : TypeId) (i : TypeInfo) (z : Value) (size bytes : Nat) (ht : P.underlying t = some (.slice e)) (hi : P.info? e = some i) (hz : i.zero = some z)
    (hsize : i.size = size) (hby : i.bytes = bytes) (hzs : z.cells.size = size) (hsz : 0 < size)
    (v : Value) (n : Nat) (xs : List Value) (hown : w.ownsRow base e size v n xs)
    (B : Nat) (A : Option Addr) (m c : Nat) (news : List Value) (hr : Rd w B size A m c news) (h1 : ∀ u ∈ news, u.oneCell' = true)
    (h63 : n + m ≤ maxLen) (hbytes : (n + m) * bytes ≤ 140737488355328) (hbase : base ≤ w.heap.size) :
    ∃ v' w', (Builtin.append_ #[t, t] ty #[v, .slice A m c]).run P w = .ok v' w' ∧ w'.ownsRow base e size v' (n + m) (xs ++ news) ∧ w.grownBy w' v.ownBlock ∧
      (v'.ownBlock = v.ownBlock ∨ v'.ownBlock = some w.heap.size) := by
  cases A with
  | none =>
    obtain rfl : m = 0 := by
      rcases Nat.eq_zero_or_pos m with h0 | h0
      · exact h0
      · obtain ⟨ad, h, _⟩ := hr.at_ h0; cases h
    obtain rfl : news = [] := List.eq_nil_of_length_eq_zero (by simpa using hr.len)
    refine ⟨v, w, ?_, by simpa using hown, ⟨rfl, rfl, rfl, Nat.le_refl _, fun _ _ _ => rfl⟩, .inl rfl⟩
    rcases hown.2 with ⟨rfl, rfl⟩ | ⟨g, cap, cur, rfl, _, _, hnc, _⟩
    · simp [Builtin.append_, run_underlying ht, sizeOf, typeInfo, hi, Builtin.lenOf, Builtin.firstCells]
    · simp [Builtin.append_, run_underlying ht, sizeOf, typeInfo, hi, Builtin.lenOf, Builtin.firstCells, hnc, storeCells]
  | some ad =>
    have hcells : ∀ j u, news[j]? = some u → w.cell? (ad.add j) = some u := by
      rcases Nat.eq_zero_or_pos m with rfl | h0
      · obtain rfl : news = [] := List.eq_nil_of_length_eq_zero (by simpa using hr.len)
        intro j u hu; simp at hu
      · obtain ⟨ad', h, _, hc⟩ := hr.at_ h0
        injection h with h; subst h; exact hc
    obtain ⟨v', w', hrun, h2, h3, _, h5⟩ := run_append_own_at (P := P) w base t ty e i z size bytes ht hi hz hsize hby hzs hsz v n xs hown ad m c news hr.len hcells h1 h63 hbytes hbase
    exact ⟨v', w', hrun, h2, h3, h5⟩

theorem wpList_app {w : World} {ops : Array Oper} {rest : List Oper} {a : Act} {Q : Exit → Act → World → Prop} {d : Option Tmp} {s x : Operand} {t ty : TypeId} {pos : String} {af : Array Edge}
    {base : Nat} {e : TypeId} {i : TypeInfo} {z : Value} {size bytes : Nat} (ht : P.underlying t = some (.slice e)) (hi : P.info? e = some i ∧ i.zero = some z ∧ i.size = size ∧ i.bytes = bytes) (hzs : z.cells.size = size) (hsz : 0 < size)
    {v : Value} {n : Nat} {xs : List Value} (hown : w.ownsRow base e size v n xs) (hs : a.eval s = v)
    {B : Nat} {A : Option Addr} {m c : Nat} {news : List Value} (hr : Rd w B size A m c news) (hx : a.eval x = .slice A m c) (h1 : ∀ u ∈ news, u.oneCell' = true)
    {k : Nat} {ys : List Value} (hk : n + m = k) (hys : xs ++ news = ys)
    (h63 : k ≤ maxLen) (hbytes : k * bytes ≤ 140737488355328) (hbase : base ≤ w.heap.size)
    (h : ∀ A' c' w', w'.ownsRow base e size (.slice A' k c') k ys → (∀ {B0 : Nat} {w0 : World}, Below B0 w0 w → B0 ≤ w.heap.size → B0 ≤ base → Below B0 w0 w') → wpList P ops Q rest (a.put d (.slice A' k c')) w') :
    wpList P ops Q (⟨d, .call { callee := .builtin .append, args := #[s, x], argTypes := #[t, t] }, ty, pos, af, none⟩ :: rest) a w := by
  subst hk; subst hys
  refine wpList_plain rfl fun _ hK => ?_
  obtain ⟨v', w', hrun, h2, h3, h4⟩ := run_app (P := P) w base t ty e i z size bytes ht hi.1 hi.2.1 hi.2.2.1 hi.2.2.2 hzs hsz v n xs hown B A m c news hr h1 h63 hbytes hbase
  obtain ⟨A', c', rfl⟩ := own_sl h2
  unfold Oper.wp execOp
  simp only [resolve, invoke, builtin, Sem.run_bind, Sem.run_pure, Result.andThen_ok, List.map_toArray, List.map_cons, List.map_nil, hs, hx, hrun]
  exact hK _ _ (h A' c' w' h2 (fun hb hB h0 => below_app hb hown h3 hB h0))

/-- Where s[k:] begins. -/
def cutA (A : Option Addr) (c k size : Nat) : Option Addr := if c = k then A else A.map (·.add (k * size))
theorem Rd.drop' {w : World} {B size n c : Nat} {A : Option Addr} {xs : List Value} (h : Rd w B size A n c xs) {k : Nat} (hk : k ≤ n) : Rd w B size (cutA A c k size) (n - k) (c - k) (xs.drop (k * size)) := h.drop hk
theorem Rd.bdrop {w : World} {B n c : Nat} {A : Option Addr} {l : List UInt8} (h : Rd w B 1 A n c (bv l)) {k : Nat} (hk : k ≤ n) : Rd w B 1 (cutA A c k 1) (n - k) (c - k) (bv (l.drop k)) := by
  have := h.drop' hk
  rwa [Nat.mul_one, ← bv_drop] at this
theorem Rd.btake {w : World} {B n c : Nat} {A : Option Addr} {l : List UInt8} (h : Rd w B 1 A n c (bv l)) {k : Nat} (hk : k ≤ n) : Rd w B 1 A k c (bv (l.take k)) := by
  have := h.take hk
  rwa [Nat.mul_one, ← bv_take] at this
theorem elem_of {t e : TypeId} (ht : P.underlying t = some (.slice e)) : P.elem t = e := by simp [Program.elem, ht]
theorem run_cut_h {t e : TypeId} {i : TypeInfo} (ht : P.underlying t = some (.slice e)) (hi : P.info? e = some i) (A : Option Addr) (n c h : Nat) (hc : h ≤ c) (w : World) :
    (Instr.slice t (.slice A n c) none (some (.int .i64 (h : Int))) none).run P w = .ok (.slice A h c) w := by
  rw [run_slice_h w t A n c (by rw [elem_of ht]; exact ht) .i64 h (by omega) (by omega), elem_of ht]
  simp [sizeOf, typeInfo, hi, sliced]
  intro _
  cases A <;> simp [Addr.add]
theorem run_cut_l {t e : TypeId} {i : TypeInfo} {size : Nat} (ht : P.underlying t = some (.slice e)) (hi : P.info? e = some i) (hs : i.size = size) (A : Option Addr) (n c k : Nat) (hk : k ≤ n) (w : World) :
    (Instr.slice t (.slice A n c) (some (.int .i64 (k : Int))) none none).run P w = .ok (.slice (cutA A c k size) (n - k) (c - k)) w := by
  rw [run_slice_l w t A n c (by rw [elem_of ht]; exact ht) .i64 k (by omega) (by omega), elem_of ht]
  simp [sizeOf, typeInfo, hi, sliced, cutA, hs]
theorem run_cut_lh {t e : TypeId} {i : TypeInfo} {size : Nat} (ht : P.underlying t = some (.slice e)) (hi : P.info? e = some i) (hs : i.size = size) (A : Option Addr) (n c k h : Nat) (hk : k ≤ h) (hc : h ≤ c) (w : World) :
    (Instr.slice t (.slice A n c) (some (.int .i64 (k : Int))) (some (.int .i64 (h : Int))) none).run P w = .ok (.slice (cutA A c k size) (h - k) (c - k)) w := by
  rw [run_slice_lh w t A n c (by rw [elem_of ht]; exact ht) .i64 .i64 k h (by omega) (by omega) (by omega), elem_of ht]
  simp [sizeOf, typeInfo, hi, sliced, cutA, hs]

theorem run_cut_hm {t e : TypeId} {i : TypeInfo} (ht : P.underlying t = some (.slice e)) (hi : P.info? e = some i) (A : Option Addr) (n c h : Nat) (hc : h ≤ c) (w : World) :
    (Instr.slice t (.slice A n c) none (some (.int .i64 (h : Int))) (some (.int .i64 (h : Int)))).run P w = .ok (.slice A h h) w := by
  rw [run_slice_hm w t A n c (by rw [elem_of ht]; exact ht) .i64 .i64 h h (by omega) (by omega) (by omega), elem_of ht]
  simp [sizeOf, typeInfo, hi, sliced]
  intro _
  cases A <;> simp [Addr.add]

/-- append whose run is known. -/
theorem wpList_app_run {w w' : World} {ops : Array Oper} {rest : List Oper} {a : Act} {Q : Exit → Act → World → Prop} {d : Option Tmp} {s x : Operand} {ts : Array TypeId} {ty : TypeId} {pos : String} {af : Array Edge}
    {v y r : Value} (hs : a.eval s = v) (hx : a.eval x = y) (hrun : (Builtin.append_ ts ty #[v, y]).run P w = .ok r w') (h : wpList P ops Q rest (a.put d r) w') :
    wpList P ops Q (⟨d, .call { callee := .builtin .append, args := #[s, x], argTypes := ts }, ty, pos, af, none⟩ :: rest) a w := by
  refine wpList_plain rfl fun _ hK => ?_
  unfold Oper.wp execOp
  simp only [resolve, invoke, builtin, Sem.run_bind, Sem.run_pure, Result.andThen_ok, List.map_toArray, List.map_cons, List.map_nil, hs, hx, hrun]
  exact hK _ _ h

/-- string(b) -/
theorem run_str (w : World) (src dst e : TypeId) (hs : P.underlying src = some (.slice e)) (he : P.underlying e = some (.int .u8)) (hd : P.underlying dst = some .string) {B : Nat} {A : Option Addr} {n c : Nat} {l : List UInt8} (h : Rd w B 1 A n c (bv l)) :
    (convert src dst (.slice A n c)).run P w = .ok (.string ⟨l.toArray⟩) w := by
  cases A with
  | none =>
    have hn : n = 0 := by
      rcases Nat.eq_zero_or_pos n with h0 | h0
      · exact h0
      · obtain ⟨ad, h, _⟩ := h.at_ h0; cases h
    obtain rfl : l = [] := List.eq_nil_of_length_eq_zero (by rw [h.blen, hn])
    rw [run_convert_bytes_string w src dst e _ n c hs he hd]
    simp [Conv.bytesToString]
    rfl
  | some ad =>
    have hcell : ∀ j u, (bv l)[j]? = some u → w.cell? (ad.add j) = some u := by
      rcases Nat.eq_zero_or_pos n with h0 | h0
      · obtain rfl : l = [] := List.eq_nil_of_length_eq_zero (by rw [h.blen, h0])
        intro j u hu; simp [bv] at hu
      · obtain ⟨ad', h, _, hc⟩ := h.at_ h0
        injection h with h; subst h; exact hc
    have hl : (loadCells ad n).run P w = .ok ((l.map fun x => (x.toNat : Int)).map (Value.int .u8)).toArray w := by
      have := run_loadCells_list (P := P) w ad (bv l) hcell
      rw [bv_len, h.blen] at this
      simpa [bv, Function.comp_def] using this
    rw [run_convert_bytes_string w src dst e _ n c hs he hd, run_bytesToString w _ n c _ hl, foldl_push_bytes]
    simp [ByteArray.empty, ByteArray.emptyWithCapacity, Function.comp_def]
    rfl

theorem wpList_str {w : World} {ops : Array Oper} {rest : List Oper} {a : Act} {Q : Exit → Act → World → Prop} {d : Option Tmp} {x : Operand} {src dst ty : TypeId} {pos : String} {af : Array Edge}
    {e : TypeId} (hs : P.underlying src = some (.slice e)) (he : P.underlying e = some (.int .u8)) (hd : P.underlying dst = some .string) {B : Nat} {A : Option Addr} {n c : Nat} {l : List UInt8} (h : Rd w B 1 A n c (bv l))
    (hx : a.eval x = .slice A n c) (hk : wpList P ops Q rest (a.put d (.string ⟨l.toArray⟩)) w) : wpList P ops Q (⟨d, .convert src dst x, ty, pos, af, none⟩ :: rest) a w := by
  refine wpList_plain rfl fun _ hK => ?_
  unfold Oper.wp execOp
  simp only [hx]
  rw [show (convert src dst (Value.slice A n c)) = (convert src dst (Value.slice A n c)) from rfl]
  simp only [Sem.run_bind, Sem.run_pure, Result.andThen_ok, run_str w src dst e hs he hd h]
  exact hK _ _ hk

theorem stop_str {w : World} {ops : Array Oper} {rest : List Oper} {a : Act} {Q : Exit → Act → World → Prop} {d : Option Tmp} {x : Operand} {src dst ty : TypeId} {pos : String} {af : Array Edge} {g : Option (Nat × Bool)}
    (h : Stop (wpList P ops Q (⟨d, .convert src dst x, ty, pos, af, g⟩ :: rest) a w)) : wpList P ops Q (⟨d, .convert src dst x, ty, pos, af, g⟩ :: rest) a w := h
theorem stop_app {w : World} {ops : Array Oper} {rest : List Oper} {a : Act} {Q : Exit → Act → World → Prop} {d : Option Tmp} {ar : Array Operand} {ts : Array TypeId} {ty : TypeId} {pos : String} {af : Array Edge} {g : Option (Nat × Bool)}
    (h : Stop (wpList P ops Q (⟨d, .call { callee := .builtin .append, args := ar, argTypes := ts }, ty, pos, af, g⟩ :: rest) a w)) : wpList P ops Q (⟨d, .call { callee := .builtin .append, args := ar, argTypes := ts }, ty, pos, af, g⟩ :: rest) a w := h
end

/-! ### A block whose cells are known -/
theorem blk_cell {w : World} {g e : Nat} {cs : Array Value} {fr : Nat × Nat} {i : Nat} {v : Value} (h : w.heap[g]? = some (.cells cs e fr)) (hi : cs[i]? = some v) : w.cell? ⟨g, i, none⟩ = some v := by
  rw [World.cell?, show (⟨g, i, none⟩ : Addr).block = g from rfl, h]; exact hi
theorem blk_free {w : World} {g e : Nat} {cs : Array Value} {i : Nat} (h : w.heap[g]? = some (.cells cs e)) : w.frozen? ⟨g, i, none⟩ = false := by
  rw [World.frozen?, show (⟨g, i, none⟩ : Addr).block = g from rfl, h]; simp
theorem blk_set {w : World} {g i : Nat} {cs : Array Value} {t : TypeId} {fr : Nat × Nat} (h : w.heap[g]? = some (.cells cs t fr)) (v : Value) : (w.setCell ⟨g, i, none⟩ v).heap[g]? = some (.cells (cs.setIfInBounds i v) t fr) := by
  obtain ⟨hlt, hk⟩ := Array.getElem?_eq_some_iff.1 h
  show (w.heap.modify g _)[g]? = _
  rw [Array.getElem?_eq_getElem (by rw [Array.size_modify]; exact hlt), Array.getElem_modify_self, hk]
  rfl
theorem blk_new2 (w : World) (o1 o2 : Obj) : ((w.alloc o1).alloc o2).heap[w.heap.size + 1]? = some o2 := by
  have := heap_alloc_new (w.alloc o1) o2
  rwa [World.size_alloc] at this
theorem blk_old {w w' : World} {g : Nat} {o : Obj} {B : Nat} (h : w.heap[g]? = some o) (hb : Below B w w') (hg : g < B) : w'.heap[g]? = some o := (hb.block g hg).trans h

theorem own_set {w : World} {base : Nat} {e : TypeId} {size n : Nat} {v : Value} {xs : List Value} (h : w.ownsRow base e size v n xs) {g i : Nat} (hg : g < base) (u : Value) : (w.setCell ⟨g, i, none⟩ u).ownsRow base e size v n xs := ownsRow_setCell_below h hg u

theorem own_range {w : World} {g e : Nat} {cs : Array Value} {fr : Nat × Nat} {l : List Value} (h : w.heap[g]? = some (.cells cs e fr)) (o : Nat) (hl : ∀ j v, l[j]? = some v → cs[o + j]? = some v) : w.rangeAt g o l := fun j v hv => blk_cell h (hl j v hv)

theorem Rd.drew {w : World} {B size n c : Nat} {A : Option Addr} {xs : List Value} (h : Rd w B size A n c xs) : Rd w.drew B size A n c xs := h.keep fun _ _ => rfl
theorem range_drew {w : World} {b o : Nat} {cs : List Value} (h : w.rangeAt b o cs) : w.drew.rangeAt b o cs := h

/-- append, and how memory has turned. -/
theorem wpList_appG {P : Program} {w : World} {ops : Array Oper} {rest : List Oper} {a : Act} {Q : Exit → Act → World → Prop} {d : Option Tmp} {s x : Operand} {t ty : TypeId} {pos : String} {af : Array Edge}
    {base : Nat} {e : TypeId} {i : TypeInfo} {z : Value} {size bytes : Nat} (ht : P.underlying t = some (.slice e)) (hi : P.info? e = some i ∧ i.zero = some z ∧ i.size = size ∧ i.bytes = bytes) (hzs : z.cells.size = size) (hsz : 0 < size)
    {v : Value} {n : Nat} {xs : List Value} (hown : w.ownsRow base e size v n xs) (hs : a.eval s = v)
    {B : Nat} {A : Option Addr} {m c : Nat} {news : List Value} (hr : Rd w B size A m c news) (hx : a.eval x = .slice A m c) (h1 : ∀ u ∈ news, u.oneCell' = true)
    {k : Nat} {ys : List Value} (hk : n + m = k) (hys : xs ++ news = ys)
    (h63 : k ≤ maxLen) (hbytes : k * bytes ≤ 140737488355328) (hbase : base ≤ w.heap.size)
    (h : ∀ A' c' w', w'.ownsRow base e size (.slice A' k c') k ys → w.grownBy w' v.ownBlock → ((Value.slice A' k c').ownBlock = v.ownBlock ∨ (Value.slice A' k c').ownBlock = some w.heap.size) → wpList P ops Q rest (a.put d (.slice A' k c')) w') :
    wpList P ops Q (⟨d, .call { callee := .builtin .append, args := #[s, x], argTypes := #[t, t] }, ty, pos, af, none⟩ :: rest) a w := by
  subst hk; subst hys
  refine wpList_plain rfl fun _ hK => ?_
  obtain ⟨v', w', hrun, h2, h3, h4⟩ := run_app (P := P) w base t ty e i z size bytes ht hi.1 hi.2.1 hi.2.2.1 hi.2.2.2 hzs hsz v n xs hown B A m c news hr h1 h63 hbytes hbase
  obtain ⟨A', c', rfl⟩ := own_sl h2
  unfold Oper.wp execOp
  simp only [resolve, invoke, builtin, Sem.run_bind, Sem.run_pure, Result.andThen_ok, List.map_toArray, List.map_cons, List.map_nil, hs, hx, hrun]
  exact hK _ _ (h A' c' w' h2 h3 h4)

end Go.Proofs.YtonejdjhdjckjaaGreat
