/-
  Several texts in one: Base Open OpenRow Slices NumLaw OctRow Order OctIter OctWrite OctWr2 OctRef Orders RowR.
-/
import Derived.Test.YtmkidihcdljkiaaGreatRows
import Derived.WalkKit
import Derived.WalkSpells
import Derived.WalkLawsBesides
import Derived.Deep.AppendLies
import Derived.Deep.Draws
import Derived.Deep.MidRow
import Derived.Maps.AppendAt
import Derived.Lib.Hide
import Derived.Handy
import Derived.Lib.SlBytesConst
import Derived.ProofKit
import Derived.OpenShut
import Derived.ShutString
import Derived.ChangeOld
import Derived.Deep.Slices
import Derived.Deep.Fields
import Derived.Lib.SliceRun
import Derived.Deep.DeepFit
import Derived.Deep.RegionWith
import Derived.RegionTactic
import Derived.Test.YtmkidihcdljkiaaGreatKPRangeFn
import Derived.RangeFuncNested
import Derived.RangeFuncBound
import Derived.Shelf.Abstract
import Derived.Shelf.RegionOpen
import Derived.OwnWalkIn
import Derived.TacticsInMore
import Derived.LoopNIn
import Derived.LoopIn
import Derived.Deep.RegionHeld3
import Derived.Deep.QuietTactic
import Derived.BigQuiet
/-
  Words for memory that the walks over this seat share: a slice that reads as a list ('Rd'), bytes as cells ('bv'), append onto a row of the call's own from whatever source, bytes turned to a string, and the row's last step over 'Below'.
-/
set_option linter.unusedSimpArgs false
set_option linter.unusedVariables false
namespace Go.Proofs.YtmkidihcdljkiaaGreat
open Go.RowKit

/-- Halts a walk in front of an operation. -/
def Stop (p : Prop) : Prop := p
theorem stop_ {p : Prop} (h : Stop p) : p := h
theorem go_ {p : Prop} (h : p) : Stop p := h

theorem ret_int {k : IntKind} {a b : Int} (h : a = b) : Ending.returned (.int k a) = .returned (.int k b) := by rw [h]
theorem val_int {k : IntKind} {a b : Int} (h : a = b) : Value.int k a = .int k b := by rw [h]
theorem blk_add (a : Addr) (n : Nat) : (a.add n).block = a.block := by unfold Addr.add; split <;> rfl
theorem addr_add (a : Addr) (i j : Nat) : (a.add i).add j = a.add (i + j) := by
  unfold Addr.add
  by_cases hi : i = 0 <;> by_cases hj : j = 0 <;> simp [hi, hj, Nat.add_assoc]
theorem addr_zero (a : Addr) : a.add 0 = a := by simp [Addr.add]

/-- Bytes as cells. -/
def bv (l : List UInt8) : List Value := l.map fun x => .int .u8 (x.toNat : Int)
theorem bv_len (l : List UInt8) : (bv l).length = l.length := by simp [bv]
theorem bv_app (a b : List UInt8) : bv (a ++ b) = bv a ++ bv b := by simp [bv]
theorem bv_one (l : List UInt8) : ∀ u ∈ bv l, u.oneCell' = true := by
  intro u hu
  obtain ⟨x, _, rfl⟩ := List.mem_map.1 hu
  rfl
theorem bv_at {l : List UInt8} {k : Nat} {x : UInt8} (h : l[k]? = some x) : (bv l)[k]? = some (.int .u8 (x.toNat : Int)) := by simp [bv, h]
theorem take_succ {α : Type} {l : List α} {k : Nat} {x : α} (h : l[k]? = some x) : l.take (k + 1) = l.take k ++ [x] := by
  rw [List.take_add_one, h]; rfl

/-- The slice value '.slice A n c' holds the cells xs (size cells an element) and lies below block B. -/
structure Rd (w : World) (B size : Nat) (A : Option Addr) (n c : Nat) (xs : List Value) : Prop where
  len : xs.length = n * size
  le : n ≤ c
  max : c ≤ maxLen
  at_ : 0 < n → ∃ ad, A = some ad ∧ ad.block < B ∧ ∀ j u, xs[j]? = some u → w.cell? (ad.add j) = some u

section
variable {w w' : World} {B B' size n c : Nat} {A : Option Addr} {xs : List Value} {l : List UInt8}
theorem Rd.none_ (w : World) (B size : Nat) : Rd w B size none 0 0 [] := ⟨by simp, Nat.le_refl _, Nat.zero_le _, fun h => absurd h (Nat.lt_irrefl _)⟩
theorem Rd.keep (h : Rd w B size A n c xs) (hk : ∀ p : Addr, p.block < B → w'.cell? p = w.cell? p) : Rd w' B size A n c xs :=
  ⟨h.len, h.le, h.max, fun hn => by
    obtain ⟨ad, e, hb, hc⟩ := h.at_ hn
    exact ⟨ad, e, hb, fun j u hu => (hk _ (by rw [blk_add]; exact hb)).trans (hc j u hu)⟩⟩
theorem Rd.more (h : Rd w B size A n c xs) (hB : B ≤ B') : Rd w B' size A n c xs :=
  ⟨h.len, h.le, h.max, fun hn => by
    obtain ⟨ad, e, hb, hc⟩ := h.at_ hn
    exact ⟨ad, e, by omega, hc⟩⟩
/-- Later, where nothing below B has turned. -/
theorem Rd.up (h : Rd w B size A n c xs) (hb : Below B w w') : Rd w' B size A n c xs := h.keep fun _ hp => hb.cell hp
theorem Rd.nx (h : Rd w w.heap.size size A n c xs) (hb : Below w.heap.size w w') : Rd w' w'.heap.size size A n c xs := (h.up hb).more hb.size
theorem Rd.one (h : Rd w B 1 A n c xs) {k : Nat} (hk : k < n) : ∃ ad u, A = some ad ∧ xs[k]? = some u ∧ w.cell? (ad.add k) = some u := by
  obtain ⟨ad, e, hb, hc⟩ := h.at_ (by omega)
  have hl : k < xs.length := by have := h.len; omega
  exact ⟨ad, xs[k], e, List.getElem?_eq_getElem hl, hc k _ (List.getElem?_eq_getElem hl)⟩
theorem Rd.blen (h : Rd w B 1 A n c (bv l)) : l.length = n := by have := h.len; rw [bv_len] at this; omega
theorem Rd.byte (h : Rd w B 1 A n c (bv l)) {k : Nat} (hk : k < n) : ∃ ad x, A = some ad ∧ l[k]? = some x ∧ w.cell? (ad.add k) = some (.int .u8 (x.toNat : Int)) := by
  obtain ⟨ad, e, hb, hc⟩ := h.at_ (by omega)
  have hl : k < l.length := by have := h.blen; omega
  exact ⟨ad, l[k], e, List.getElem?_eq_getElem hl, hc k _ (bv_at (List.getElem?_eq_getElem hl))⟩
/-- s[k:] -/
theorem Rd.drop (h : Rd w B size A n c xs) {k : Nat} (hk : k ≤ n) : Rd w B size (if c = k then A else A.map (·.add (k * size))) (n - k) (c - k) (xs.drop (k * size)) := by
  refine ⟨by rw [List.length_drop, h.len, Nat.sub_mul], by have := h.le; omega, by have := h.max; omega, fun hn => ?_⟩
  obtain ⟨ad, rfl, hb, hcell⟩ := h.at_ (by omega)
  rw [if_neg (by have := h.le; omega)]
  refine ⟨ad.add (k * size), rfl, by rw [blk_add]; exact hb, fun j u hu => ?_⟩
  rw [addr_add]
  exact hcell _ u (by rw [← hu, List.getElem?_drop])
/-- s[:k] -/
theorem Rd.take (h : Rd w B size A n c xs) {k : Nat} (hk : k ≤ n) : Rd w B size A k c (xs.take (k * size)) := by
  refine ⟨by rw [List.length_take, h.len]; exact Nat.min_eq_left (Nat.mul_le_mul_right _ hk), by have := h.le; omega, h.max, fun hn => ?_⟩
  obtain ⟨ad, rfl, hb, hcell⟩ := h.at_ (by omega)
  refine ⟨ad, rfl, hb, fun j u hu => hcell j u ?_⟩
  rw [List.getElem?_take] at hu
  split at hu
  · exact hu
  · cases hu
theorem Rd.of_own {base : Nat} {e : TypeId} {v : Value} (h : w.ownsRow base e size v n xs) : ∃ A c, v = .slice A n c ∧ Rd w w.heap.size size A n c xs := by
  rcases h.2 with ⟨rfl, rfl⟩ | ⟨g, cap, cur, rfl, hg, hh, h1, h2, h3, h4⟩
  · refine ⟨none, 0, rfl, ?_⟩
    have : xs = [] := List.eq_nil_of_length_eq_zero (by simpa using h.1)
    subst this
    exact Rd.none_ _ _ _
  · refine ⟨_, _, rfl, h.1, h1, h2, fun hn => ⟨_, rfl, ?_, h.cells (g := g) rfl⟩⟩
    rcases Nat.lt_or_ge g w.heap.size with hlt | hge
    · exact hlt
    · rw [Array.getElem?_eq_none hge] at hh; cases hh
/-- What is owned reads, below any block that lies above it. -/
theorem Rd.own {base : Nat} {e : TypeId} (h : w.ownsRow base e size (.slice A n c) n xs) : Rd w w.heap.size size A n c xs := by
  obtain ⟨A', c', hv, hr⟩ := Rd.of_own h
  injection hv with h1 h2 h3
  subst h1; subst h3
  exact hr
end

theorem own_sl {w : World} {base : Nat} {e : TypeId} {size : Nat} {v : Value} {n : Nat} {xs : List Value} (h : w.ownsRow base e size v n xs) : ∃ A c, v = .slice A n c := by
  obtain ⟨A, c, hv, _⟩ := Rd.of_own h
  exact ⟨A, c, hv⟩
/-- What is owned stays owned where nothing below a block above it has turned. -/
theorem own_up {w w' : World} {base B : Nat} {e : TypeId} {size : Nat} {v : Value} {n : Nat} {xs : List Value} (h : w.ownsRow base e size v n xs) (hb : Below B w w') (hB : w.heap.size ≤ B) : w'.ownsRow base e size v n xs := by
  refine ⟨h.1, ?_⟩
  rcases h.2 with h2 | ⟨g, cap, cur, hv, hg, hh, r⟩
  · exact .inl h2
  · refine .inr ⟨g, cap, cur, hv, hg, ?_, r⟩
    rw [hb.block g ?_]
    · exact hh
    · rcases Nat.lt_or_ge g w.heap.size with hlt | hge
      · omega
      · rw [Array.getElem?_eq_none hge] at hh; cases hh
theorem own_mono {w : World} {base base' : Nat} {e : TypeId} {size : Nat} {v : Value} {n : Nat} {xs : List Value} (h : w.ownsRow base e size v n xs) (hB : base' ≤ base) : w.ownsRow base' e size v n xs := by
  refine ⟨h.1, ?_⟩
  rcases h.2 with h2 | ⟨g, cap, cur, hv, hg, r⟩
  · exact .inl h2
  · exact .inr ⟨g, cap, cur, hv, by omega, r⟩
theorem own_len {w : World} {base : Nat} {e : TypeId} {v : Value} {n : Nat} {l : List UInt8} (h : w.ownsRow base e 1 v n (bv l)) : l.length = n := by
  have := h.1; rw [bv_len] at this; omega
/-- The empty row that '[]T{}' makes. -/
theorem own_empty (w : World) (base : Nat) (e : TypeId) (hB : base ≤ w.heap.size) (size : Nat) : (w.alloc (.cells #[] e)).ownsRow base e size (.slice (some ⟨w.heap.size, 0, none⟩) 0 0) 0 [] :=
  ⟨by simp, .inr ⟨w.heap.size, 0, #[], rfl, hB, heap_alloc_new w _, Nat.le_refl _, Nat.zero_le _, by simp, by simp⟩⟩
/-- A row just made. -/
theorem own_new (w : World) (base : Nat) (e : TypeId) (cs : List Value) (hB : base ≤ w.heap.size) (hm : cs.length ≤ maxLen) :
    (w.alloc (.cells cs.toArray e)).ownsRow base e 1 (.slice (some ⟨w.heap.size, 0, none⟩) cs.length cs.length) cs.length cs :=
  ⟨by simp, .inr ⟨w.heap.size, cs.length, cs.toArray, rfl, hB, heap_alloc_new w _, Nat.le_refl _, hm, by simp, by simp⟩⟩

/-- A literal's row of bytes, marked or not. -/
theorem rd_const (w : World) (e : TypeId) (l : List UInt8) (fr : Nat × Nat) (hm : l.length ≤ maxLen) : Rd (w.alloc (.cells (bv l).toArray e fr)) (w.heap.size + 1) 1 (some ⟨w.heap.size, 0, none⟩) l.length l.length (bv l) := by
  refine ⟨by simp [bv], Nat.le_refl _, hm, fun _ => ⟨_, rfl, Nat.lt_succ_self _, fun j u hu => ?_⟩⟩
  have e1 : (⟨w.heap.size, 0, none⟩ : Addr).add j = ⟨w.heap.size, j, none⟩ := by unfold Addr.add; split <;> simp_all
  rw [e1, World.cell?, show (⟨w.heap.size, j, none⟩ : Addr).block = w.heap.size from rfl, heap_alloc_new w _]
  simpa using hu

/-- One step more, from the world at which a function began. -/
theorem bnx {a w w' : World} (h : Below a.heap.size a w) (hb : Below w.heap.size w w') : Below a.heap.size a w' := h.trans (hb.mono h.size)
theorem below_drewN {B : Nat} {a w : World} (h : Below B a w) (n : Nat) : Below B a (w.drewN n) := ⟨h.os, h.tape, h.output, h.size, h.block⟩
/-- Behind append: what was there below the call's own stands. -/
theorem below_app {B base : Nat} {a w w' : World} {e : TypeId} {size : Nat} {v : Value} {n : Nat} {xs : List Value} (h : Below B a w) (hown : w.ownsRow base e size v n xs) (hg : w.grownBy w' v.ownBlock) (hB : B ≤ w.heap.size) (hb : B ≤ base) : Below B a w' := by
  refine h.grown hg hB fun k hk => ?_
  rcases hown.2 with ⟨rfl, _⟩ | ⟨g, cap, cur, rfl, hg', _⟩
  · simp [Value.ownBlock] at hk
  · simp [Value.ownBlock] at hk; omega

section
variable {P : Program}
/-- append from whatever source. -/
theorem run_app (w : World) (base : Nat) (t ty e : TypeId) (i : TypeInfo) (z : Value) (size bytes : Nat) (ht : P.underlying t = some (.slice e)) (hi : P.info? e = some i) (hz : i.zero = some z)
    (hsize : i.size = size) (hby : i.bytes = bytes) (hzs : z.cells.size = size) (hsz : 0 < size)
    (v : Value) (n : Nat) (xs : List Value) (hown : w.ownsRow base e size v n xs)
    (B : Nat) (A : Option Addr) (m c : Nat) (news : List Value) (hr : Rd w B size A m c news) (h1 : ∀ u ∈ news, u.oneCell' = true)
    (h63 : n + m ≤ maxLen) (hbytes : (n + m) * bytes ≤ 140737488355328) (hbase : base ≤ w.heap.size) :
    ∃ v' w', (Builtin.append_ #[t, t] ty #[v, .slice A m c]).run P w = .ok v' w' ∧ w'.ownsRow base e size v' (n + m) (xs ++ news) ∧ w.grownBy w' v.ownBlock ∧
      (v'.ownBlock = v.ownBlock ∨ v'.ownBlock = some w.heap.size) := by
  cases A with
  | none =>
    obtain rfl : m = 0 := by
      rcases Nat.eq_zero_or_pos m with h0 | h0
      · exact h0
      · obtain ⟨ad, h, _⟩ := hr.at_ h0; cases h
    obtain rfl : news = [] := List.eq_nil_of_length_eq_zero (by simpa using hr.len)
    refine ⟨v, w, ?_, by simpa using hown, ⟨rfl, rfl, rfl, Nat.le_refl _, fun _ _ _ => rfl⟩, .inl rfl⟩
    rcases hown.2 with ⟨rfl, rfl⟩ | ⟨g, cap, cur, rfl, _, _, hnc, _⟩
    · simp [Builtin.append_, run_underlying ht, sizeOf, typeInfo, hi, Builtin.lenOf, Builtin.firstCells]
    · simp [Builtin.append_, run_underlying ht, sizeOf, typeInfo, hi, Builtin.lenOf, Builtin.firstCells, hnc, storeCells]
  | some ad =>
    have hcells : ∀ j u, news[j]? = some u → w.cell? (ad.add j) = some u := by
      rcases Nat.eq_zero_or_pos m with rfl | h0
      · obtain rfl : news = [] := List.eq_nil_of_length_eq_zero (by simpa using hr.len)
        intro j u hu; simp at hu
      · obtain ⟨ad', h, _, hc⟩ := hr.at_ h0
        injection h with h; subst h; exact hc
    obtain ⟨v', w', hrun, h2, h3, _, h5⟩ := run_append_own_at (P := P) w base t ty e i z size bytes ht hi hz hsize hby hzs hsz v n xs hown ad m c news hr.len hcells h1 h63 hbytes hbase
    exact ⟨v', w', hrun, h2, h3, h5⟩

theorem wpList_app {w : World} {ops : Array Oper} {rest : List Oper} {a : Act} {Q : Exit → Act → World → Prop} {d : Option Tmp} {s x : Operand} {t ty : TypeId} {pos : String} {af : Array Edge}
    {base : Nat} {e : TypeId} {i : TypeInfo} {z : Value} {size bytes : Nat} (ht : P.underlying t = some (.slice e)) (hi : P.info? e = some i ∧ i.zero = some z ∧ i.size = size ∧ i.bytes = bytes) (hzs : z.cells.size = size) (hsz : 0 < size)
    {v : Value} {n : Nat} {xs : List Value} (hown : w.ownsRow base e size v n xs) (hs : a.eval s = v)
    {B : Nat} {A : Option Addr} {m c : Nat} {news : List Value} (hr : Rd w B size A m c news) (hx : a.eval x = .slice A m c) (h1 : ∀ u ∈ news, u.oneCell' = true)
    {k : Nat} {ys : List Value} (hk : n + m = k) (hys : xs ++ news = ys)
    (h63 : k ≤ maxLen) (hbytes : k * bytes ≤ 140737488355328) (hbase : base ≤ w.heap.size)
    (h : ∀ A' c' w', w'.ownsRow base e size (.slice A' k c') k ys → (∀ {B0 : Nat} {w0 : World}, Below B0 w0 w → B0 ≤ w.heap.size → B0 ≤ base → Below B0 w0 w') → wpList P ops Q rest (a.put d (.slice A' k c')) w') :
    wpList P ops Q (⟨d, .call { callee := .builtin .append, args := #[s, x], argTypes := #[t, t] }, ty, pos, af, none⟩ :: rest) a w := by
  subst hk; subst hys
  refine wpList_plain rfl fun _ hK => ?_
  obtain ⟨v', w', hrun, h2, h3, h4⟩ := run_app (P := P) w base t ty e i z size bytes ht hi.1 hi.2.1 hi.2.2.1 hi.2.2.2 hzs hsz v n xs hown B A m c news hr h1 h63 hbytes hbase
  obtain ⟨A', c', rfl⟩ := own_sl h2
  unfold Oper.wp execOp
  simp only [resolve, invoke, builtin, Sem.run_bind, Sem.run_pure, Result.andThen_ok, List.map_toArray, List.map_cons, List.map_nil, hs, hx, hrun]
  exact hK _ _ (h A' c' w' h2 (fun hb hB h0 => below_app hb hown h3 hB h0))

/-- append whose run is known. -/
theorem wpList_app_run {w w' : World} {ops : Array Oper} {rest : List Oper} {a : Act} {Q : Exit → Act → World → Prop} {d : Option Tmp} {s x : Operand} {ts : Array TypeId} {ty : TypeId} {pos : String} {af : Array Edge}
    {v y r : Value} (hs : a.eval s = v) (hx : a.eval x = y) (hrun : (Builtin.append_ ts ty #[v, y]).run P w = .ok r w') (h : wpList P ops Q rest (a.put d r) w') :
    wpList P ops Q (⟨d, .call { callee := .builtin .append, args := #[s, x], argTypes := ts }, ty, pos, af, none⟩ :: rest) a w := by
  refine wpList_plain rfl fun _ hK => ?_
  unfold Oper.wp execOp
  simp only [resolve, invoke, builtin, Sem.run_bind, Sem.run_pure, Result.andThen_ok, List.map_toArray, List.map_cons, List.map_nil, hs, hx, hrun]
  exact hK _ _ h

/-- string(b) -/
theorem run_str (w : World) (src dst e : TypeId) (hs : P.underlying src = some (.slice e)) (he : P.underlying e = some (.int .u8)) (hd : P.underlying dst = some .string) {B : Nat} {A : Option Addr} {n c : Nat} {l : List UInt8} (h : Rd w B 1 A n c (bv l)) :
    (convert src dst (.slice A n c)).run P w = .ok (.string ⟨l.toArray⟩) w := by
  cases A with
  | none =>
    have hn : n = 0 := by
      rcases Nat.eq_zero_or_pos n with h0 | h0
      · exact h0
      · obtain ⟨ad, h, _⟩ := h.at_ h0; cases h
    obtain rfl : l = [] := List.eq_nil_of_length_eq_zero (by rw [h.blen, hn])
    rw [run_convert_bytes_string w src dst e _ n c hs he hd]
    simp [Conv.bytesToString]
    rfl
  | some ad =>
    have hcell : ∀ j u, (bv l)[j]? = some u → w.cell? (ad.add j) = some u := by
      rcases Nat.eq_zero_or_pos n with h0 | h0
      · obtain rfl : l = [] := List.eq_nil_of_length_eq_zero (by rw [h.blen, h0])
        intro j u hu; simp [bv] at hu
      · obtain ⟨ad', h, _, hc⟩ := h.at_ h0
        injection h with h; subst h; exact hc
    have hl : (loadCells ad n).run P w = .ok ((l.map fun x => (x.toNat : Int)).map (Value.int .u8)).toArray w := by
      have := run_loadCells_list (P := P) w ad (bv l) hcell
      rw [bv_len, h.blen] at this
      simpa [bv, Function.comp_def] using this
    rw [run_convert_bytes_string w src dst e _ n c hs he hd, run_bytesToString w _ n c _ hl, foldl_push_bytes]
    simp [ByteArray.empty, ByteArray.emptyWithCapacity, Function.comp_def]
    rfl

end

/-! ### A block whose cells are known -/
theorem blk_cell {w : World} {g e : Nat} {cs : Array Value} {fr : Nat × Nat} {i : Nat} {v : Value} (h : w.heap[g]? = some (.cells cs e fr)) (hi : cs[i]? = some v) : w.cell? ⟨g, i, none⟩ = some v := by
  rw [World.cell?, show (⟨g, i, none⟩ : Addr).block = g from rfl, h]; exact hi
theorem blk_free {w : World} {g e : Nat} {cs : Array Value} {i : Nat} (h : w.heap[g]? = some (.cells cs e)) : w.frozen? ⟨g, i, none⟩ = false := by
  rw [World.frozen?, show (⟨g, i, none⟩ : Addr).block = g from rfl, h]; simp
theorem blk_set {w : World} {g i : Nat} {cs : Array Value} {t : TypeId} {fr : Nat × Nat} (h : w.heap[g]? = some (.cells cs t fr)) (v : Value) : (w.setCell ⟨g, i, none⟩ v).heap[g]? = some (.cells (cs.setIfInBounds i v) t fr) := by
  obtain ⟨hlt, hk⟩ := Array.getElem?_eq_some_iff.1 h
  show (w.heap.modify g _)[g]? = _
  rw [Array.getElem?_eq_getElem (by rw [Array.size_modify]; exact hlt), Array.getElem_modify_self, hk]
  rfl
theorem blk_new2 (w : World) (o1 o2 : Obj) : ((w.alloc o1).alloc o2).heap[w.heap.size + 1]? = some o2 := by
  have := heap_alloc_new (w.alloc o1) o2
  rwa [World.size_alloc] at this
theorem blk_old {w w' : World} {g : Nat} {o : Obj} {B : Nat} (h : w.heap[g]? = some o) (hb : Below B w w') (hg : g < B) : w'.heap[g]? = some o := (hb.block g hg).trans h

theorem own_set {w : World} {base : Nat} {e : TypeId} {size n : Nat} {v : Value} {xs : List Value} (h : w.ownsRow base e size v n xs) {g i : Nat} (hg : g < base) (u : Value) : (w.setCell ⟨g, i, none⟩ u).ownsRow base e size v n xs := ownsRow_setCell_below h hg u

theorem own_range {w : World} {g e : Nat} {cs : Array Value} {fr : Nat × Nat} {l : List Value} (h : w.heap[g]? = some (.cells cs e fr)) (o : Nat) (hl : ∀ j v, l[j]? = some v → cs[o + j]? = some v) : w.rangeAt g o l := fun j v hv => blk_cell h (hl j v hv)

theorem Rd.drew {w : World} {B size n c : Nat} {A : Option Addr} {xs : List Value} (h : Rd w B size A n c xs) : Rd w.drew B size A n c xs := h.keep fun _ _ => rfl
/-- append, and how memory has turned. -/
theorem wpList_appG {P : Program} {w : World} {ops : Array Oper} {rest : List Oper} {a : Act} {Q : Exit → Act → World → Prop} {d : Option Tmp} {s x : Operand} {t ty : TypeId} {pos : String} {af : Array Edge}
    {base : Nat} {e : TypeId} {i : TypeInfo} {z : Value} {size bytes : Nat} (ht : P.underlying t = some (.slice e)) (hi : P.info? e = some i ∧ i.zero = some z ∧ i.size = size ∧ i.bytes = bytes) (hzs : z.cells.size = size) (hsz : 0 < size)
    {v : Value} {n : Nat} {xs : List Value} (hown : w.ownsRow base e size v n xs) (hs : a.eval s = v)
    {B : Nat} {A : Option Addr} {m c : Nat} {news : List Value} (hr : Rd w B size A m c news) (hx : a.eval x = .slice A m c) (h1 : ∀ u ∈ news, u.oneCell' = true)
    {k : Nat} {ys : List Value} (hk : n + m = k) (hys : xs ++ news = ys)
    (h63 : k ≤ maxLen) (hbytes : k * bytes ≤ 140737488355328) (hbase : base ≤ w.heap.size)
    (h : ∀ A' c' w', w'.ownsRow base e size (.slice A' k c') k ys → w.grownBy w' v.ownBlock → ((Value.slice A' k c').ownBlock = v.ownBlock ∨ (Value.slice A' k c').ownBlock = some w.heap.size) → wpList P ops Q rest (a.put d (.slice A' k c')) w') :
    wpList P ops Q (⟨d, .call { callee := .builtin .append, args := #[s, x], argTypes := #[t, t] }, ty, pos, af, none⟩ :: rest) a w := by
  subst hk; subst hys
  refine wpList_plain rfl fun _ hK => ?_
  obtain ⟨v', w', hrun, h2, h3, h4⟩ := run_app (P := P) w base t ty e i z size bytes ht hi.1 hi.2.1 hi.2.2.1 hi.2.2.2 hzs hsz v n xs hown B A m c news hr h1 h63 hbytes hbase
  obtain ⟨A', c', rfl⟩ := own_sl h2
  unfold Oper.wp execOp
  simp only [resolve, invoke, builtin, Sem.run_bind, Sem.run_pure, Result.andThen_ok, List.map_toArray, List.map_cons, List.map_nil, hs, hx, hrun]
  exact hK _ _ (h A' c' w' h2 h3 h4)

end Go.Proofs.YtmkidihcdljkiaaGreat

/-
  How arguments that came in are opened for the walks: a slice of bytes or of integers that reads as a list, an unsigned number.
-/
set_option linter.unusedSimpArgs false
set_option linter.unusedVariables false
namespace Go.Proofs.YtmkidihcdljkiaaGreat
open Go.ChangeShapes Go.WideShapes Go.ChangeAt Go.RowKit

theorem Tryz.own : ownKnob Tryz.prog.godebug = none := by kernel_rfl
theorem Tryz.laidOut : laidOutB Tryz.prog = true := by kernel_rfl

section
variable {H : Type} {enc : TypeId × Value → H} {P : Program} {W : World}
end

end Go.Proofs.YtmkidihcdljkiaaGreat

/-
  Arguments that are structs, opened.
-/
set_option linter.unusedSimpArgs false
set_option linter.unusedVariables false
namespace Go.Proofs.YtmkidihcdljkiaaGreat
open Go.RowKit Go.ChangeShapes Go.WideShapes Go.ChangeAt

section
variable {H : Type} {enc : TypeId × Value → H} {P : Program} {W : World}
/-- A struct: each field is read from its cells. -/
theorem open_fields {t : TypeId} {fs : Array Field} {b0 : Nat} {v : Value} {d : DataW H} {p : List MemPlace} (ht : P.underlying t = some (.struct fs))
    (hv : Value.okWide P W .any b0 t v) (h : DataW.Trod enc P W 0 (fun _ => true) true t v d p) :
    ∃ cs : Array Value, v = .agg cs ∧ cs.size = P.cellsOf t ∧ ∀ (j : Nat) (f : Go.Field), fs[j]? = some f → ∃ m y, DataW.trod enc P W 0 (fun _ => true) true m f.type ((cs.toList.drop f.offset).take (P.cellsOf f.type)) = some y := by
  obtain ⟨cs, rfl, hs⟩ := okWide_struct ht hv
  obtain ⟨fuel, hf⟩ := h
  obtain ⟨xs, k, _, _, hcl, hxl, hfs⟩ := DataW.trod_struct ht hf
  refine ⟨cs, rfl, hs, fun j f hj => ?_⟩
  have hjl : j < fs.size := (Array.getElem?_eq_some_iff.1 hj).1
  have := hfs j f hj
  rw [List.getElem?_eq_getElem (show j < xs.length by omega)] at this
  exact ⟨k, _, by simpa [Value.cells] using this⟩
end

section
variable {H : Type} {enc : TypeId × Value → H} {W : World}
end

end Go.Proofs.YtmkidihcdljkiaaGreat

/-
  The functions of package slices that the program calls at bytes: Clone, Grow, Concat: what each hands back.
-/
set_option linter.unusedSimpArgs false
set_option linter.unusedVariables false
namespace Go.Proofs.YtmkidihcdljkiaaGreat
open Go.RowKit

theorem u8_info : (Tryz.prog.info? 5).map (fun i => (i.zero, i.size, i.bytes)) = some (some (.int .u8 0), 1, 1) := by kernel_rfl

/-- Bytes in new memory. -/
def RetB (w : World) (l : List UInt8) (e : Ending) (w' : World) : Prop :=
  ∃ A c n, e = .returned (.slice A n c) ∧ w'.ownsRow w.heap.size 5 1 (.slice A n c) n (bv l) ∧ Below w.heap.size w w'
theorem RetB.back {w wc w' : World} {l : List UInt8} {e : Ending} (hb : Below w.heap.size w wc) (h : RetB wc l e w') : RetB w l e w' := by
  obtain ⟨A, c, n, rfl, hown, hb'⟩ := h
  exact ⟨A, c, n, rfl, own_mono hown hb.size, bnx hb hb'⟩
/-- A slice of slices of bytes that reads as a list of lists. -/
def RdL (w : World) (B : Nat) (A : Option Addr) (n c : Nat) (ls : List (List UInt8)) : Prop :=
  ∃ vs, Rd w B 1 A n c vs ∧ ls.length = n ∧ ∀ (i : Nat) (l : List UInt8), ls[i]? = some l → ∃ A' n' c', vs[i]? = some (.slice A' n' c') ∧ Rd w B 1 A' n' c' (bv l)
theorem RdL.up {w w' : World} {B n c : Nat} {A : Option Addr} {ls : List (List UInt8)} (h : RdL w B A n c ls) (hb : Below B w w') : RdL w' B A n c ls := by
  obtain ⟨vs, h1, h2, h3⟩ := h
  refine ⟨vs, h1.up hb, h2, fun i l hl => ?_⟩
  obtain ⟨A', n', c', h4, h5⟩ := h3 i l hl
  exact ⟨A', n', c', h4, h5.up hb⟩
theorem RdL.at_ {w : World} {B n c k : Nat} {A : Option Addr} {ls : List (List UInt8)} (h : RdL w B A n c ls) (hk : k < n) :
    ∃ ad l A' n' c', A = some ad ∧ ls[k]? = some l ∧ w.cell? (ad.add k) = some (.slice A' n' c') ∧ Rd w B 1 A' n' c' (bv l) := by
  obtain ⟨vs, h1, h2, h3⟩ := h
  obtain ⟨ad, u, e, hu, hc⟩ := h1.one hk
  obtain ⟨A', n', c', h4, h5⟩ := h3 k _ (List.getElem?_eq_getElem (by omega))
  rw [hu] at h4
  injection h4 with h4
  subst h4
  exact ⟨ad, _, A', n', c', e, List.getElem?_eq_getElem (by omega), hc, h5⟩
/-- What a literal '[][]byte{..}' lays. -/
theorem RdL.lit {w : World} {B e : Nat} (vs : List Value) (ls : List (List UInt8)) (hl : ls.length = vs.length) (hm : vs.length ≤ maxLen) (hB : B ≤ w.heap.size)
    (h : ∀ (i : Nat) (l : List UInt8), ls[i]? = some l → ∃ A' n' c', vs[i]? = some (.slice A' n' c') ∧ Rd w B 1 A' n' c' (bv l)) :
    RdL (w.alloc (.cells vs.toArray e)) (w.heap.size + 1) (some ⟨w.heap.size, 0, none⟩) vs.length vs.length ls := by
  refine ⟨vs, ⟨by simp, Nat.le_refl _, hm, fun _ => ⟨_, rfl, Nat.lt_succ_self _, fun j u hu => ?_⟩⟩, hl, fun i l hi => ?_⟩
  · have e1 : (⟨w.heap.size, 0, none⟩ : Addr).add j = ⟨w.heap.size, j, none⟩ := by unfold Addr.add; split <;> simp_all
    rw [e1, World.cell?, show (⟨w.heap.size, j, none⟩ : Addr).block = w.heap.size from rfl, heap_alloc_new w _]
    simpa using hu
  · obtain ⟨A', n', c', h4, h5⟩ := h i l hi
    exact ⟨A', n', c', h4, (h5.up ((Below.refl B w).alloc hB _)).more (by omega)⟩
theorem RdL.lit2 {w : World} {B e n1 c1 n2 c2 : Nat} {A1 A2 : Option Addr} {l1 l2 : List UInt8} (hB : B ≤ w.heap.size) (h1 : Rd w B 1 A1 n1 c1 (bv l1)) (h2 : Rd w B 1 A2 n2 c2 (bv l2)) :
    RdL (w.alloc (.cells #[.slice A1 n1 c1, .slice A2 n2 c2] e)) (w.heap.size + 1) (some ⟨w.heap.size, 0, none⟩) 2 2 [l1, l2] :=
  RdL.lit (B := B) [.slice A1 n1 c1, .slice A2 n2 c2] [l1, l2] rfl (by simp [maxLen]) hB (fun i l hi => by
    match i, hi with
    | 0, hi => simp at hi; subst hi; exact ⟨_, _, _, rfl, h1⟩
    | 1, hi => simp at hi; subst hi; exact ⟨_, _, _, rfl, h2⟩)
theorem flat_snoc {ls : List (List UInt8)} {k : Nat} {l : List UInt8} (h : ls[k]? = some l) : (ls.take (k + 1)).flatten = (ls.take k).flatten ++ l := by
  rw [take_succ h]; simp
theorem flat_take_le (ls : List (List UInt8)) (k : Nat) : (ls.take k).flatten.length ≤ ls.flatten.length := by
  have h := congrArg List.length (congrArg List.flatten (List.take_append_drop k ls))
  rw [List.flatten_append, List.length_append] at h
  omega

set_option maxHeartbeats 400000 in
theorem clone_any (A : Option Addr) (n c B : Nat) (l : List UInt8) (w : World) (h : Rd w B 1 A n c (bv l)) (hB : B ≤ w.heap.size) (hn : n ≤ 70368744177664) :
    Calls Tryz.prog 76 #[.slice A n c] w (RetB w l) := by
  obtain ⟨i0, hi⟩ := info_parts u8_info
  have hl := h.blen
  have Hl := Lib.hid hl
  clear hl
  have hq := Lib.run_eql_slice_nil (P := Tryz.prog) w 38 5 A n c 0 0 Tryz.underlying38
  cases A with
  | none =>
    have hn0 : n = 0 := by
      rcases Nat.eq_zero_or_pos n with h0 | h0
      · exact h0
      · obtain ⟨ad, h, _⟩ := h.at_ h0; cases h
    obtain rfl : l = [] := List.eq_nil_of_length_eq_zero (by rw [Hl.out, hn0])
    simp only [Option.isNone_none] at hq
    clear hn0
    go_enter Tryz.func76, Tryz.ntmps76
    go_wp2
    go_ret
    exact ⟨none, 0, 0, rfl, World.ownsRow_nil _ _ _ _, Below.refl _ _⟩
  | some ad =>
    simp only [Option.isNone_some] at hq
    go_enter Tryz.func76, Tryz.ntmps76
    go_wp2_with (at_builtin; refine stop_ ?_)
    refine go_ (wpList_app (base := w.heap.size) (n := 0) (xs := []) Tryz.underlying38 hi rfl (by omega) (own_empty _ _ _ (Nat.le_refl _) 1) rfl (h.up ((Below.refl _ _).alloc hB _)) rfl (bv_one _) (Nat.zero_add _) (List.nil_append _) (by unfold maxLen; omega) (by omega) (by simp) ?_)
    intro A' c' w' hown hup
    have hb : Below w.heap.size w w' := hup ((Below.refl _ _).alloc (Nat.le_refl _) _) (by simp) (Nat.le_refl _)
    clear hup hq
    go_wp2
    go_ret
    exact ⟨A', c', n, rfl, hown, hb⟩

theorem run_app_zeros {P : Program} (w : World) (t u ty e : TypeId) (i : TypeInfo) (z : Value) (ht : P.underlying t = some (.slice e)) (hu : P.underlying u = some (.int .i64)) (hi : P.info? e = some i) (hz : i.zero = some z)
    (n : Nat) (h0 : 0 < n) (h63 : n ≤ 9223372036854775807) (hs : 0 < i.size) (h48 : n * i.bytes ≤ 281474976710656) :
    (Builtin.append_ #[t, u] ty #[.slice none 0 0, .int .i64 n]).run P w =
      .ok (.slice (some ⟨w.heap.size, 0, none⟩) n (grownCap w n 0 e)) (w.drew.alloc (.cells (Builtin.zeroCells z.cells n ++ Builtin.zeroCells z.cells (grownCap w n 0 e - n)) e)) := by
  have hn : n ≠ 0 := by omega
  have hw : IntKind.i64.wrap (n : Int) = n := IntWalk.i64_in _ (by omega)
  have h1 : ¬ ((n : Int) < 0) := by omega
  have h2 : ¬ (281474976710656 < (n : Int) * (i.bytes : Int)) := by
    have : ((n * i.bytes : Nat) : Int) ≤ 281474976710656 := by omega
    rw [Int.natCast_mul] at this; omega
  have h63' : ¬ (9223372036854775807 < (n : Int)) := by omega
  have h48' : ¬ (281474976710656 < Builtin.nextslicecap n 0 * i.bytes) := by rw [nextslicecap_zero h0]; omega
  have hs' : n * i.size ≠ 0 := Nat.mul_ne_zero hn (by omega)
  simp [Builtin.append_, run_underlying ht, run_underlying hu, sizeOf, typeInfo, zeroValue, hi, hz, hn, h63', h48', hw, h1, h2, hs', asInt, asIntOf, Question.forced, run_firstCells_none, newRow, grownCap]
set_option maxRecDepth 10000 in
set_option maxHeartbeats 400000 in
theorem grow_any (n : Nat) (w : World) (hn : n ≤ 70368744177664) :
    Calls Tryz.prog 74 #[.slice none 0 0, .int .i64 n] w (RetB w []) := by
  obtain ⟨i0, hi⟩ := info_parts u8_info
  by_cases h0 : n = 0
  · subst h0
    go_enter Tryz.func74, Tryz.ntmps74
    go_wp2
    go_ret
    exact ⟨none, 0, 0, rfl, World.ownsRow_nil _ _ _ _, Below.refl _ _⟩
  · have hr := run_app_zeros (P := Tryz.prog) w 38 3 38 5 i0 _ Tryz.underlying38 Tryz.underlying3 hi.1 hi.2.1 n (by omega) (by omega) (by omega) (by rw [hi.2.2.2]; omega)
    have hge := grownCap_ge w n 0 5
    have hle := grownCap_le_maxLen w n 0 5 (by unfold maxLen; omega)
    generalize grownCap w n 0 5 = cap at *
    have hsz : ((Builtin.zeroCells (Value.int .u8 0).cells n) ++ (Builtin.zeroCells (Value.int .u8 0).cells (cap - n))).size = cap := by rw [Array.size_append, size_zeroCells, size_zeroCells]; simp [Value.cells]; omega
    have Hsz := Lib.hid hsz
    clear hsz
    generalize ((Builtin.zeroCells (Value.int .u8 0).cells n) ++ (Builtin.zeroCells (Value.int .u8 0).cells (cap - n))) = cs at *
    have hpos : 0 < n := by omega
    clear h0
    unfold maxLen at hle
    go_enter Tryz.func74, Tryz.ntmps74
    have Hr := Lib.hid hr
    clear hr
    go_wp2_with (at_builtin; refine stop_ ?_)
    refine go_ (wpList_app_run rfl rfl Hr.out ?_)
    go_wp2
    go_ret
    refine ⟨_, _, 0, rfl, ⟨by simp [bv], .inr ⟨w.heap.size, cap, cs, rfl, Nat.le_refl _, heap_alloc_new w.drew _, Nat.zero_le _, by unfold maxLen; omega, by rw [Hsz.out]; simp, by simp [bv]⟩⟩, ((Below.refl _ _).drew).alloc (Nat.le_refl _) _⟩

set_option maxHeartbeats 1000000 in
theorem concat_any (A : Option Addr) (n c B : Nat) (ls : List (List UInt8)) (w : World) (h : RdL w B A n c ls) (hB : B ≤ w.heap.size) (hs : ls.flatten.length ≤ 70368744177664) :
    Calls Tryz.prog 56 #[.slice A n c] w (RetB w ls.flatten) := by
  obtain ⟨hn, hm, hl⟩ : n ≤ c ∧ c ≤ maxLen ∧ ls.length = n := by obtain ⟨vs, h1, h2, _⟩ := h; exact ⟨h1.le, h1.max, h2⟩
  obtain ⟨i0, hi⟩ := info_parts u8_info
  have Hi := Lib.hid hi
  have Hl := Lib.hid hl
  clear hl hi
  unfold maxLen at hm
  go_enter Tryz.func56, Tryz.ntmps56
  go_wp2
  go_loop [3, 5, 11] (fun s _ i => ∃ k : Nat, k ≤ n ∧ i = .int .i64 k ∧ s = .int .i64 (ls.take k).flatten.length) (fun _ _ i => n - (intOf i).toNat)
  case atStart => exact ⟨0, by omega, rfl, rfl⟩
  case round =>
    obtain ⟨k, hk, rfl, rfl⟩ := hrel
    have hle := flat_take_le ls k
    have hle1 := flat_take_le ls (k + 1)
    by_cases hlt : k < n
    · obtain ⟨ad, l, A', n', c', rfl, hx, hc, hr⟩ := h.at_ hlt
      have hb := hr.blen
      rw [flat_snoc hx, List.length_append, hb] at hle1
      have hs2 : (ls.take (k + 1)).flatten.length = (ls.take k).flatten.length + n' := by rw [flat_snoc hx, List.length_append, hb]
      have Hs := Lib.hid hs2
      clear hs2 hx hb
      generalize (ls.take k).flatten.length = d at *
      go_wp2
      go_round
      case rel => exact ⟨k + 1, by omega, by go_num, val_int (by rw [Hs.out]; omega)⟩
      case measure => simp [intOf]; omega
    · obtain rfl : k = n := by omega
      have ht : ls.take k = ls := List.take_of_length_le (by rw [Hl.out]; omega)
      rw [ht]
      clear ht hle hle1
      obtain ⟨m, hmm⟩ : ∃ m, m = ls.flatten.length := ⟨_, rfl⟩
      rw [← hmm] at hs ⊢
      have Hm := Lib.hid hmm
      clear hmm
      go_wp2_with fail
      go_fit (grow_any m w hs)
      rintro e w1 ⟨A1, c1, n1, rfl, hown1, hb1⟩
      obtain rfl : n1 = 0 := by have := own_len hown1; simpa using this.symm
      have hown1' : w1.ownsRow w.heap.size 5 1 (.slice A1 0 c1) 0 [] := hown1
      clear hown1
      go_wp2
      go_loopw [6, 8, 27] (fun s _ i wr => ∃ (j : Nat) (A2 : Option Addr) (c2 : Nat), j ≤ k ∧ i = .int .i64 j ∧ s = .slice A2 (ls.take j).flatten.length c2 ∧ wr.ownsRow w.heap.size 5 1 (.slice A2 (ls.take j).flatten.length c2) (ls.take j).flatten.length (bv (ls.take j).flatten) ∧ Below w.heap.size w wr) (fun _ _ i _ => k - (intOf i).toNat)
      case atStart => exact ⟨0, A1, c1, by omega, rfl, rfl, hown1', hb1⟩
      case round =>
        clear hb1 hown1' w1
        obtain ⟨j, A2, c2, hj, rfl, rfl, hown, hb⟩ := hrel
        have hle1 := flat_take_le ls (j + 1)
        rw [← Hm.out] at hle1
        by_cases hlt : j < k
        · obtain ⟨ad, l, A', n', c', rfl, hx, hc, hr⟩ := (h.up (hb.mono hB)).at_ hlt
          have hlb := hr.blen
          have hs2 : (ls.take (j + 1)).flatten.length = (ls.take j).flatten.length + n' := by rw [flat_snoc hx, List.length_append, hlb]
          have hs3 : bv (ls.take (j + 1)).flatten = bv (ls.take j).flatten ++ bv l := by rw [flat_snoc hx, bv_app]
          obtain ⟨m3, hm3⟩ : ∃ m3, m3 = (ls.take (j + 1)).flatten.length := ⟨_, rfl⟩
          rw [← hm3] at hs2 hle1
          have Hs := Lib.hid (And.intro hs2 (And.intro hs3 hm3))
          clear hs2 hs3 hx hlb hm3
          go_wp2_with (at_builtin; refine stop_ ?_)
          refine go_ (wpList_app (base := w.heap.size) Tryz.underlying38 Hi.out rfl (by omega) hown rfl hr rfl (bv_one _) Hs.out.1.symm Hs.out.2.1.symm (by unfold maxLen; omega) (by omega) hb.size ?_)
          intro A3 c3 w3 hown3 hup3
          have hb3 : Below w.heap.size w w3 := hup3 hb hb.size (Nat.le_refl _)
          clear hup3 hb hown hc hr
          go_wp2
          go_roundw
          case rel => exact ⟨j + 1, A3, c3, by omega, by go_num, by rw [Hs.out.2.2], by rw [← Hs.out.2.2]; exact hown3, hb3⟩
          case measure => simp [intOf]; omega
        · obtain rfl : j = k := by omega
          have ht : ls.take j = ls := List.take_of_length_le (by rw [Hl.out]; omega)
          rw [ht] at hown ⊢
          clear ht hle1
          go_wp2
          go_ret
          exact ⟨A2, c2, _, rfl, by simpa using hown, hb⟩

end Go.Proofs.YtmkidihcdljkiaaGreat

/-
  Plain facts about bytes as numbers, the lowest first, with no program in sight.
-/
namespace Go.Proofs.YtmkidihcdljkiaaGreat.NumLaw

/-- Bytes as a number, the lowest first. -/
def num : List UInt8 → Nat
  | [] => 0
  | x :: l => x.toNat + 256 * num l
/-- n bytes of a number. -/
def bytesN : Nat → Nat → List UInt8
  | 0, _ => []
  | n + 1, u => UInt8.ofNat (u % 256) :: bytesN n (u / 256)
theorem bytesN_len (n : Nat) : ∀ u, (bytesN n u).length = n := by
  induction n with
  | zero => intro u; rfl
  | succ n ih => intro u; simp [bytesN, ih]
theorem num_bytesN (n : Nat) : ∀ u, num (bytesN n u) = u % 256 ^ n := by
  induction n with
  | zero => intro u; simp [bytesN, num, Nat.mod_one]
  | succ n ih =>
    intro u
    simp only [bytesN, num, ih, Nat.pow_succ]
    rw [UInt8.toNat_ofNat', Nat.mul_comm (256 ^ n), Nat.mod_mul]
    omega
end Go.Proofs.YtmkidihcdljkiaaGreat.NumLaw

/-
  The row of package octet: a block of three cells, the words on it, and what its inner functions do.
-/
set_option linter.unusedSimpArgs false
set_option linter.unusedVariables false
namespace Go.Proofs.YtmkidihcdljkiaaGreat
open Go.RowKit NumLaw

/-- Block g is a row: its bytes' slice, whether a call made it, whether it is bad. -/
def RowAt (w : World) (g e : Nat) (v : Value) (made bad : Bool) : Prop := w.heap[g]? = some (.cells #[v, .bool made, .bool bad] e)
section
variable {w w' : World} {g e : Nat} {v : Value} {made bad : Bool}
theorem RowAt.lt (h : RowAt w g e v made bad) : g < w.heap.size := by
  rcases Nat.lt_or_ge g w.heap.size with h1 | h1
  · exact h1
  · unfold RowAt at h; rw [Array.getElem?_eq_none h1] at h; cases h
theorem RowAt.c0 (h : RowAt w g e v made bad) : w.cell? ⟨g, 0, none⟩ = some v := by
  rw [World.cell?, show (⟨g, 0, none⟩ : Addr).block = g from rfl, h]; rfl
theorem RowAt.c1 (h : RowAt w g e v made bad) : w.cell? ⟨g, 1, none⟩ = some (.bool made) := by
  rw [World.cell?, show (⟨g, 1, none⟩ : Addr).block = g from rfl, h]; rfl
theorem RowAt.c2 (h : RowAt w g e v made bad) : w.cell? ⟨g, 2, none⟩ = some (.bool bad) := by
  rw [World.cell?, show (⟨g, 2, none⟩ : Addr).block = g from rfl, h]; rfl
theorem set_at {w : World} {g i : Nat} {cs : Array Value} {t : TypeId} {fr : Nat × Nat} (h : w.heap[g]? = some (.cells cs t fr)) (v : Value) : (w.setCell ⟨g, i, none⟩ v).heap[g]? = some (.cells (cs.setIfInBounds i v) t fr) := by
  obtain ⟨hlt, hk⟩ := Array.getElem?_eq_some_iff.1 h
  show (w.heap.modify g _)[g]? = _
  rw [Array.getElem?_eq_getElem (by rw [Array.size_modify]; exact hlt), Array.getElem_modify_self, hk]
  rfl
theorem RowAt.f0 (h : RowAt w g e v made bad) : w.frozen? ⟨g, 0, none⟩ = false := by
  rw [World.frozen?, show (⟨g, 0, none⟩ : Addr).block = g from rfl, h]; rfl
theorem RowAt.f2 (h : RowAt w g e v made bad) : w.frozen? ⟨g, 2, none⟩ = false := by
  rw [World.frozen?, show (⟨g, 2, none⟩ : Addr).block = g from rfl, h]; rfl
theorem RowAt.put0 (h : RowAt w g e v made bad) (u : Value) : RowAt (w.setCell ⟨g, 0, none⟩ u) g e u made bad := set_at h u
theorem RowAt.put2 (h : RowAt w g e v made bad) (b : Bool) : RowAt (w.setCell ⟨g, 2, none⟩ (.bool b)) g e v made b := set_at h (.bool b)
theorem RowAt.kept (h : RowAt w g e v made bad) {row : Option Nat} (hg : w.grownBy w' row) (hne : some g ≠ row) : RowAt w' g e v made bad := (hg.block g h.lt hne).trans h
theorem grownBy_set {w w' : World} {g : Nat} (h : w.grownBy w' (some g)) (i : Nat) (v : Value) : w.grownBy (w'.setCell ⟨g, i, none⟩ v) (some g) :=
  h.trans ⟨rfl, rfl, rfl, by simp [World.setCell], fun k _ hk => Below.heap_setCell _ _ _ k (fun e => hk (by rw [e]))⟩
theorem grownBy_self (w : World) (row : Option Nat) : w.grownBy w row := ⟨rfl, rfl, rfl, Nat.le_refl _, fun _ _ _ => rfl⟩
theorem Rd.grown {B n c g : Nat} {A : Option Addr} {xs : List Value} (h : Rd w B 1 A n c xs) (hg : w.grownBy w' (some g)) (hB : B ≤ g) (hlt : g < w.heap.size) : Rd w' B 1 A n c xs :=
  h.keep fun p hp => hg.cell_far p (by omega) (by intro e; injection e with e; omega)
end

set_option maxHeartbeats 400000 in
theorem fine_any (g e : Nat) (v : Value) (made bad : Bool) (w : World) (h : RowAt w g e v made bad) :
    Calls Tryz.prog 85 #[.pointer (some ⟨g, 0, none⟩)] w fun e w' => e = .returned (.bool (made && !bad)) ∧ w = w' := by
  have h1 := h.c1
  have h2 := h.c2
  cases made <;> cases bad
  all_goals
    go_enter Tryz.func85, Tryz.ntmps85
    go_wp2
    go_ret
    exact ⟨rfl, rfl⟩

set_option maxHeartbeats 400000 in
theorem fail_any (g e : Nat) (v : Value) (made bad : Bool) (w : World) (h : RowAt w g e v made bad) :
    Calls Tryz.prog 83 #[.pointer (some ⟨g, 0, none⟩)] w fun x w' => x = .returned (.tuple #[]) ∧ RowAt w' g e (.slice none 0 0) made true ∧ w.grownBy w' (some g) := by
  have h1 := h.c0
  have h2 := h.f0
  have h3 := (h.put0 (.slice none 0 0)).c2
  have h4 := (h.put0 (.slice none 0 0)).f2
  go_enter Tryz.func83, Tryz.ntmps83
  go_wp2
  ((try simp only [Exit.inBlock, Exit.then]); refine bodyPost_end (results_none rfl _ _ _) rfl ?_)
  exact ⟨rfl, (h.put0 _).put2 _, grownBy_set (grownBy_set (grownBy_self w _) 0 _) 2 _⟩

/-- What is left of the bytes at the reader's block g, and whether it is bad; the bytes lie from block lo on. -/
def Rdr (lo : Nat) (w : World) (g : Nat) (l : List UInt8) (bad : Bool) : Prop :=
  (∃ A n c, RowAt w g 149 (.slice A n c) true bad ∧ Rd w g 1 A n c (bv l) ∧ ∀ ad, A = some ad → lo ≤ ad.block) ∧ (bad = true → l = [])

/- Reader.next -/
theorem Rdr.keep {lo : Nat} {w w' : World} {g : Nat} {l : List UInt8} {bad : Bool} (h : Rdr lo w g l bad) {row : Option Nat} (hg : w.grownBy w' row) (hr : ∀ k, row = some k → g < k) : Rdr lo w' g l bad := by
  obtain ⟨⟨A, n, c, h1, h2, h4⟩, h3⟩ := h
  refine ⟨⟨A, n, c, h1.kept hg (fun e => absurd (hr g e.symm) (Nat.lt_irrefl _)), h2.keep fun p hp => hg.cell_far p (Nat.lt_trans hp h1.lt) (fun e => absurd (hr _ e.symm) (by omega)), h4⟩, h3⟩
/- Reader.U -/
/- Reader.I -/
/-- A number of n bytes, with a sign. -/
def sgn (n : Nat) (u : Nat) : Int := if u < 128 * 256 ^ (n - 1) then u else (u : Int) - 256 ^ n
/- Reader.Raw -/
/- Reader.Left, Fail -/
/- octet.New -/
end Go.Proofs.YtmkidihcdljkiaaGreat

/-
  A region that draws its order of evaluation, walked once, in the order of its text: where operations that no edge binds only reckon, or only read what is there, every order comes to the same end.
-/
set_option linter.unusedSimpArgs false
set_option linter.unusedVariables false
namespace Go.Proofs.YtmkidihcdljkiaaGreat
open Go.RowKit
namespace Ord

theorem run_bind_str {P : Program} {w : World} {src dst e : TypeId} (hs : P.underlying src = some (.slice e)) (he : P.underlying e = some (.int .u8)) (hd : P.underlying dst = some .string) {B : Nat} {A : Option Addr} {n c : Nat} {l : List UInt8} (h : Rd w B 1 A n c (bv l)) :
    ((do let v ← convert src dst (.slice A n c); pure (Next.value v) : Sem Next)).run P w = .ok (.value (.string ⟨l.toArray⟩)) w := by
  simp only [Sem.run_bind, run_str w src dst e hs he hd h, Result.andThen_ok, Sem.run_pure]

theorem run_bind_of' {P : Program} {α β : Type} {s : Sem α} {f : α → Sem β} {w w1 : World} {a : α} (h : s.run P w = .ok a w1) : (s >>= f).run P w = (f a).run P w1 := by
  rw [Sem.run_bind, h]; rfl

/-- No other way out. -/
def QF : Exit → Act → World → Prop := fun _ _ _ => False

/-- Kinds: 0 reckons alone; 1 reads alone, of what S tells; 3 reads alone, of what lies there by now (its slot is among F); 2 whatever. -/
def kindOf (P : Program) (F : List Tmp) (o : Oper) : Nat :=
  let rd := match o.dst with
    | some d => if F.contains d then 3 else 1
    | none => 1
  match o.op with
  | .move _ | .assign _ | .pick .. | .binOp .. | .unOp .. | .slice .. | .indexAddr .. | .extract .. | .field .. | .fieldAddr .. | .makeInterface .. | .nilCheck _ | .index .. | .build .. => 0
  | .convert s d _ => match P.underlying s, P.underlying d with
    | some (.int _), some (.int _) => 0
    | some .string, some (.slice _) => 2
    | _, _ => rd
  | .load .. => rd
  | .call c => match c.callee with
    | .builtin .len | .builtin .cap => 0
    | _ => 2
  | _ => 2

/-- Must it let stand what was there? A store need not; nor append; nor a call whose slot is among F. -/
def grows (G : Bool) (F : List Tmp) (o : Oper) : Bool :=
  match o.op with
  | .store .. => false
  | .call c => match c.callee with
    | .builtin .append => false
    | _ => G && (match o.dst with
      | some d => !F.contains d
      | none => true)
  | _ => G

/-- The operation yields v here, and wherever memory has only grown. -/
def Stays (P : Program) (o : Oper) (v : Value) (a : Act) (w : World) : Prop :=
  ∀ w2, Below w.heap.size w w2 → (execOp a.eval o).run P w2 = .ok (.value v) w2
/-- What the region names of the world, and asks of each operation. -/
structure Cfg where
  S : World → Prop
  G : Bool
  F : List Tmp

/-- The operations l, one behind the other; what each leaves. -/
def wpE (P : Program) (ops : Array Oper) (G : Cfg) (R : Act → World → Prop) : List Oper → Act → World → Prop
  | [], a, w => R a w
  | o :: r, a, w =>
    if Region.wanted o (yielded ops a.tmps) = true then
      if kindOf P G.F o = 0 then ∃ v, (∀ w2, (execOp a.eval o).run P w2 = .ok (.value v) w2) ∧ wpE P ops G R r (a.put o.dst v) w
      else if kindOf P G.F o = 1 then ∃ v, (∀ w2, G.S w2 → (execOp a.eval o).run P w2 = .ok (.value v) w2) ∧ wpE P ops G R r (a.put o.dst v) w
      else if kindOf P G.F o = 3 then ∃ v, Stays P o v a w ∧ wpE P ops G R r (a.put o.dst v) w
      else o.wp P a w (fun a' w' => (G.S w' ∧ (grows G.G G.F o = true → Below w.heap.size w w')) ∧ wpE P ops G R r a' w') QF
    else wpE P ops G R r (a.put o.dst undef) w

section
variable {P : Program} {ops : Array Oper} {G : Cfg} {R : Act → World → Prop}

theorem upon_imp {o : Oper} {a : Act} {K K' : Act → World → Prop} {Q : Exit → Act → World → Prop} (h : ∀ a w, K a w → K' a w) (r : Result Next) (hh : o.upon P a K QF r) : o.upon P a K' Q r := by
  cases r with
  | ok n w' =>
    cases n <;> simp only [Oper.upon] at hh ⊢ <;>
      first
        | exact h _ _ hh
        | exact hh.elim
        | exact Calls.mono hh (fun e w'' he => by
            cases e with
            | returned v => exact h _ _ he
            | panicked c => exact he.elim
            | outgrown => obtain ⟨_, _, he⟩ := he; exact he.elim)
        | exact Rows.mono hh (fun _ _ he => h _ _ he)
  | halt x w' => cases x <;> simp only [Oper.upon] at hh ⊢ <;> exact hh.elim
theorem wp_imp {o : Oper} {a : Act} {w : World} {K K' : Act → World → Prop} {Q : Exit → Act → World → Prop} (h : ∀ a w, K a w → K' a w) (hh : o.wp P a w K QF) : o.wp P a w K' Q := upon_imp h _ hh

/-- What an operation makes of a frame. -/
def Fm (o : Oper) (a a' : Act) : Prop := ∃ d u, a' = Act.put { a with defers := d } o.dst u

theorem wp_put {oi oj : Oper} {v : Value} (hap : oi.apart ops oj = true) (hsj : ∀ cs b, oj.op ≠ .select cs b) {K : Act → World → Prop} {a : Act} {w : World}
    (h : oj.wp P (a.put oi.dst v) w K QF) : oj.wp P a w (fun a' w' => Fm oj a a' ∧ K (a'.put oi.dst v) w') QF := by
  obtain ⟨h1, h2, h3⟩ := Oper.apart_spec hap
  unfold Oper.wp at *
  rw [execOp_put oj hsj a oi.dst v h1] at h
  generalize (execOp a.eval oj).run P w = r at *
  have hf : ∀ (u : Value), Fm oj a (a.put oj.dst u) := fun u => ⟨a.defers, u, rfl⟩
  cases r with
  | ok n w' =>
    cases n <;> simp only [Oper.upon] at h ⊢
    case value u => exact ⟨hf u, by rw [← Act.put_comm a v u h2]; exact h⟩
    case skip => exact ⟨hf _, by rw [← Act.put_comm a v undef h2]; exact h⟩
    case defer d =>
      refine ⟨⟨_, _, rfl⟩, ?_⟩
      rw [← Act.put_comm _ v undef h2, ← Act.put_defers]
      exact h
    case enter f args =>
      refine Calls.mono h fun e w'' he => ?_
      cases e with
      | returned u => exact ⟨hf u, by rw [← Act.put_comm a v u h2]; exact he⟩
      | panicked c => exact he
      | outgrown => exact he
    case row row args => exact Rows.mono h fun u w'' he => ⟨hf u, by rw [← Act.put_comm a v u h2]; exact he⟩
  | halt x w' =>
    cases x <;> simp only [Oper.upon] at h ⊢
    case panic u => exact h

theorem wp_form {o : Oper} (hs : ∀ cs b, o.op ≠ .select cs b) {K : Act → World → Prop} {a : Act} {w : World} (h : o.wp P a w K QF) : o.wp P a w (fun a' w' => Fm o a a' ∧ K a' w') QF := by
  unfold Oper.wp at *
  generalize (execOp a.eval o).run P w = r at *
  cases r with
  | ok n w' =>
    cases n <;> simp only [Oper.upon] at h ⊢
    case value u => exact ⟨⟨a.defers, u, rfl⟩, h⟩
    case skip => exact ⟨⟨a.defers, _, rfl⟩, h⟩
    case defer d => exact ⟨⟨_, _, rfl⟩, h⟩
    case enter f args =>
      refine Calls.mono h fun e w'' he => ?_
      cases e with
      | returned u => exact ⟨⟨a.defers, u, rfl⟩, he⟩
      | panicked c => exact he
      | outgrown => exact he
    case row row args => exact Rows.mono h fun u w'' he => ⟨⟨a.defers, u, rfl⟩, he⟩
  | halt x w' =>
    cases x <;> simp only [Oper.upon] at h ⊢
    case panic u => exact h

theorem wp_ex {o : Oper} {K : Act → World → Prop} {a : Act} {w : World} (h : o.wp P a w K QF) : ∃ a' w', K a' w' := by
  unfold Oper.wp at *
  generalize (execOp a.eval o).run P w = r at *
  cases r with
  | ok n w' =>
    cases n <;> simp only [Oper.upon] at h
    case value u => exact ⟨_, _, h⟩
    case skip => exact ⟨_, _, h⟩
    case defer d => exact ⟨_, _, h⟩
    case enter f args =>
      obtain ⟨e, w'', fr, he, _⟩ := h []
      cases e with
      | returned u => exact ⟨_, _, he⟩
      | panicked c => exact he.elim
      | outgrown => obtain ⟨_, _, he⟩ := he; exact he.elim
    case row row args =>
      obtain ⟨v, w'', he, _⟩ := h { fn := 0, tmps := #[], todo := [], defers := [], mode := .run, kind := .normal } []
      exact ⟨_, _, he⟩
  | halt x w' =>
    cases x <;> simp only [Oper.upon] at h
    case panic u => exact h.elim

theorem wp_putOut {oi oj : Oper} {v : Value} (hap : oi.apart ops oj = true) (hsj : ∀ cs b, oj.op ≠ .select cs b) {K : Act → World → Prop} {a : Act} {w : World}
    (h : oj.wp P a w K QF) : oj.wp P (a.put oi.dst v) w (fun a' w' => ∃ a1, Fm oj a a1 ∧ a' = a1.put oi.dst v ∧ K a1 w') QF := by
  obtain ⟨h1, h2, h3⟩ := Oper.apart_spec hap
  unfold Oper.wp at *
  rw [execOp_put oj hsj a oi.dst v h1]
  generalize (execOp a.eval oj).run P w = r at *
  cases r with
  | ok n w' =>
    cases n <;> simp only [Oper.upon] at h ⊢
    case value u => exact ⟨_, ⟨a.defers, u, rfl⟩, Act.put_comm a v u h2, h⟩
    case skip => exact ⟨_, ⟨a.defers, _, rfl⟩, Act.put_comm a v undef h2, h⟩
    case defer d =>
      refine ⟨_, ⟨d :: a.defers, undef, rfl⟩, ?_, h⟩
      rw [Act.put_defers, Act.put_comm _ v undef h2]
    case enter f args =>
      refine Calls.mono h fun e w'' he => ?_
      cases e with
      | returned u => exact ⟨_, ⟨a.defers, u, rfl⟩, Act.put_comm a v u h2, he⟩
      | panicked c => exact he
      | outgrown => exact he
    case row row args => exact Rows.mono h fun u w'' he => ⟨_, ⟨a.defers, u, rfl⟩, Act.put_comm a v u h2, he⟩
  | halt x w' =>
    cases x <;> simp only [Oper.upon] at h ⊢
    case panic u => exact h

/-- An operation apart from another sees the same frame before it and behind it. -/
theorem same_put {oi oj : Oper} (hap : oi.apart ops oj = true) (hsj : ∀ cs b, oj.op ≠ .select cs b) (a : Act) (v : Value) :
    execOp (a.put oi.dst v).eval oj = execOp a.eval oj ∧ Region.wanted oj (yielded ops (a.put oi.dst v).tmps) = Region.wanted oj (yielded ops a.tmps) := by
  obtain ⟨h1, _, _⟩ := Oper.apart_spec hap
  exact ⟨execOp_put oj hsj a oi.dst v h1, wanted_put oj a oi.dst v h1⟩
theorem same_fm {oi oj : Oper} (hap : oi.apart ops oj = true) (hsj : ∀ cs b, oj.op ≠ .select cs b) {a a' : Act} (hf : Fm oi a a') :
    execOp a'.eval oj = execOp a.eval oj ∧ Region.wanted oj (yielded ops a'.tmps) = Region.wanted oj (yielded ops a.tmps) := by
  obtain ⟨d, u, rfl⟩ := hf
  have := same_put (a := { a with defers := d }) hap hsj u
  exact ⟨this.1, this.2⟩

theorem Stays.at_ {o : Oper} {v : Value} {a : Act} {w w' : World} (h : Stays P o v a w) (hb : Below w.heap.size w w') : Stays P o v a w' := fun w2 h2 => h w2 (bnx hb h2)

/-- May j (ahead) and i (behind) change places? -/
def commK (kj ki : Nat) (gi : Bool) : Bool :=
  kj == 0 || ki == 0 || kj == 1 || ki == 1 || (kj == 3 && (ki == 3 || gi))
def comm (P : Program) (ops : Array Oper) (G : Bool) (F : List Tmp) (oj oi : Oper) : Bool :=
  oj.apart ops oi && oi.apart ops oj && commK (kindOf P F oj) (kindOf P F oi) (grows G F oi)
theorem kind_lt (P : Program) (F : List Tmp) (o : Oper) : kindOf P F o = 0 ∨ kindOf P F o = 1 ∨ kindOf P F o = 2 ∨ kindOf P F o = 3 := by
  have hrd : ∀ (d : Option Tmp), (match d with | some d => if F.contains d then 3 else 1 | none => 1) = 1 ∨ (match d with | some d => if F.contains d then 3 else 1 | none => 1) = 3 := by
    intro d
    cases d with
    | none => exact .inl rfl
    | some d => by_cases h : F.contains d = true <;> simp only [h, if_true, Bool.false_eq_true, if_false] <;> simp
  obtain ⟨d, op, ty, pos, af, g⟩ := o
  rcases hrd d with h | h
  all_goals
    cases op <;> simp only [kindOf, h] <;> first | (simp; done) | skip
    case convert s d x => split <;> simp
    case call c =>
      obtain ⟨ce, ar, ts⟩ := c
      cases ce with
      | builtin b => cases b <;> simp
      | _ => simp

/-- One operation's step, whatever its kind, as one predicate: 'quiet' (it yields v, the world stays) or 'loud'. -/
def Ev (P : Program) (G : Cfg) (o : Oper) (v : Value) (a : Act) (w : World) : Prop :=
  (kindOf P G.F o = 0 ∧ ∀ w2, (execOp a.eval o).run P w2 = .ok (.value v) w2) ∨ (kindOf P G.F o = 1 ∧ ∀ w2, G.S w2 → (execOp a.eval o).run P w2 = .ok (.value v) w2) ∨ (kindOf P G.F o = 3 ∧ Stays P o v a w)
theorem quiet_iff {o : Oper} {r : List Oper} {a : Act} {w : World} (hw : Region.wanted o (yielded ops a.tmps) = true) (hk : kindOf P G.F o ≠ 2) :
    wpE P ops G R (o :: r) a w ↔ ∃ v, Ev P G o v a w ∧ wpE P ops G R r (a.put o.dst v) w := by
  rw [wpE, if_pos hw]
  rcases kind_lt P G.F o with h | h | h | h
  · rw [if_pos h]
    exact ⟨fun ⟨v, h1, h2⟩ => ⟨v, .inl ⟨h, h1⟩, h2⟩, fun ⟨v, h1, h2⟩ => ⟨v, by rcases h1 with ⟨_, h1⟩ | ⟨h', _⟩ | ⟨h', _⟩ <;> first | exact h1 | omega, h2⟩⟩
  · rw [if_neg (by omega), if_pos h]
    exact ⟨fun ⟨v, h1, h2⟩ => ⟨v, .inr (.inl ⟨h, h1⟩), h2⟩, fun ⟨v, h1, h2⟩ => ⟨v, by rcases h1 with ⟨h', _⟩ | ⟨_, h1⟩ | ⟨h', _⟩ <;> first | exact h1 | omega, h2⟩⟩
  · exact absurd h hk
  · rw [if_neg (by omega), if_neg (by omega), if_pos h]
    exact ⟨fun ⟨v, h1, h2⟩ => ⟨v, .inr (.inr ⟨h, h1⟩), h2⟩, fun ⟨v, h1, h2⟩ => ⟨v, by rcases h1 with ⟨h', _⟩ | ⟨h', _⟩ | ⟨_, h1⟩ <;> first | exact h1 | omega, h2⟩⟩
theorem loud_iff {o : Oper} {r : List Oper} {a : Act} {w : World} (hw : Region.wanted o (yielded ops a.tmps) = true) (hk : kindOf P G.F o = 2) :
    wpE P ops G R (o :: r) a w ↔ o.wp P a w (fun a' w' => (G.S w' ∧ (grows G.G G.F o = true → Below w.heap.size w w')) ∧ wpE P ops G R r a' w') QF := by
  rw [wpE, if_pos hw, if_neg (by omega), if_neg (by omega), if_neg (by omega)]
theorem skip_iff {o : Oper} {r : List Oper} {a : Act} {w : World} (hw : ¬ Region.wanted o (yielded ops a.tmps) = true) :
    wpE P ops G R (o :: r) a w ↔ wpE P ops G R r (a.put o.dst undef) w := by rw [wpE, if_neg hw]
theorem wpE_mono {l l' : List Oper} (h : ∀ a w, G.S w → wpE P ops G R l a w → wpE P ops G R l' a w) (o : Oper) (a : Act) (w : World) (hS : G.S w) (hh : wpE P ops G R (o :: l) a w) : wpE P ops G R (o :: l') a w := by
  by_cases hw : Region.wanted o (yielded ops a.tmps) = true
  · by_cases hk : kindOf P G.F o = 2
    · rw [loud_iff hw hk] at hh ⊢
      exact wp_imp (fun a' w' hx => ⟨hx.1, h _ _ hx.1.1 hx.2⟩) hh
    · rw [quiet_iff hw hk] at hh ⊢
      obtain ⟨v, h1, h2⟩ := hh
      exact ⟨v, h1, h _ _ hS h2⟩
  · rw [skip_iff hw] at hh ⊢
    exact h _ _ hS hh
theorem Ev.same {o : Oper} {v : Value} {a a' : Act} {w : World} (h : Ev P G o v a w) (he : execOp a'.eval o = execOp a.eval o) : Ev P G o v a' w := by
  unfold Ev Stays at *
  rw [he]
  exact h
/-- Behind an operation that lets what was there stand (or where it hangs on S alone) the evidence holds still. -/
theorem Ev.later {o : Oper} {v : Value} {a : Act} {w w' : World} (h : Ev P G o v a w) (hb : kindOf P G.F o = 3 → Below w.heap.size w w') : Ev P G o v a w' := by
  rcases h with h | h | ⟨h1, h2⟩
  · exact .inl h
  · exact .inr (.inl h)
  · exact .inr (.inr ⟨h1, fun w2 h3 => h2 w2 (bnx (hb h1) h3)⟩)
/-- .. and ahead of it, where it hangs on nothing, or on S. -/
theorem Ev.any {o : Oper} {v : Value} {a : Act} {w w' : World} (h : Ev P G o v a w) (hk : kindOf P G.F o ≠ 3) : Ev P G o v a w' := by
  rcases h with h | h | ⟨h1, _⟩
  · exact .inl h
  · exact .inr (.inl h)
  · exact absurd h1 hk
theorem Ev.run {o : Oper} {v : Value} {a : Act} {w : World} (h : Ev P G o v a w) (hS : G.S w) : (execOp a.eval o).run P w = .ok (.value v) w := by
  rcases h with ⟨_, h⟩ | ⟨_, h⟩ | ⟨_, h⟩
  · exact h w
  · exact h w hS
  · exact h w (Below.refl _ _)
theorem Ev.det {o : Oper} {v v' : Value} {a : Act} {w : World} (h : Ev P G o v a w) (h' : Ev P G o v' a w) (hS : G.S w) : v' = v := by
  have e := h'.run hS
  rw [h.run hS] at e
  injection e with e _
  injection e with e
  exact e.symm

theorem swap_ {oj oi : Oper} {r : List Oper} {a : Act} {w : World} (hc : comm P ops G.G G.F oj oi = true) (hsj : ∀ cs b, oj.op ≠ .select cs b) (hsi : ∀ cs b, oi.op ≠ .select cs b) (hS : G.S w)
    (h : wpE P ops G R (oj :: oi :: r) a w) : wpE P ops G R (oi :: oj :: r) a w := by
  simp only [comm, Bool.and_eq_true] at hc
  obtain ⟨⟨hji, hij⟩, hk⟩ := hc
  simp only [commK, Bool.or_eq_true, Bool.and_eq_true, beq_iff_eq] at hk
  obtain ⟨_, hne, _⟩ := Oper.apart_spec hij
  -- what j, i see of the frame before and behind the other
  have ji := fun v => same_put hji hsi a v
  have ij := fun v => same_put hij hsj a v
  by_cases hwj : Region.wanted oj (yielded ops a.tmps) = true
  case neg =>
    rw [skip_iff hwj] at h
    by_cases hwi : Region.wanted oi (yielded ops a.tmps) = true
    case neg =>
      rw [skip_iff (by rw [(ji undef).2]; exact hwi)] at h
      rw [skip_iff hwi, skip_iff (by rw [(ij undef).2]; exact hwj), Act.put_comm a undef undef hne]
      exact h
    case pos =>
      by_cases hi2 : kindOf P G.F oi = 2
      · rw [loud_iff (by rw [(ji undef).2]; exact hwi) hi2] at h
        rw [loud_iff hwi hi2]
        refine wp_imp ?_ (wp_put hji hsi h)
        rintro a' w' ⟨hf, h1, h2⟩
        refine ⟨h1, ?_⟩
        rw [skip_iff (by rw [(same_fm hij hsj hf).2]; exact hwj)]
        exact h2
      · rw [quiet_iff (by rw [(ji undef).2]; exact hwi) hi2] at h
        obtain ⟨v, h1, h2⟩ := h
        rw [quiet_iff hwi hi2]
        refine ⟨v, h1.same (ji undef).1.symm, ?_⟩
        rw [skip_iff (by rw [(ij v).2]; exact hwj), Act.put_comm a v undef hne]
        exact h2
  case pos =>
    by_cases hwi : Region.wanted oi (yielded ops a.tmps) = true
    case neg =>
      rw [skip_iff hwi]
      by_cases hj2 : kindOf P G.F oj = 2
      · rw [loud_iff hwj hj2] at h
        rw [loud_iff (by rw [(ij undef).2]; exact hwj) hj2]
        refine wp_imp ?_ (wp_putOut hij hsj h)
        rintro a' w' ⟨a1, hf, rfl, h1, h2⟩
        refine ⟨h1, ?_⟩
        rw [skip_iff (by rw [(same_fm hji hsi hf).2]; exact hwi)] at h2
        exact h2
      · rw [quiet_iff hwj hj2] at h
        obtain ⟨v, h1, h2⟩ := h
        rw [quiet_iff (by rw [(ij undef).2]; exact hwj) hj2]
        refine ⟨v, h1.same (ij undef).1, ?_⟩
        rw [skip_iff (by rw [(ji v).2]; exact hwi)] at h2
        rw [Act.put_comm a undef v hne]
        exact h2
    case pos =>
      by_cases hj2 : kindOf P G.F oj = 2
      · -- j is loud: i hangs on nothing, or on S
        rw [loud_iff hwj hj2] at h
        have hi3 : kindOf P G.F oi ≠ 3 := by
          rcases hk with (((h' | h') | h') | h') | h' <;> omega
        have hi2 : kindOf P G.F oi ≠ 2 := by
          rcases hk with (((h' | h') | h') | h') | h' <;> omega
        obtain ⟨a1, w1, hf1, ⟨hS1, _⟩, h1⟩ := wp_ex (wp_form hsj h)
        have hs1 := same_fm hji hsi hf1
        rw [quiet_iff (by rw [hs1.2]; exact hwi) hi2] at h1
        obtain ⟨u, h3, _⟩ := h1
        have h3' : Ev P G oi u a w := (h3.same hs1.1.symm).any hi3
        rw [quiet_iff hwi hi2]
        refine ⟨u, h3', ?_⟩
        rw [loud_iff (by rw [(ij u).2]; exact hwj) hj2]
        refine wp_imp ?_ (wp_putOut hij hsj h)
        rintro a' w' ⟨a2, hf2, rfl, h4, h5⟩
        refine ⟨h4, ?_⟩
        have hs2 := same_fm hji hsi hf2
        rw [quiet_iff (by rw [hs2.2]; exact hwi) hi2] at h5
        obtain ⟨u', h6, h7⟩ := h5
        have e : u' = u := (h3'.any hi3).det (h6.same hs2.1.symm) h4.1
        rw [e] at h7
        exact h7
      · rw [quiet_iff hwj hj2] at h
        obtain ⟨v, hv, h2⟩ := h
        by_cases hi2 : kindOf P G.F oi = 2
        · rw [loud_iff (by rw [(ji v).2]; exact hwi) hi2] at h2
          rw [loud_iff hwi hi2]
          refine wp_imp ?_ (wp_put hji hsi h2)
          rintro a' w' ⟨hf, h3, h4⟩
          refine ⟨h3, ?_⟩
          have hs' := same_fm hij hsj hf
          rw [quiet_iff (by rw [hs'.2]; exact hwj) hj2]
          refine ⟨v, (hv.same hs'.1).later fun h3k => h3.2 ?_, h4⟩
          rcases hk with (((h' | h') | h') | h') | h'
          · omega
          · omega
          · omega
          · omega
          · rcases h'.2 with h'' | h''
            · omega
            · exact h''
        · rw [quiet_iff (by rw [(ji v).2]; exact hwi) hi2] at h2
          obtain ⟨u, h3, h4⟩ := h2
          rw [quiet_iff hwi hi2]
          refine ⟨u, h3.same (ji v).1.symm, ?_⟩
          rw [quiet_iff (by rw [(ij u).2]; exact hwj) hj2]
          exact ⟨v, hv.same (ij u).1, by rw [Act.put_comm a u v hne]; exact h4⟩

theorem head_ {i : Nat} {o : Oper} {r : List Oper} {a : Act} {w : World} {Q : Exit → Act → World → Prop} (hi : ops[i]? = some o) (hS : G.S w) (h : wpE P ops G R (o :: r) a w) : wpOp P ops Q i (fun a' w' => G.S w' ∧ wpE P ops G R r a' w') a w := by
  unfold wpOp
  simp only [hi]
  split
  · rename_i hw
    refine .inl ?_
    by_cases hk : kindOf P G.F o = 2
    · rw [loud_iff hw hk] at h
      exact wp_imp (fun _ _ hx => ⟨hx.1.1, hx.2⟩) h
    · rw [quiet_iff hw hk] at h
      obtain ⟨v, h1, h2⟩ := h
      rw [Oper.wp, h1.run hS]
      exact ⟨hS, h2⟩
  · rename_i hw
    rw [skip_iff hw] at h
    exact ⟨hS, h⟩

/-- The operations of a list of places. -/
def lst (ops : Array Oper) (L : List Nat) : List Oper := L.filterMap fun i => ops[i]?
theorem lst_cons {i : Nat} {o : Oper} {L : List Nat} (h : ops[i]? = some o) : lst ops (i :: L) = o :: lst ops L := by simp [lst, h]

def commI (P : Program) (ops : Array Oper) (G : Bool) (F : List Tmp) (j i : Nat) : Bool :=
  match ops[j]?, ops[i]? with
  | some oj, some oi => comm P ops G F oj oi
  | _, _ => false
theorem commI_spec {b : Bool} {F : List Tmp} {j i : Nat} (h : commI P ops b F j i = true) : ∃ oj oi, ops[j]? = some oj ∧ ops[i]? = some oi ∧ comm P ops b F oj oi = true := by
  unfold commI at h
  split at h
  · rename_i oj oi h1 h2; exact ⟨oj, oi, h1, h2, h⟩
  · cases h

theorem move_ (hN : Region.noSelect ops = true) {i : Nat} {s : List Nat} : ∀ (p : List Nat), (∀ j ∈ p, commI P ops G.G G.F j i = true) → ∀ a w, G.S w → wpE P ops G R (lst ops (p ++ i :: s)) a w → wpE P ops G R (lst ops (i :: (p ++ s))) a w
  | [], _, _, _, _, h => h
  | j :: p, hp, a, w, hS, h => by
    obtain ⟨oj, oi, h1, h2, hc⟩ := commI_spec (hp j List.mem_cons_self)
    have ih := move_ hN (s := s) p (fun k hk => hp k (List.mem_cons_of_mem _ hk))
    rw [List.cons_append, lst_cons h1] at h
    have h' := wpE_mono ih oj a w hS h
    rw [lst_cons h2] at h'
    rw [lst_cons h2, List.cons_append, lst_cons h1]
    exact swap_ hc (Region.noSelect_spec hN j oj · · h1) (Region.noSelect_spec hN i oi · · h2) hS h'

/-! ### What each operation waits for -/
def step (M : List Nat) (s : Nat) (e : Edge) : Nat := if Region.binds .any e then s ||| 2 ^ e.on ||| M.getD e.on 0 else s
def masks (ops : Array Oper) : List Nat := ops.toList.foldl (fun M o => M ++ [o.after.toList.foldl (step M) 0]) []
def okMasks (ops : Array Oper) (M : List Nat) : Bool :=
  (List.range ops.size).all fun i => match ops[i]? with
    | none => false
    | some o => (M.getD i 0 == o.after.toList.foldl (step M) 0) && o.after.toList.all fun e => !Region.binds .any e || decide (e.on < i)
theorem fold_spec (M : List Nat) (j : Nat) : ∀ (l : List Edge) (s : Nat), (l.foldl (step M) s).testBit j = true → s.testBit j = true ∨ ∃ e ∈ l, Region.binds .any e = true ∧ (e.on = j ∨ (M.getD e.on 0).testBit j = true)
  | [], s, h => .inl h
  | e :: l, s, h => by
    rw [List.foldl_cons] at h
    rcases fold_spec M j l _ h with h1 | ⟨e', he, h2⟩
    · unfold step at h1
      split at h1
      · rename_i hb
        rw [Nat.testBit_or, Nat.testBit_or, Bool.or_eq_true, Bool.or_eq_true] at h1
        rcases h1 with (h1 | h1) | h1
        · exact .inl h1
        · rw [Nat.testBit_two_pow] at h1
          exact .inr ⟨e, List.mem_cons_self, hb, .inl (by simpa using h1)⟩
        · exact .inr ⟨e, List.mem_cons_self, hb, .inr h1⟩
      · exact .inl h1
    · exact .inr ⟨e', List.mem_cons_of_mem _ he, h2⟩

/-- What is listed has all that it waits for listed. -/
def Closed (ops : Array Oper) (listed : Array Bool) : Prop := ∀ k o, ops[k]? = some o → listed.getD k true = true → ∀ e ∈ o.after, Region.binds .any e = true → listed.getD e.on false = true
theorem getD_tf {listed : Array Bool} {i : Nat} (h : listed.getD i false = true) : listed.getD i true = true := by
  rcases Nat.lt_or_ge i listed.size with h' | h'
  · simpa [h'] using h
  · simp [Array.getElem?_eq_none h'] at h
theorem dep_listed {M : List Nat} (hM : okMasks ops M = true) {listed : Array Bool} (hc : Closed ops listed) (n : Nat) : ∀ i, i ≤ n → (∀ o, ops[i]? = some o → ∀ e ∈ o.after, Region.binds .any e = true → listed.getD e.on false = true) → i < ops.size → ∀ j, (M.getD i 0).testBit j = true → listed.getD j false = true := by
  induction n with
  | zero =>
    intro i hi hr hlt j hb
    obtain rfl : i = 0 := by omega
    have h1 := List.all_eq_true.1 hM 0 (List.mem_range.2 hlt)
    cases ho : ops[0]? with
    | none => rw [ho] at h1; cases h1
    | some o =>
      rw [ho] at h1
      simp only [Bool.and_eq_true, beq_iff_eq] at h1
      rw [h1.1] at hb
      rcases fold_spec M j _ _ hb with h2 | ⟨e, he, hbd, h3⟩
      · simp at h2
      · have := List.all_eq_true.1 h1.2 e he
        simp [hbd] at this
  | succ n ih =>
    intro i hi hr hlt j hb
    have h1 := List.all_eq_true.1 hM i (List.mem_range.2 hlt)
    cases ho : ops[i]? with
    | none => rw [ho] at h1; cases h1
    | some o =>
      rw [ho] at h1
      simp only [Bool.and_eq_true, beq_iff_eq] at h1
      rw [h1.1] at hb
      rcases fold_spec M j _ _ hb with h2 | ⟨e, he, hbd, h3⟩
      · simp at h2
      · have hei : e.on < i := by have := List.all_eq_true.1 h1.2 e he; simpa [hbd] using this
        have hl := hr o ho e (by simpa using he) hbd
        rcases h3 with rfl | h3
        · exact hl
        · exact ih e.on (by omega) (fun o' ho' e' he' hb' => hc e.on o' ho' (getD_tf hl) e' he' hb') (by omega) j h3

theorem any_of (hN : Region.noSelect ops = true) {M : List Nat} (hM : okMasks ops M = true) {Q : Exit → Act → World → Prop} : ∀ (n : Nat) (L : List Nat) (listed : Array Bool) (a : Act) (w : World), L.length = n → listed.size = ops.size → (∀ i, i ∈ L ↔ i < ops.size ∧ listed.getD i true = false) →
    L.Pairwise (fun j i => i ≠ j ∧ ((M.getD i 0).testBit j = true ∨ commI P ops G.G G.F j i = true)) → Closed ops listed → G.S w → wpE P ops G (Q .normal) (lst ops L) a w → wpAny P .any ops Q n listed a w := by
  intro n
  induction n with
  | zero =>
    intro L listed a w hn hsz hL hp hc hS h
    obtain rfl : L = [] := List.eq_nil_of_length_eq_zero hn
    refine ⟨?_, h⟩
    cases hr : Region.ready .any ops listed with
    | nil => rfl
    | cons x xs =>
      have hx := mem_ready.1 (by rw [hr]; exact List.mem_cons_self : x ∈ Region.ready .any ops listed)
      obtain ⟨h0, o, ho, _⟩ := hx
      have := (hL x).2 ⟨(Array.getElem?_eq_some_iff.1 ho).1, h0⟩
      cases this
  | succ n ih =>
    intro L listed a w hn hsz hL hp hc hS h
    refine ⟨fun h0 => ?_, fun i hi => ?_⟩
    · -- something is always ready: the first of L
      exfalso
      have hfirst : ∀ m, ∀ i, i < m → i < ops.size → listed.getD i true = false → False := by
        intro m
        induction m with
        | zero => intro i hi; omega
        | succ m ihm =>
          intro i hi hlt hun
          by_cases hall : ∀ o, ops[i]? = some o → ∀ e ∈ o.after, Region.binds .any e = true → listed.getD e.on false = true
          · have : i ∈ Region.ready .any ops listed := mem_ready.2 ⟨hun, ops[i], Array.getElem?_eq_getElem hlt, hall _ (Array.getElem?_eq_getElem hlt)⟩
            rw [h0] at this
            cases this
          · have h1 := List.all_eq_true.1 hM i (List.mem_range.2 hlt)
            rw [Array.getElem?_eq_getElem hlt] at h1
            simp only [Bool.and_eq_true, beq_iff_eq] at h1
            apply hall
            intro o ho e he hb
            rw [Array.getElem?_eq_getElem hlt] at ho
            injection ho with ho
            subst ho
            have hei : e.on < i := by have := List.all_eq_true.1 h1.2 e (by simpa using he); simpa [hb] using this
            cases hge : listed.getD e.on true with
            | false => exact (ihm e.on (by omega) (by omega) hge).elim
            | true =>
              have : e.on < listed.size := by omega
              simpa [this] using hge
      cases L with
      | nil => simp at hn
      | cons x xs =>
        obtain ⟨hx1, hx2⟩ := (hL x).1 List.mem_cons_self
        exact hfirst (x + 1) x (by omega) hx1 hx2
    · obtain ⟨h0, o, ho, hall⟩ := mem_ready.1 hi
      have hlt : i < ops.size := (Array.getElem?_eq_some_iff.1 ho).1
      obtain ⟨p, s, rfl⟩ := List.append_of_mem ((hL i).2 ⟨hlt, h0⟩)
      have hpa := List.pairwise_append.1 hp
      have hps : (p ++ s).Pairwise (fun j i => i ≠ j ∧ ((M.getD i 0).testBit j = true ∨ commI P ops G.G G.F j i = true)) :=
        hp.sublist ((List.Sublist.refl p).append (List.sublist_cons_self i s))
      have hcm : ∀ j ∈ p, commI P ops G.G G.F j i = true := fun j hj => by
        rcases (hpa.2.2 j hj i List.mem_cons_self).2 with h1 | h1
        · have := dep_listed hM hc i i (Nat.le_refl _) (fun o' ho' => by rw [ho] at ho'; injection ho' with ho'; subst ho'; exact hall) hlt j h1
          have hun := ((hL j).1 (List.mem_append_left _ hj)).2
          rw [getD_tf this] at hun
          cases hun
        · exact h1
      have h' := move_ hN p hcm a w hS h
      rw [lst_cons ho] at h'
      refine wpOp_mono (fun a' w' hx => ih (p ++ s) (listed.setIfInBounds i true) a' w' ?_ (by simpa using hsz) ?_ hps ?_ hx.1 hx.2) (head_ ho hS h')
      · simp at hn ⊢; omega
      · intro k
        by_cases hik : i = k
        · subst hik
          have hnp : i ∉ p := fun hm => (hpa.2.2 i hm i List.mem_cons_self).1 rfl
          have hns : i ∉ s := fun hm => ((List.pairwise_cons.1 hpa.2.1).1 i hm).1 rfl
          have hls : i < listed.size := by omega
          simp [hnp, hns, hls]
        · rw [getD_set_ne true hik, ← hL k]
          simp [Ne.symm hik]
      · intro k ok hk hl e he hb
        by_cases hik : i = k
        · subst hik
          rw [ho] at hk
          injection hk with hk
          subst hk
          exact getD_set_true (hall e he hb)
        · rw [getD_set_ne true hik] at hl
          exact getD_set_true (hc k ok hk hl e he hb)

def pairB (P : Program) (ops : Array Oper) (G : Bool) (F : List Tmp) (M : List Nat) : List Nat → Bool
  | [] => true
  | j :: r => r.all (fun i => i != j && ((M.getD i 0).testBit j || commI P ops G F j i)) && pairB P ops G F M r
theorem pairB_spec {b : Bool} {F : List Tmp} {M : List Nat} : ∀ {L : List Nat}, pairB P ops b F M L = true → L.Pairwise (fun j i => i ≠ j ∧ ((M.getD i 0).testBit j = true ∨ commI P ops b F j i = true))
  | [], _ => List.Pairwise.nil
  | j :: r, h => by
    simp only [pairB, Bool.and_eq_true] at h
    refine List.Pairwise.cons (fun i hi => ?_) (pairB_spec h.2)
    have := List.all_eq_true.1 h.1 i hi
    simpa using this
/-- The order L serves for every order that the edges allow. -/
def chk (P : Program) (ops : Array Oper) (G : Bool) (F : List Tmp) (L : List Nat) : Bool :=
  Region.noSelect ops && okMasks ops (masks ops) && pairB P ops G F (masks ops) L && (List.range ops.size).all (fun i => L.contains i) && L.all (fun i => decide (i < ops.size)) && L.length == ops.size

theorem any_at {l l0 : List Oper} {a : Act} {w : World} {Q : Exit → Act → World → Prop} (L : List Nat) (S : World → Prop) (G : Bool) (F : List Tmp) (hc : chk P l.toArray G F L = true) (hl : lst l.toArray L = l0) (hS : S w)
    (h : wpE P l.toArray ⟨S, G, F⟩ (Q .normal) l0 a w) : wpAny P .any l.toArray Q l.toArray.size (Array.replicate l.toArray.size false) a w := by
  subst hl
  simp only [chk, Bool.and_eq_true, beq_iff_eq] at hc
  obtain ⟨⟨⟨⟨⟨h1, h2⟩, h3⟩, h4⟩, h5⟩, h6⟩ := hc
  rw [← h6]
  refine any_of (G := ⟨S, G, F⟩) h1 h2 _ L _ a _ rfl (by rw [Array.size_replicate]; exact h6) (fun i => ?_) (pairB_spec h3) (fun k o hk hl => ?_) hS h
  · constructor
    · intro hi
      have := List.all_eq_true.1 h5 i hi
      simp at this
      simp [h6, this]
    · rintro ⟨hi, _⟩
      have := List.all_eq_true.1 h4 i (List.mem_range.2 hi)
      simpa using this
  · obtain ⟨hk', _⟩ := Array.getElem?_eq_some_iff.1 hk
    rw [← h6] at hk'
    simp [hk'] at hl
theorem region_at {id : Nat} {l l0 : List Oper} {a : Act} {w : World} {Q : Exit → Act → World → Prop} (L : List Nat) (S : World → Prop) (G : Bool) (F : List Tmp) (hm : P.follows .mixedOrders = true) (hc : chk P l.toArray G F L = true) (hl : lst l.toArray L = l0) (hS : S w.drew)
    (h : wpE P l.toArray ⟨S, G, F⟩ (Q .normal) l0 a w.drew) : (Code.region id l.toArray true).wp P Q a w :=
  wp_region_any hm (any_at L S G F hc hl hS h)
theorem lst_all : ∀ (l : List Oper), lst l.toArray (List.range l.length) = l := by
  intro l
  apply List.ext_getElem?
  intro i
  have : lst l.toArray (List.range l.length) = (List.range l.length).filterMap (fun i => l[i]?) := by simp [lst]
  rw [this]
  have e : ∀ (k : Nat), k ≤ l.length → (List.range k).filterMap (fun i => l[i]?) = l.take k := by
    intro k
    induction k with
    | zero => intro _; simp
    | succ k ih =>
      intro hk
      rw [List.range_succ, List.filterMap_append, ih (by omega), List.take_add_one]
      simp [List.getElem?_eq_getElem (show k < l.length by omega)]
  rw [e _ (Nat.le_refl _), List.take_length]
/-- In the order of the text. -/
theorem region_ {id : Nat} {l : List Oper} {a : Act} {w : World} {Q : Exit → Act → World → Prop} (S : World → Prop) (G : Bool) (F : List Tmp) (hm : P.follows .mixedOrders = true) (hc : chk P l.toArray G F (List.range l.length) = true) (hS : S w.drew)
    (h : wpE P l.toArray ⟨S, G, F⟩ (Q .normal) l a w.drew) : (Code.region id l.toArray true).wp P Q a w := region_at _ S G F hm hc (lst_all l) hS h

/-! ### The steps -/
def isX (P : Program) (o : Oper) : Bool :=
  match o.op with
  | .convert s d _ => match P.underlying s, P.underlying d with
    | some .string, some (.slice _) => true
    | _, _ => false
  | .move _ | .assign _ | .pick .. | .binOp .. | .unOp .. | .slice .. | .indexAddr .. | .extract .. | .field .. | .fieldAddr .. | .makeInterface .. | .nilCheck _ | .index .. | .build .. | .load .. => false
  | .call c => match c.callee with
    | .builtin .len | .builtin .cap => false
    | _ => true
  | _ => true
theorem rd_of (F : List Tmp) (d : Option Tmp) : (match d with | some d => if F.contains d then 3 else 1 | none => 1) = 1 ∨ (match d with | some d => if F.contains d then 3 else 1 | none => 1) = 3 := by
  cases d with
  | none => exact .inl rfl
  | some d => by_cases h : F.contains d = true <;> simp only [h, if_true, Bool.false_eq_true, if_false] <;> simp
theorem kind_of_not {F : List Tmp} {o : Oper} (h : isX P o = false) : kindOf P F o ≠ 2 := by
  obtain ⟨d, op, ty, pos, af, g⟩ := o
  have hrd := rd_of F d
  cases op <;> simp only [isX, kindOf] at h ⊢ <;> first | (simp; done) | omega | (cases h; done) | skip
  case convert s d' x =>
    split at h
    · cases h
    · split <;> first | omega | (simp; done) | (exact (‹∀ elem, P.underlying s = some TypeDesc.string → P.underlying d' = some (TypeDesc.slice elem) → False› _ (by assumption) (by assumption)).elim)
  case call c =>
    obtain ⟨ce, ar, ts⟩ := c
    cases ce with
    | builtin b => cases b <;> simp at h ⊢
    | _ => simp at h
theorem kind_of_x {F : List Tmp} {o : Oper} (h : isX P o = true) : kindOf P F o = 2 := by
  obtain ⟨d, op, ty, pos, af, g⟩ := o
  cases op <;> simp only [isX, kindOf] at h ⊢ <;> first | rfl | (cases h; done) | skip
  case convert s d' x =>
    split at h
    · rename_i e1 e2; simp only [e1, e2]
    · cases h
  case call c =>
    obtain ⟨ce, ar, ts⟩ := c
    cases ce with
    | builtin b => cases b <;> simp at h ⊢
    | _ => simp
theorem kind_load {F : List Tmp} {d : Option Tmp} {x : Operand} {t ty : TypeId} {pos : String} {af : Array Edge} {g : Option (Nat × Bool)} : kindOf P F ⟨d, .load t x, ty, pos, af, g⟩ = 1 ∨ kindOf P F ⟨d, .load t x, ty, pos, af, g⟩ = 3 := by
  have := kind_lt P F ⟨d, .load t x, ty, pos, af, g⟩
  simp only [kindOf]
  cases d with
  | none => exact .inl rfl
  | some d => by_cases h : F.contains d = true <;> simp only [h, if_true, Bool.false_eq_true, if_false] <;> simp
theorem kind_str {F : List Tmp} {d : Option Tmp} {x : Operand} {s t ty : TypeId} {pos : String} {af : Array Edge} {g : Option (Nat × Bool)} {e : TypeId} (hs : P.underlying s = some (.slice e)) : kindOf P F ⟨d, .convert s t x, ty, pos, af, g⟩ = 1 ∨ kindOf P F ⟨d, .convert s t x, ty, pos, af, g⟩ = 3 := by
  simp only [kindOf, hs]
  cases d with
  | none => exact .inl rfl
  | some d => by_cases h : F.contains d = true <;> simp only [h, if_true, Bool.false_eq_true, if_false] <;> simp
variable {r : List Oper} {o : Oper} {a : Act} {w : World}
theorem e_nil (h : R a w) : wpE P ops G R [] a w := h
theorem e_u (hw : Region.wanted o (yielded ops a.tmps) = false) (h : wpE P ops G R r (a.put o.dst undef) w) : wpE P ops G R (o :: r) a w := by
  rw [skip_iff (by rw [hw]; simp)]
  exact h
theorem e_p {v : Value} (hk : isX P o = false) (hw : Region.wanted o (yielded ops a.tmps) = true) (hy : ∀ w2, (execOp a.eval o).run P w2 = .ok (.value v) w2) (h : wpE P ops G R r (a.put o.dst v) w) : wpE P ops G R (o :: r) a w := by
  have hk2 := kind_of_not (P := P) (F := G.F) hk
  rw [quiet_iff hw hk2]
  refine ⟨v, ?_, h⟩
  rcases kind_lt P G.F o with h' | h' | h' | h'
  · exact .inl ⟨h', hy⟩
  · exact .inr (.inl ⟨h', fun w2 _ => hy w2⟩)
  · exact absurd h' hk2
  · exact .inr (.inr ⟨h', fun w2 _ => hy w2⟩)
/-- A read of what lies there by now (its slot is among F), or of what S tells. -/
theorem e_r {v : Value} (hk : kindOf P G.F o = 1 ∨ kindOf P G.F o = 3) (hw : Region.wanted o (yielded ops a.tmps) = true) (hy : (kindOf P G.F o = 3 ∧ Stays P o v a w) ∨ (∀ w2, G.S w2 → (execOp a.eval o).run P w2 = .ok (.value v) w2) ∧ (kindOf P G.F o = 3 → Stays P o v a w)) (h : wpE P ops G R r (a.put o.dst v) w) : wpE P ops G R (o :: r) a w := by
  rw [quiet_iff hw (by omega)]
  refine ⟨v, ?_, h⟩
  rcases hk with hk | hk
  · rcases hy with ⟨h', _⟩ | ⟨h1, _⟩
    · omega
    · exact .inr (.inl ⟨hk, h1⟩)
  · rcases hy with ⟨_, h1⟩ | ⟨_, h1⟩
    · exact .inr (.inr ⟨hk, h1⟩)
    · exact .inr (.inr ⟨hk, h1 hk⟩)
/-- What is left behind an operation of whatever kind. -/
def Seg (P : Program) (ops : Array Oper) (G : Cfg) (R : Act → World → Prop) (o : Oper) (r : List Oper) (w : World) (e : Exit) (a' : Act) (w' : World) : Prop := e = .normal ∧ (G.S w' ∧ (grows G.G G.F o = true → Below w.heap.size w w')) ∧ wpE P ops G R r a' w'
theorem Seg.go {a' : Act} {w' : World} (hS : G.S w') (hb : grows G.G G.F o = true → Below w.heap.size w w') (h : wpE P ops G R r a' w') : Seg P ops G R o r w .normal a' w' := ⟨rfl, ⟨hS, hb⟩, h⟩
theorem e_x (hk : isX P o = true) (hw : Region.wanted o (yielded ops a.tmps) = true) (h : wpList P ops (Seg P ops G R o r w) [o] a w) : wpE P ops G R (o :: r) a w := by
  rw [loud_iff hw (kind_of_x hk)]
  unfold wpList at h
  rw [if_pos hw] at h
  rcases h with h | ⟨_, _, _, h⟩
  · have hq : ∀ (rs : Result Next), o.upon P a (wpList P ops (Seg P ops G R o r w) []) (Seg P ops G R o r w) rs → o.upon P a (fun a' w' => (G.S w' ∧ (grows G.G G.F o = true → Below w.heap.size w w')) ∧ wpE P ops G R r a' w') QF rs := by
      intro rs hh
      cases rs with
      | ok n w' =>
        cases n <;> simp only [Oper.upon] at hh ⊢
        case value u => exact hh.2
        case skip => exact hh.2
        case defer d => exact hh.2
        case enter f args => exact Calls.mono hh (fun e w'' he => by
            cases e with
            | returned v => exact he.2
            | panicked c => exact Exit.noConfusion he.1
            | outgrown => obtain ⟨_, _, he⟩ := he; exact Exit.noConfusion he.1)
        case row row args => exact Rows.mono hh (fun _ _ he => he.2)
      | halt x w' =>
        cases x <;> simp only [Oper.upon] at hh ⊢
        case panic u => exact Exit.noConfusion hh.1
    exact hq _ h
  · exact Exit.noConfusion h.1
/-- string(b), b as S tells. -/
theorem e_strS {d : Option Tmp} {x : Operand} {src dst ty e : TypeId} {pos : String} {af : Array Edge} {g : Option (Nat × Bool)} {B : Nat} {A : Option Addr} {n c : Nat} {l : List UInt8}
    (hs : P.underlying src = some (.slice e)) (he : P.underlying e = some (.int .u8)) (hd : P.underlying dst = some .string) (h : ∀ w2, G.S w2 → Rd w2 B 1 A n c (bv l)) (hS : G.S w) (hB : B ≤ w.heap.size) (hx : a.eval x = .slice A n c)
    (hw : Region.wanted ⟨d, .convert src dst x, ty, pos, af, g⟩ (yielded ops a.tmps) = true) (hk : wpE P ops G R r (a.put d (.string ⟨l.toArray⟩)) w) : wpE P ops G R (⟨d, .convert src dst x, ty, pos, af, g⟩ :: r) a w := by
  refine e_r (kind_str hs) hw (.inr ⟨fun w2 hS2 => ?_, fun _ w2 hb => ?_⟩) hk
  · unfold execOp
    simp only [hx]
    rw [run_bind_str hs he hd (h w2 hS2)]
  · unfold execOp
    simp only [hx]
    rw [run_bind_str hs he hd ((h w hS).up (hb.mono hB))]
theorem run_load1 {x : Operand} {t : TypeId} {d : Option Tmp} {ty : TypeId} {pos : String} {af : Array Edge} {g : Option (Nat × Bool)} {ad : Addr} {v : Value} {ds : TypeDesc}
    (ht : P.underlying t = some ds) (hns : (match ds with | .struct _ => false | .array _ _ => false | _ => true) = true) (hx : a.eval x = .pointer (some ad)) {w2 : World} (hc2 : w2.cell? ad = some v) :
    (execOp a.eval ⟨d, .load t x, ty, pos, af, g⟩).run P w2 = .ok (.value v) w2 := by
  have ha : (isAgg t).run P w2 = .ok false w2 := by
    unfold isAgg
    rw [run_bind_of' (run_underlying ht w2)]
    cases ds <;> simp at hns <;> rfl
  unfold execOp
  simp only [hx]
  have hl : (Instr.loadAt t (.pointer (some ad))).run P w2 = .ok v w2 := by
    unfold Instr.loadAt loadVar
    simp only [Instr.sureAddr, Sem.run_bind, Sem.run_pure, Result.andThen_ok, ha]
    simp [load, Sem.run, hc2]
  simp only [Sem.run_bind, hl, Result.andThen_ok, Sem.run_pure]
/-- x = *p, of what S tells. -/
theorem e_loadS {d : Option Tmp} {x : Operand} {t ty : TypeId} {pos : String} {af : Array Edge} {g : Option (Nat × Bool)} {ad : Addr} {v : Value} {ds : TypeDesc}
    (ht : P.underlying t = some ds) (hns : (match ds with | .struct _ => false | .array _ _ => false | _ => true) = true) (hc : ∀ w2, G.S w2 → w2.cell? ad = some v) (hS : G.S w) (hx : a.eval x = .pointer (some ad))
    (hw : Region.wanted ⟨d, .load t x, ty, pos, af, g⟩ (yielded ops a.tmps) = true) (hk : wpE P ops G R r (a.put d v) w) : wpE P ops G R (⟨d, .load t x, ty, pos, af, g⟩ :: r) a w :=
  e_r kind_load hw (.inr ⟨fun w2 hS2 => run_load1 ht hns hx (hc w2 hS2), fun _ w2 hb => run_load1 ht hns hx ((hb.cell (World.block_lt_of_cell? w ad (hc w hS))).trans (hc w hS))⟩) hk
/-- x = *p, p in memory that lies there by now (its slot is among F). -/
theorem e_load {d : Tmp} {x : Operand} {t ty : TypeId} {pos : String} {af : Array Edge} {g : Option (Nat × Bool)} {ad : Addr} {v : Value} {ds : TypeDesc}
    (ht : P.underlying t = some ds) (hns : (match ds with | .struct _ => false | .array _ _ => false | _ => true) = true) (hc : w.cell? ad = some v) (hx : a.eval x = .pointer (some ad))
    (hF : G.F.contains d = true) (hw : Region.wanted ⟨some d, .load t x, ty, pos, af, g⟩ (yielded ops a.tmps) = true) (hk : wpE P ops G R r (a.put (some d) v) w) : wpE P ops G R (⟨some d, .load t x, ty, pos, af, g⟩ :: r) a w :=
  e_r kind_load hw (.inl ⟨by simp only [kindOf, hF, if_true], fun w2 hb => run_load1 ht hns hx ((hb.cell (World.block_lt_of_cell? w ad hc)).trans hc)⟩) hk
theorem run_loadR {x : Operand} {t : TypeId} {d : Option Tmp} {ty : TypeId} {pos : String} {af : Array Edge} {g : Option (Nat × Bool)} {b o : Nat} {cs : List Value} {ds : TypeDesc}
    (hu : P.underlying t = some ds) (hd : ds.isRow = true) (hi : (P.info? t).map (·.size) = some cs.length) (hx : a.eval x = .pointer (some ⟨b, o, none⟩)) {w2 : World} (hc : w2.rangeAt b o cs) :
    (execOp a.eval ⟨d, .load t x, ty, pos, af, g⟩).run P w2 = .ok (.value (.agg cs.toArray)) w2 := by
  unfold execOp
  simp only [hx, Sem.run_bind, run_loadAt_mid w2 b o t cs ds hc hu hd hi, Result.andThen_ok, Sem.run_pure]
/-- x = *p, a struct or an array, of what S tells. -/
theorem e_rowS {d : Option Tmp} {x : Operand} {t ty : TypeId} {pos : String} {af : Array Edge} {g : Option (Nat × Bool)} {b o : Nat} {cs : List Value} {ds : TypeDesc}
    (hu : P.underlying t = some ds) (hd : ds.isRow = true) (hi : (P.info? t).map (·.size) = some cs.length) (hx : a.eval x = .pointer (some ⟨b, o, none⟩)) (hne : cs ≠ []) (hc : ∀ w2, G.S w2 → w2.rangeAt b o cs) (hS : G.S w)
    (hw : Region.wanted ⟨d, .load t x, ty, pos, af, g⟩ (yielded ops a.tmps) = true) (hk : wpE P ops G R r (a.put d (.agg cs.toArray)) w) : wpE P ops G R (⟨d, .load t x, ty, pos, af, g⟩ :: r) a w :=
  e_r kind_load hw (.inr ⟨fun w2 hS2 => run_loadR hu hd hi hx (hc w2 hS2), fun _ w2 hb => run_loadR hu hd hi hx (fun j v hv => (hb.cell (p := ⟨b, o + j, none⟩) (by
    have := World.block_lt_of_cell? w _ (hc w hS j v hv); exact this)).trans (hc w hS j v hv))⟩) hk
/-- x = *p, a struct or an array, in memory that lies there by now (its slot is among F). -/
theorem e_row {d : Tmp} {x : Operand} {t ty : TypeId} {pos : String} {af : Array Edge} {g : Option (Nat × Bool)} {b o : Nat} {cs : List Value} {ds : TypeDesc}
    (hu : P.underlying t = some ds) (hd : ds.isRow = true) (hi : (P.info? t).map (·.size) = some cs.length) (hx : a.eval x = .pointer (some ⟨b, o, none⟩)) (hc : w.rangeAt b o cs)
    (hF : G.F.contains d = true) (hw : Region.wanted ⟨some d, .load t x, ty, pos, af, g⟩ (yielded ops a.tmps) = true) (hk : wpE P ops G R r (a.put (some d) (.agg cs.toArray)) w) : wpE P ops G R (⟨some d, .load t x, ty, pos, af, g⟩ :: r) a w :=
  e_r kind_load hw (.inl ⟨by simp only [kindOf, hF, if_true], fun w2 hb => run_loadR hu hd hi hx (fun j v hv => (hb.cell (p := ⟨b, o + j, none⟩) (by
    have := World.block_lt_of_cell? w _ (hc j v hv); exact this)).trans (hc j v hv))⟩) hk
end
end Ord
end Go.Proofs.YtmkidihcdljkiaaGreat

/-
  octet.bytes: the iterator that tells a number's bytes; the writer's put.
-/
set_option linter.unusedSimpArgs false
set_option linter.unusedVariables false
namespace Go.Proofs.YtmkidihcdljkiaaGreat
open Go.RowKit Go.Shelf NumLaw
attribute [local go_sem] Oper.semAt_some

/-- In a round, in the order of the text. -/
theorem Ord.regionIn_ {P : Program} {n : Nat} {id l0 : Nat} {l : List Oper} {a : Act} {w : World} {Q : Exit → Act → World → Prop} (S : World → Prop) (G : Bool) (F : List Tmp) (hm : P.follows .mixedOrders = true) (hc : Ord.chk P l.toArray G F (List.range l.length) = true) (hn : noDefer l.toArray = true) (hQ : ¬ LetsOut Q) (hS : S w.drew)
    (h : Ord.wpE P l.toArray ⟨S, G, F⟩ (Q .normal) l a w.drew) : (Code.region id l.toArray true).wpIn (Fence.wide.inRound l0) n P Q a w :=
  wpIn_region_any hm (any_round hn hQ _ _ _ _ (Ord.any_at _ S G F hc (Ord.lst_all l) hS h))

set_option maxHeartbeats 400000 in
theorem bytes_any (n : Int) (u : Nat) (w : World) :
    Calls Tryz.prog 84 #[.int .i64 n, .int .u64 u] w fun x w' => x = .returned (.func (.func 90) #[] #[.pointer (some ⟨w.heap.size, 0, none⟩), .pointer (some ⟨w.heap.size + 1, 0, none⟩)]) ∧
      w' = (w.alloc (.cells #[.int .i64 n] 3)).alloc (.cells #[.int .u64 u] 106) := by
  go_enter Tryz.func84, Tryz.ntmps84
  go_wp2
  go_ret
  exact ⟨rfl, rfl⟩

theorem bytesN_take {n u k : Nat} (h : k < n) : (bytesN n u).take (k + 1) = (bytesN n u).take k ++ [UInt8.ofNat (u / 256 ^ k % 256)] := by
  have : (bytesN n u)[k]? = some (UInt8.ofNat (u / 256 ^ k % 256)) := by
    induction n generalizing u k with
    | zero => omega
    | succ n ih =>
      cases k with
      | zero => simp [bytesN]
      | succ k =>
        simp only [bytesN, List.getElem?_cons_succ]
        rw [ih (by omega), Nat.div_div_eq_div_mul, Nat.pow_succ, Nat.mul_comm 256]
  rw [take_succ this]

set_option maxHeartbeats 400000 in
theorem bytes_seq (n u g1 g2 : Nat) (m : Nat) (hn : n ≤ 8) (hu : u < 18446744073709551616) (hne : g1 ≠ g2) :
    SeqW Tryz.prog m 90 #[.pointer (some ⟨g1, 0, none⟩), .pointer (some ⟨g2, 0, none⟩)] (fun x : UInt8 => #[.int .u8 (x.toNat : Int)]) (fun k => k = g2) (fun k => k = g2) (bytesN n u)
      (fun W => W.heap[g1]? = some (.cells #[.int .i64 n] 3) ∧ W.heap[g2]? = some (.cells #[.int .u64 u] 106)) := by
  rintro l J Jx W ⟨h1, h2⟩ hJ hJx hY h0
  have hro : Fence.wide.round = none := rfl
  have hc1 : W.cell? ⟨g1, 0, none⟩ = some (.int .i64 n) := blk_cell h1 rfl
  refine callsIn_of_wp Tryz.func90 rfl trivial ?_ hro
  simp only [Tryz.ntmps90, List.size_toArray, List.length_cons, List.length_nil, Nat.reduceAdd, Nat.reduceSub, Array.replicate_succ, Array.replicate_zero, List.push_toArray, List.append_toArray, List.nil_append, List.cons_append]
  gi_wp2
  gi_loopw [5] (fun i wr => ∃ k : Nat, k ≤ n ∧ i = .int .i64 k ∧ J ((bytesN n u).take k) wr ∧ wr.heap[g2]? = some (.cells #[.int .u64 ((u / 256 ^ k : Nat) : Int)] 106)) (fun i wr => n - (intOf i).toNat)
  case atStart => exact ⟨0, by omega, rfl, by simpa using h0, by simpa using h2⟩
  case round =>
    obtain ⟨k, hk, rfl, hj, hb⟩ := hrel
    by_cases hlt : k < n
    · have ht := bytesN_take (u := u) hlt
      have hp : (bytesN n u).take k ++ [UInt8.ofNat (u / 256 ^ k % 256)] <+: bytesN n u := by rw [← ht]; exact List.take_prefix _ _
      have hv : u / 256 ^ (k + 1) = u / 256 ^ k / 256 := by rw [Nat.pow_succ, ← Nat.div_div_eq_div_mul]
      have hvl : u / 256 ^ k < 18446744073709551616 := Nat.lt_of_le_of_lt (Nat.div_le_self _ _) hu
      obtain ⟨fn, tmps, assign, body, hy, hR⟩ := hY _ _ _ hj hp
      have hb1 := blk_cell (i := 0) hb rfl
      have hb2 := blk_free (i := 0) hb
      rw [← ht] at hR
      have Ht := Lib.hid (And.intro ht hv)
      clear ht hp hv
      generalize u / 256 ^ k = v at *
      have e1 : (UInt8.ofNat (v % 256)).toNat = v % 256 := by rw [UInt8.toNat_ofNat']; omega
      rw [e1, show ((v % 256 : Nat) : Int) = (v : Int) % 256 by omega] at hy
      gi_wp2
      refine ⟨fun hd => by simp [Fence.wide] at hd, hR.mono ?_⟩
      rintro e W3 (⟨rfl, hJ3, hk3⟩ | ⟨rfl, hJx3⟩)
      · have hb3 := hk3.2 _ _ rfl hb
        have hb31 := blk_cell (i := 0) hb3 rfl
        have hb32 := blk_free (i := 0) hb3
        gi_wp2
        go_roundw
        case rel =>
          refine ⟨k + 1, by omega, by go_num, hJ _ _ _ hJ3 ((Aw.refl _ _).set _ rfl), ?_⟩
          have := blk_set (i := 0) hb3 (.int .u64 ((v : Int) / 256))
          rw [Ht.out.2]
          simpa using this
        case measure => simp [intOf]; omega
      · gi_wp2
        refine bodyPost_ret (results_none rfl _ _ _) rfl ?_
        exact ⟨⟨_, rfl⟩, .inr ⟨_, List.take_prefix _ _, hJx3⟩⟩
    · obtain rfl : k = n := by omega
      have ht : (bytesN k u).take k = bytesN k u := List.take_of_length_le (by rw [bytesN_len]; exact Nat.le_refl _)
      rw [ht] at hj
      gi_wp2
      go_end0
      exact ⟨⟨_, rfl⟩, .inl hj⟩

end Go.Proofs.YtmkidihcdljkiaaGreat

/-
  octet's writer: what each function does.
-/
set_option linter.unusedSimpArgs false
set_option linter.unusedVariables false
namespace Go.Proofs.YtmkidihcdljkiaaGreat
open Go.RowKit Go.Shelf NumLaw
attribute [local go_sem] Oper.semAt_some

/-- What a writer at g, of the bytes v, may turn. -/
def Foot (g : Nat) (v : Value) (k : Nat) : Prop := k = g ∨ v.ownBlock = some k
/-- The writer at block g: its bytes' slice, the bytes, whether it is bad (then nothing). -/
def Wtr (w : World) (g : Nat) (v : Value) (l : List UInt8) (bad : Bool) : Prop :=
  RowAt w g 139 v true bad ∧ w.ownsRow (g + 1) 5 1 v l.length (bv l) ∧ (bad = true → l = [])
theorem own_blk {w : World} {base : Nat} {e : TypeId} {size : Nat} {v : Value} {n : Nat} {xs : List Value} (h : w.ownsRow base e size v n xs) {k : Nat} (hk : v.ownBlock = some k) : base ≤ k ∧ k < w.heap.size := by
  rcases h.2 with ⟨rfl, _⟩ | ⟨g, cap, cur, rfl, hg, hh, _⟩
  · simp [Value.ownBlock] at hk
  · simp [Value.ownBlock] at hk; subst hk
    refine ⟨hg, ?_⟩
    rcases Nat.lt_or_ge g w.heap.size with h1 | h1
    · exact h1
    · rw [Array.getElem?_eq_none h1] at hh; cases hh
theorem own_aw {w w' : World} {base : Nat} {e : TypeId} {size : Nat} {v : Value} {n : Nat} {xs : List Value} {U : Nat → Prop} (h : w.ownsRow base e size v n xs) (ha : Aw U w w') (hu : ∀ k, v.ownBlock = some k → ¬ U k) : w'.ownsRow base e size v n xs := by
  refine ⟨h.1, ?_⟩
  rcases h.2 with h2 | ⟨g, cap, cur, rfl, hg, hh, r⟩
  · exact .inl h2
  · exact .inr ⟨g, cap, cur, rfl, hg, ha.keep hh (hu g rfl), r⟩
theorem RowAt.aw {w w' : World} {g e : Nat} {v : Value} {made bad : Bool} {U : Nat → Prop} (h : RowAt w g e v made bad) (ha : Aw U w w') (hu : ¬ U g) : RowAt w' g e v made bad := ha.keep h hu
theorem Wtr.lt {w : World} {g : Nat} {v : Value} {l : List UInt8} {bad : Bool} (h : Wtr w g v l bad) : g < w.heap.size := h.1.lt
theorem Wtr.foot {w : World} {g : Nat} {v : Value} {l : List UInt8} {bad : Bool} (h : Wtr w g v l bad) {k : Nat} (hk : Foot g v k) : g ≤ k ∧ k < w.heap.size := by
  rcases hk with rfl | hk
  · exact ⟨Nat.le_refl _, h.lt⟩
  · have := own_blk h.2.1 hk; omega
theorem Wtr.keep {w w' : World} {g : Nat} {v : Value} {l : List UInt8} {bad : Bool} {U : Nat → Prop} (h : Wtr w g v l bad) (ha : Aw U w w') (hu : ∀ k, Foot g v k → ¬ U k) : Wtr w' g v l bad :=
  ⟨h.1.aw ha (hu g (.inl rfl)), own_aw h.2.1 ha (fun k hk => hu k (.inr hk)), h.2.2⟩
theorem Aw.of_grown {w w' : World} {row : Option Nat} (h : w.grownBy w' row) : Aw (fun k => row = some k) w w' := ⟨h.os, h.tape, h.output, h.size, fun k hk hu => h.block k hk (fun e => hu e.symm)⟩

/-- A writer's call: what it leaves. -/
def RetW (w : World) (g : Nat) (v : Value) (l' : List UInt8) (bad' : Bool) (e : Ending) (w' : World) : Prop :=
  e = .returned (.tuple #[]) ∧ ∃ v', Wtr w' g v' l' bad' ∧ Aw (Foot g v) w w' ∧ ∀ k, v'.ownBlock = some k → v.ownBlock = some k ∨ w.heap.size ≤ k

/- Make -/
theorem wMake_any (w : World) : Calls Tryz.prog 53 #[] w fun e w' => e = .returned (.pointer (some ⟨w.heap.size, 0, none⟩)) ∧ Wtr w' w.heap.size (.slice none 0 0) [] false ∧ Below w.heap.size w w' := by
  go_enter Tryz.func53, Tryz.ntmps53
  go_wp2
  go_ret
  exact ⟨rfl, ⟨heap_alloc_new w _, World.ownsRow_nil _ _ _ _, fun h => by cases h⟩, (Below.refl _ _).alloc (Nat.le_refl _) _⟩

/- Fail -/
theorem wFail_any (g e : Nat) (v : Value) (made bad : Bool) (w : World) (h : RowAt w g e v made bad) :
    Calls Tryz.prog 73 #[.pointer (some ⟨g, 0, none⟩)] w fun x w' => x = .returned (.bool (!(made && !bad))) ∧ w = w' := by
  go_enter Tryz.func73, Tryz.ntmps73
  go_wp2_with fail
  go_fit (fine_any _ _ _ _ _ w h)
  rintro x w1 ⟨rfl, rfl⟩
  go_wp2
  go_ret
  exact ⟨by simp, rfl⟩
/- put -/
theorem wput_bad (g e : Nat) (v : Value) (made bad : Bool) (n : Int) (u : Nat) (fits : Bool) (w : World) (h : RowAt w g e v made bad) (hf : (made && !bad) = false) :
    Calls Tryz.prog 72 #[.pointer (some ⟨g, 0, none⟩), .int .i64 n, .int .u64 u, .bool fits] w fun x w' => x = .returned (.tuple #[]) ∧ Below w.heap.size w w' := by
  have h1 : RowAt (w.alloc (.cells #[.pointer (some ⟨g, 0, none⟩)] 109)) g e v made bad := (heap_alloc_old w _ h.lt).trans h
  go_enter Tryz.func72, Tryz.ntmps72
  go_wp2_with fail
  go_fit (wFail_any g e v made bad _ h1)
  rintro x w1 ⟨rfl, rfl⟩
  rw [hf]
  go_wp2
  ((try simp only [Exit.inBlock, Exit.then]); refine bodyPost_ret (results_none rfl _ _ _) rfl ?_)
  exact ⟨rfl, (Below.refl _ _).alloc (Nat.le_refl _) _⟩
theorem wput_no (g : Nat) (v : Value) (l : List UInt8) (n : Int) (u : Nat) (w : World) (h : Wtr w g v l false) :
    Calls Tryz.prog 72 #[.pointer (some ⟨g, 0, none⟩), .int .i64 n, .int .u64 u, .bool false] w (RetW w g v [] true) := by
  have h1 : RowAt (w.alloc (.cells #[.pointer (some ⟨g, 0, none⟩)] 109)) g 139 v true false := (heap_alloc_old w _ h.1.lt).trans h.1
  go_enter Tryz.func72, Tryz.ntmps72
  go_wp2_with fail
  go_fit (wFail_any g _ v true false _ h1)
  rintro x w1 ⟨rfl, rfl⟩
  go_wp2_with fail
  go_fit (fail_any _ _ _ _ _ _ h1)
  rintro x w2 ⟨rfl, hr2, hg⟩
  go_wp2
  ((try simp only [Exit.inBlock, Exit.then]); refine bodyPost_ret (results_none rfl _ _ _) rfl ?_)
  exact ⟨rfl, .slice none 0 0, ⟨hr2, World.ownsRow_nil _ _ _ _, fun _ => rfl⟩, (((Aw.refl _ w).alloc _).trans ((Aw.of_grown hg).mono fun k hk => .inl (by injection hk with hk; exact hk.symm))), fun k hk => by cases hk⟩

set_option maxRecDepth 10000 in
set_option maxHeartbeats 1000000 in
theorem wput_yes (g : Nat) (v : Value) (l : List UInt8) (n u : Nat) (w : World) (h : Wtr w g v l false) (hn : n ≤ 8) (hu : u < 18446744073709551616) (hl : l.length ≤ 1000000) :
    Calls Tryz.prog 72 #[.pointer (some ⟨g, 0, none⟩), .int .i64 n, .int .u64 u, .bool true] w (RetW w g v (l ++ bytesN n u) false) := by
  have hW0 : Aw (fun _ => False) w (w.alloc (.cells #[.pointer (some ⟨g, 0, none⟩)] 109)) := (Aw.refl _ w).alloc _
  have h1 := h.keep hW0 (fun k _ hk => hk)
  have hbx : (w.alloc (.cells #[.pointer (some ⟨g, 0, none⟩)] 109)).heap[w.heap.size]? = some (.cells #[.pointer (some ⟨g, 0, none⟩)] 109) := heap_alloc_new w _
  have hsz : (w.alloc (.cells #[.pointer (some ⟨g, 0, none⟩)] 109)).heap.size = w.heap.size + 1 := by simp
  obtain ⟨i0, hi⟩ := info_parts u8_info
  have Hi := Lib.hid hi
  clear hi
  refine (callsIn_wide (n := 9)).1 ?_
  have hro : Fence.wide.round = none := rfl
  refine callsIn_of_wp_marks Tryz.func72 rfl trivial ?_ hro
  simp only [Tryz.ntmps72, List.size_toArray, List.length_cons, List.length_nil, Nat.reduceAdd, Nat.reduceSub, Array.replicate_succ, Array.replicate_zero, List.push_toArray, List.append_toArray, List.nil_append, List.cons_append]
  gi_wp2_with fail
  refine ⟨trivial, (callsIn_wide.2 (wFail_any g _ v true false _ h1.1)).mono ?_⟩
  rintro x w1 ⟨rfl, rfl⟩
  gi_wp2_with fail
  refine ⟨trivial, (callsIn_wide.2 (bytes_any n u _)).mono ?_⟩
  rintro x w1 ⟨rfl, rfl⟩
  rw [hsz]
  generalize hw1 : (w.alloc (.cells #[.pointer (some ⟨g, 0, none⟩)] 109)) = w1 at *
  have hsz2 : ((w1.alloc (.cells #[.int .i64 n] 3)).alloc (.cells #[.int .u64 u] 106)).heap.size = w.heap.size + 3 := by simp [hsz]
  have hA2 : Aw (fun _ => False) w1 ((w1.alloc (.cells #[.int .i64 n] 3)).alloc (.cells #[.int .u64 u] 106)) := ((Aw.refl _ _).alloc _).alloc _
  have hn1 : ((w1.alloc (.cells #[.int .i64 n] 3)).alloc (.cells #[.int .u64 u] 106)).heap[w.heap.size + 1]? = some (.cells #[.int .i64 n] 3) := by
    have := heap_alloc_old (w1.alloc (.cells #[.int .i64 n] 3)) (.cells #[.int .u64 u] 106) (r := w1.heap.size) (by simp)
    rw [heap_alloc_new w1 _] at this
    rwa [hsz] at this
  have hn2 : ((w1.alloc (.cells #[.int .i64 n] 3)).alloc (.cells #[.int .u64 u] 106)).heap[w.heap.size + 2]? = some (.cells #[.int .u64 u] 106) := by
    have := blk_new2 w1 (.cells #[.int .i64 n] 3) (.cells #[.int .u64 u] 106)
    rwa [hsz] at this
  have h2 := h1.keep hA2 (fun k _ hk => hk)
  have hb2 := hA2.keep hbx (fun hk => hk)
  have hA02 := hW0.trans hA2
  rw [show w.heap.size + 1 + 1 = w.heap.size + 2 by omega]
  generalize ((w1.alloc (.cells #[.int .i64 n] 3)).alloc (.cells #[.int .u64 u] 106)) = w2 at *
  have hfoot := fun k (hk : Foot g v k) => h.foot hk
  clear hw1 hA2 h1 hbx hsz hW0 w1
  gi_wp2_with fail
  refine rangeFunc_W rfl (enters_of Tryz.func90 (by kernel_rfl) rfl) (bytes_seq n u (w.heap.size + 1) (w.heap.size + 2) _ hn hu (by omega)) (fun W hW => ⟨hW.keep hn1 (fun hk => hk), hW.keep hn2 (fun hk => hk)⟩) (fun x => rfl) (fun k hk => by rw [hk, hsz2]; omega) (fun k hk => by rw [hk, hsz2]; omega)
    (fun pre W => W.heap[w.heap.size]? = some (.cells #[.pointer (some ⟨g, 0, none⟩)] 109) ∧ Aw (Foot g v) w W ∧ ∃ v', Wtr W g v' (l ++ pre) false ∧ ∀ k, v'.ownBlock = some k → v.ownBlock = some k ∨ w.heap.size + 5 ≤ k)
    (fun _ _ _ => False) ?hI (fun _ _ _ _ h _ => h) ?h0
    (fun x => { tmps := #[.pointer (some ⟨g, 0, none⟩), .int .i64 n, .int .u64 u, .bool true, .pointer (some ⟨w.heap.size, 0, none⟩), undef, undef, undef, .int .u8 (x.toNat : Int), .bool false, .pointer (some ⟨g, 0, none⟩), .bool false, .bool false, .bool true, .bool false, undef, undef, undef, undef, .int .i64 n, .int .u64 u, .func (.func 90) #[] #[.pointer (some ⟨w.heap.size + 1, 0, none⟩), .pointer (some ⟨w.heap.size + 2, 0, none⟩)], .int .u8 (x.toNat : Int), undef, undef, undef, undef, undef, undef, undef, undef, undef, undef, undef, undef], defers := [] }) ?assign ?body ?done (fun _ _ _ _ h _ => h.elim)
  case assign =>
    intro l x W K hK
    gi_wp2
    exact hK
  case hI =>
    rintro pre A B ⟨hb, ha, v', hw, hv⟩ hab
    have hn : ∀ k, (k = w.heap.size + 2 ∨ k = w2.heap.size ∨ k = w2.heap.size + 1) → w.heap.size + 2 ≤ k ∧ k ≤ w.heap.size + 4 := fun k hk => by rw [hsz2] at hk; omega
    refine ⟨hab.keep hb (fun hk => ?_), ⟨hab.os.trans ha.os, hab.tape.trans ha.tape, hab.output.trans ha.output, Nat.le_trans ha.size hab.size, fun k hk hf => (hab.block k (Nat.lt_of_lt_of_le hk ha.size) (fun hu => ?_)).trans (ha.block k hk hf)⟩, v', hw.keep hab (fun k hk hu => ?_), hv⟩
    · have := hn _ hk; omega
    · have := hn _ hu; omega
    · have h1 := hn _ hu
      rcases hk with rfl | hk
      · have := h.lt; omega
      · rcases hv k hk with h2 | h2
        · have := hfoot k (.inr h2); omega
        · omega
  case h0 =>
    exact ⟨hb2, hA02.mono (fun k hk => hk.elim), v, by simpa using h2, fun k hk => .inl hk⟩
  case body =>
    rintro pre x W ⟨hb, ha, v', hw, hv⟩ hpre hge
    gi_wp2_with fail
    have hbc : W.cell? ⟨w.heap.size, 0, none⟩ = some (.pointer (some ⟨g, 0, none⟩)) := blk_cell hb rfl
    refine Ord.regionIn_ (fun w' => w'.cell? ⟨w.heap.size, 0, none⟩ = some (.pointer (some ⟨g, 0, none⟩))) true [28] (by kernel_rfl) (by kernel_rfl) (by kernel_rfl) (fun ⟨_, _, h⟩ => h) hbc ?_
    have hKW : Aw (fun _ => False) W W.drew := (Aw.refl _ W).drew
    replace hbc : W.drew.cell? ⟨w.heap.size, 0, none⟩ = _ := hbc
    have hw2 := hw.keep hKW (fun k _ hk => hk)
    have hge2 : w2.heap.size + 2 ≤ W.drew.heap.size := hge
    have hb2' : W.drew.heap[w.heap.size]? = _ := hb
    generalize W.drew = W1 at *
    obtain ⟨hrow, hown, _⟩ := hw2
    obtain ⟨A0, c0, rfl⟩ := own_sl hown
    obtain ⟨k0, hk0⟩ : ∃ k0, k0 = (l ++ pre).length := ⟨_, rfl⟩
    rw [← hk0] at hown hrow hv
    have hc0 := hrow.c0
    have hklen : k0 ≤ 1000008 := by
      have h1 := hpre.length_le
      rw [bytesN_len] at h1
      rw [hk0]; simp at h1 ⊢; omega
    have Hk0 := Lib.hid hk0
    clear hk0
    refine Ord.e_loadS Tryz.underlying109 rfl (fun w2 hS => hS) hbc rfl (by rfl) ?_; (try simp only [Act.put, List.setIfInBounds_toArray, List.set_cons_zero, List.set_cons_succ])
    refine Ord.e_loadS Tryz.underlying109 rfl (fun w2 hS => hS) hbc rfl (by rfl) ?_; (try simp only [Act.put, List.setIfInBounds_toArray, List.set_cons_zero, List.set_cons_succ])
    repeat (first | (refine Ord.e_p (v := ?_) rfl (by rfl) ?_ ?_; rotate_left; · (intro w2; go_simp; try with_reducible rfl)) | (refine Ord.e_u (by rfl) ?_)); (try simp only [Act.put, List.setIfInBounds_toArray, List.set_cons_zero, List.set_cons_succ])
    refine Ord.e_load Tryz.underlying38 rfl hc0 rfl (by rfl) (by rfl) ?_
    (try simp only [Act.put, List.setIfInBounds_toArray, List.set_cons_zero, List.set_cons_succ])
    repeat (first | (refine Ord.e_p (v := ?_) rfl (by rfl) ?_ ?_; rotate_left; · (intro w2; go_simp; try with_reducible rfl)) | (refine Ord.e_u (by rfl) ?_)); (try simp only [Act.put, List.setIfInBounds_toArray, List.set_cons_zero, List.set_cons_succ])
    refine Ord.e_x rfl (by rfl) ?_
    go_wp2
    have hA3 : Aw (fun _ => False) W1 (W1.alloc (.cells #[.int .u8 (x.toNat : Int)] 5)) := (Aw.refl _ _).alloc _
    have hbc3 : (W1.alloc (.cells #[.int .u8 (x.toNat : Int)] 5)).cell? ⟨w.heap.size, 0, none⟩ = some (.pointer (some ⟨g, 0, none⟩)) := (World.cell?_alloc_lt _ _ _ (World.block_lt_of_cell? W1 _ hbc)).trans hbc
    have hnew : Rd (W1.alloc (.cells #[.int .u8 (x.toNat : Int)] 5)) (W1.heap.size + 1) 1 (some ⟨W1.heap.size, 0, none⟩) 1 1 (bv [x]) := rd_const W1 5 [x] (0, 0) (by simp [maxLen])
    refine Ord.Seg.go hbc3 (fun _ => (Below.refl _ _).alloc (Nat.le_refl _) _) ?_
    (try simp only [Act.put, List.setIfInBounds_toArray, List.set_cons_zero, List.set_cons_succ])
    refine Ord.e_x rfl (by rfl) ?_
    have hown3 := own_aw hown hA3 (fun k _ hk => hk)
    have hsz3 : (W1.alloc (.cells #[.int .u8 (x.toNat : Int)] 5)).heap.size = W1.heap.size + 1 := by simp
    have hrow3 := hrow.aw hA3 (fun hk => hk)
    have hb3 := hA3.keep hb2' (fun hk => hk)
    generalize hW3 : (W1.alloc (.cells #[.int .u8 (x.toNat : Int)] 5)) = W3 at *
    have hA33 : Aw (fun _ => False) W W3 := hKW.trans hA3
    go_wp2_with (at_builtin; refine stop_ ?_)
    refine go_ (wpList_appG (base := g + 1) (n := k0) (xs := bv (l ++ pre)) Tryz.underlying38 Hi.out rfl (by omega) hown3 rfl hnew rfl (bv_one _) (k := k0 + 1) rfl (bv_app _ _).symm (by unfold maxLen; omega) (by omega) (by have := hrow3.lt; omega) ?_)
    intro A4 c4 w4 hown4 hg4 hob4
    have hA4 := Aw.of_grown hg4
    have hobk : ∀ k, (Value.slice A0 k0 c0).ownBlock = some k → g + 1 ≤ k ∧ k < W1.heap.size := fun k hk => own_blk hown hk
    have hrow4 := hrow3.aw hA4 (fun hk => by have := hobk _ hk; omega)
    have hb4 := hA4.keep hb3 (fun hk => by
      have h1 := hobk _ hk
      rcases hv _ hk with h2 | h2
      · have := hfoot _ (.inr h2); omega
      · omega)
    refine Ord.Seg.go (blk_cell hb4 rfl) (fun h => by cases h) ?_
    (try simp only [Act.put, List.setIfInBounds_toArray, List.set_cons_zero, List.set_cons_succ])
    repeat (first | (refine Ord.e_p (v := ?_) rfl (by rfl) ?_ ?_; rotate_left; · (intro w2; go_simp; try with_reducible rfl)) | (refine Ord.e_u (by rfl) ?_)); (try simp only [Act.put, List.setIfInBounds_toArray, List.set_cons_zero, List.set_cons_succ])
    refine Ord.e_x rfl (by rfl) ?_
    have h41 := hrow4.c0
    have h42 := hrow4.f0
    go_wp2
    have hA5 : Aw (fun k => k = g) w4 (w4.setCell ⟨g, 0, none⟩ (.slice A4 (k0 + 1) c4)) := (Aw.refl _ _).set _ rfl
    have hrow5 := hrow4.put0 (.slice A4 (k0 + 1) c4)
    have hb5 := hA5.keep hb4 (fun hk => by have := h.lt; omega)
    have hown5 := own_aw hown4 hA5 (fun k hk hu => by have := (own_blk hown4 hk).1; omega)
    generalize (w4.setCell ⟨g, 0, none⟩ (.slice A4 (k0 + 1) c4)) = w5 at *
    refine Ord.Seg.go (blk_cell hb5 rfl) (fun h => by cases h) ?_
    (try simp only [Act.put, List.setIfInBounds_toArray, List.set_cons_zero, List.set_cons_succ])
    refine Ord.e_nil ?_
    have hA6 : Aw (Foot g (.slice A0 k0 c0)) W w5 := (hA33.mono fun k hk => hk.elim).trans ((hA4.mono fun k hk => .inr hk).trans (hA5.mono fun k hk => .inl hk))
    refine ⟨hA6.keeps fun k hk hu => ?_, hb5, ⟨hA6.os.trans ha.os, hA6.tape.trans ha.tape, hA6.output.trans ha.output, Nat.le_trans ha.size hA6.size, fun k hk hf => (hA6.block k (Nat.lt_of_lt_of_le hk ha.size) (fun hu => ?_)).trans (ha.block k hk hf)⟩, .slice A4 (k0 + 1) c4, ⟨hrow5, ?_, fun h => by cases h⟩, fun k hk => ?_⟩
    · have h1 : w.heap.size ≤ k ∧ k ≤ w.heap.size + 4 := by rw [hsz2] at hk; omega
      rcases hu with rfl | hu
      · have := h.lt; omega
      · rcases hv _ hu with h2 | h2
        · have := hfoot _ (.inr h2); omega
        · omega
    · rcases hu with rfl | hu
      · exact hf (.inl rfl)
      · rcases hv _ hu with h2 | h2
        · exact hf (.inr h2)
        · omega
    · rw [show (l ++ (pre ++ [x])).length = k0 + 1 by rw [Hk0.out]; simp; omega, show l ++ (pre ++ [x]) = (l ++ pre) ++ [x] by simp]
      exact hown5
    · rcases hob4 with h1 | h1
      · exact hv _ (h1 ▸ hk)
      · rw [h1] at hk
        injection hk with hk
        right
        have := hsz3
        omega
  case done =>
    rintro W ⟨hb, ha, v', hw, hv⟩ hd
    gi_wp2
    refine ⟨by simp, .inl ⟨_, _, rfl, run_takeDeferred hd, ?_⟩⟩
    have hA7 : Aw (fun k => k = w2.heap.size) W (W.putObj w2.heap.size (.deferred none)) := (Aw.refl _ _).put _ rfl
    refine ⟨_, results_none rfl _ _ _, rfl, v', hw.keep hA7 (fun k hk hu => ?_), ⟨hA7.os.trans ha.os, hA7.tape.trans ha.tape, hA7.output.trans ha.output, Nat.le_trans ha.size hA7.size, fun k hk hf => (hA7.block k (Nat.lt_of_lt_of_le hk ha.size) (fun hu => by omega)).trans (ha.block k hk hf)⟩, fun k hk => ?_⟩
    · rcases hk with rfl | hk
      · have := h.lt; omega
      · rcases hv _ hk with h2 | h2
        · have := hfoot _ (.inr h2); omega
        · omega
    · rcases hv _ hk with h2 | h2
      · exact .inl h2
      · right; omega

end Go.Proofs.YtmkidihcdljkiaaGreat

/-
  octet's writer: U, I, Raw, Bytes.
-/
set_option linter.unusedSimpArgs false
set_option linter.unusedVariables false
namespace Go.Proofs.YtmkidihcdljkiaaGreat
open Go.RowKit Go.Shelf NumLaw

/-- What is there behind a writing of add, if it fits. -/
def wtB (bad fits : Bool) (l add : List UInt8) : List UInt8 := if (bad || !fits) = true then [] else l ++ add
theorem Aw.of_below' {w w' : World} {U : Nat → Prop} (h : Below w.heap.size w w') : Aw U w w' := ⟨h.os, h.tape, h.output, h.size, fun k hk _ => h.block k hk⟩
theorem RetW.of_below {w w' : World} {g : Nat} {v : Value} {l : List UInt8} {bad : Bool} (h : Wtr w g v l bad) (hb : Below w.heap.size w w') : RetW w g v l bad (.returned (.tuple #[])) w' :=
  ⟨rfl, v, h.keep (Aw.of_below' (U := fun _ => False) hb) (fun _ _ hk => hk), Aw.of_below' hb, fun k hk => .inl hk⟩
theorem wput_any (g : Nat) (v : Value) (l : List UInt8) (bad : Bool) (n : Int) (u : Nat) (fits : Bool) (w : World) (h : Wtr w g v l bad) (hn : fits = true → 0 ≤ n ∧ n ≤ 8) (hu : u < 18446744073709551616) (hl : l.length ≤ 1000000) :
    Calls Tryz.prog 72 #[.pointer (some ⟨g, 0, none⟩), .int .i64 n, .int .u64 u, .bool fits] w (RetW w g v (wtB bad fits l (bytesN n.toNat u)) (bad || !fits)) := by
  cases bad with
  | true =>
    obtain rfl := h.2.2 rfl
    refine (wput_bad g _ v true true n u fits w h.1 rfl).mono ?_
    rintro x w' ⟨rfl, hb⟩
    exact RetW.of_below h hb
  | false =>
    cases fits with
    | false => exact wput_no g v l n u w h
    | true =>
      obtain ⟨k, rfl⟩ : ∃ k : Nat, n = k := ⟨n.toNat, by have := hn rfl; omega⟩
      exact wput_yes g v l k u w h (by have := hn rfl; omega) hu hl

/-- Does u fit in n bytes? -/
def fU (n : Int) (u : Nat) : Bool := decide (1 ≤ n ∧ n ≤ 8 ∧ u < 256 ^ n.toNat)
theorem fU_eq (n : Int) (u : Nat) (h1 : 1 ≤ n) (h2 : n ≤ 7) : fU n u = (n == 8 || (u : Int) / 2 ^ (8 * n).toNat == 0) := by
  unfold fU
  rw [Bool.eq_iff_iff]
  rcases (by omega : n = 1 ∨ n = 2 ∨ n = 3 ∨ n = 4 ∨ n = 5 ∨ n = 6 ∨ n = 7) with rfl | rfl | rfl | rfl | rfl | rfl | rfl
  all_goals
    simp
    omega
set_option maxHeartbeats 400000 in
theorem wU_any (g : Nat) (v : Value) (l : List UInt8) (bad : Bool) (n : Int) (u : Nat) (w : World) (h : Wtr w g v l bad) (hu : u < 18446744073709551616) (hl : l.length ≤ 1000000) :
    Calls Tryz.prog 54 #[.pointer (some ⟨g, 0, none⟩), .int .i64 n, .int .u64 u] w (RetW w g v (wtB bad (fU n u) l (bytesN n.toNat u)) (bad || !fU n u)) := by
  have hput := fun (fits : Bool) hn => wput_any g v l bad n u fits w h hn hu hl
  rcases (by omega : n < 1 ∨ 8 < n ∨ n = 8 ∨ (1 ≤ n ∧ n ≤ 7)) with h1 | h1 | rfl | ⟨h1, h2⟩
  · have hf : fU n u = false := by unfold fU; rw [decide_eq_false]; omega
    rw [hf]
    have hc := hput false (fun h => by cases h)
    clear hf hput
    go_enter Tryz.func54, Tryz.ntmps54
    go_wp2_with fail
    go_fit hc
    rintro x w' hret
    obtain rfl := hret.1
    go_wp2
    ((try simp only [Exit.inBlock, Exit.then]); refine bodyPost_end (results_none rfl _ _ _) rfl ?_)
    exact hret
  · have hf : fU n u = false := by unfold fU; rw [decide_eq_false]; omega
    rw [hf]
    have hc := hput false (fun h => by cases h)
    clear hf hput
    go_enter Tryz.func54, Tryz.ntmps54
    go_wp2_with fail
    go_fit hc
    rintro x w' hret
    obtain rfl := hret.1
    go_wp2
    ((try simp only [Exit.inBlock, Exit.then]); refine bodyPost_end (results_none rfl _ _ _) rfl ?_)
    exact hret
  · have hf : fU 8 u = true := by
      unfold fU
      rw [decide_eq_true]
      exact ⟨by omega, by omega, hu⟩
    rw [hf]
    have hc := hput true (fun h => by omega)
    clear hf hput
    go_enter Tryz.func54, Tryz.ntmps54
    go_wp2_with fail
    go_fit hc
    rintro x w' hret
    obtain rfl := hret.1
    go_wp2
    ((try simp only [Exit.inBlock, Exit.then]); refine bodyPost_end (results_none rfl _ _ _) rfl ?_)
    exact hret
  · obtain ⟨b, hb⟩ : ∃ b, b = fU n u := ⟨_, rfl⟩
    rw [← hb]
    have hc : Calls Tryz.prog 72 #[.pointer (some ⟨g, 0, none⟩), .int .i64 n, .int .u64 u, .bool (n == 8 || (u : Int) / 2 ^ (8 * n).toNat == 0)] w (RetW w g v (wtB bad b l (bytesN n.toNat u)) (bad || !b)) := by
      rw [← fU_eq n u h1 h2, ← hb]
      exact hput b (fun _ => by omega)
    clear hput hb
    go_enter Tryz.func54, Tryz.ntmps54
    go_wp2_with fail
    go_fit hc
    rintro x w' hret
    obtain rfl := hret.1
    go_wp2
    ((try simp only [Exit.inBlock, Exit.then]); refine bodyPost_end (results_none rfl _ _ _) rfl ?_)
    exact hret

/-- Does i fit in n bytes, with a sign? -/
def fI (n : Int) (i : Int) : Bool := decide (1 ≤ n ∧ n ≤ 8 ∧ -(128 * 256 ^ (n.toNat - 1)) ≤ i ∧ i < 128 * 256 ^ (n.toNat - 1))
/-- A number with a sign, as one without. -/
def un (i : Int) : Nat := (i % 18446744073709551616).toNat
theorem un_lt (i : Int) : un i < 18446744073709551616 := by unfold un; omega
theorem un_wrap (i : Int) : IntKind.u64.wrap i = ((un i : Nat) : Int) := by
  unfold un
  simp [IntKind.wrap, IntKind.bits, IntKind.signed]
  omega
theorem fI_eq (n i : Int) (h1 : 1 ≤ n) (h2 : n ≤ 8) : fI n i = (i / 2 ^ (8 * n - 1).toNat == 0 || i / 2 ^ (8 * n - 1).toNat == -1) := by
  unfold fI
  rw [Bool.eq_iff_iff]
  rcases (by omega : n = 1 ∨ n = 2 ∨ n = 3 ∨ n = 4 ∨ n = 5 ∨ n = 6 ∨ n = 7 ∨ n = 8) with rfl | rfl | rfl | rfl | rfl | rfl | rfl | rfl
  all_goals
    simp
    omega
set_option maxHeartbeats 400000 in
theorem wI_any (g : Nat) (v : Value) (l : List UInt8) (bad : Bool) (n i : Int) (w : World) (h : Wtr w g v l bad) (hi : -9223372036854775808 ≤ i ∧ i ≤ 9223372036854775807) (hl : l.length ≤ 1000000) :
    Calls Tryz.prog 132 #[.pointer (some ⟨g, 0, none⟩), .int .i64 n, .int .i64 i] w (RetW w g v (wtB bad (fI n i) l (bytesN n.toNat (un i))) (bad || !fI n i)) := by
  have hput := fun (fits : Bool) hn => wput_any g v l bad n (un i) fits w h hn (un_lt i) hl
  rw [← un_wrap i] at hput
  rcases (by omega : n < 1 ∨ 8 < n ∨ (1 ≤ n ∧ n ≤ 8)) with h1 | h1 | ⟨h1, h2⟩
  · have hf : fI n i = false := by unfold fI; rw [decide_eq_false]; omega
    rw [hf]
    have hc := hput false (fun h => by cases h)
    clear hf hput
    go_enter Tryz.func132, Tryz.ntmps132
    go_wp2_with fail
    go_fit hc
    rintro x w' hret
    obtain rfl := hret.1
    go_wp2
    ((try simp only [Exit.inBlock, Exit.then]); refine bodyPost_end (results_none rfl _ _ _) rfl ?_)
    exact hret
  · have hf : fI n i = false := by unfold fI; rw [decide_eq_false]; omega
    rw [hf]
    have hc := hput false (fun h => by cases h)
    clear hf hput
    go_enter Tryz.func132, Tryz.ntmps132
    go_wp2_with fail
    go_fit hc
    rintro x w' hret
    obtain rfl := hret.1
    go_wp2
    ((try simp only [Exit.inBlock, Exit.then]); refine bodyPost_end (results_none rfl _ _ _) rfl ?_)
    exact hret
  · by_cases hq : i / 2 ^ (8 * n - 1).toNat = 0
    · have hf : fI n i = true := by rw [fI_eq n i h1 h2, hq]; rfl
      rw [hf]
      have hc := hput true (fun _ => by omega)
      clear hf hput
      have hq2 : i / 2 ^ ((8 * n).toNat - 1) = 0 := by rw [← hq]; congr 2; omega
      go_enter Tryz.func132, Tryz.ntmps132
      go_wp2_with fail
      go_fit hc
      rintro x w' hret
      obtain rfl := hret.1
      go_wp2
      ((try simp only [Exit.inBlock, Exit.then]); refine bodyPost_end (results_none rfl _ _ _) rfl ?_)
      exact hret
    · obtain ⟨b, hb⟩ : ∃ b, b = fI n i := ⟨_, rfl⟩
      rw [← hb]
      have hc : Calls Tryz.prog 72 #[.pointer (some ⟨g, 0, none⟩), .int .i64 n, .int .u64 (IntKind.u64.wrap i), .bool (i / 2 ^ ((8 * n).toNat - 1) == 0 || i / 2 ^ ((8 * n).toNat - 1) == -1)] w (RetW w g v (wtB bad b l (bytesN n.toNat (un i))) (bad || !b)) := by
        have e := fI_eq n i h1 h2
        rw [show (8 * n - 1).toNat = (8 * n).toNat - 1 by omega] at e
        rw [← e, ← hb]
        exact hput b (fun _ => by omega)
      clear hput hb
      have hq2 : ¬ i / 2 ^ ((8 * n).toNat - 1) = 0 := fun h => hq (by rw [← h]; congr 2; omega)
      go_enter Tryz.func132, Tryz.ntmps132
      go_wp2_with fail
      go_fit hc
      rintro x w' hret
      obtain rfl := hret.1
      go_wp2
      ((try simp only [Exit.inBlock, Exit.then]); refine bodyPost_end (results_none rfl _ _ _) rfl ?_)
      exact hret

/- Raw -/
set_option maxHeartbeats 400000 in
theorem wRaw_any (g : Nat) (v : Value) (l : List UInt8) (bad : Bool) (A : Option Addr) (m c B : Nat) (add : List UInt8) (w : World) (h : Wtr w g v l bad) (hr : Rd w B 1 A m c (bv add)) (hl : l.length + m ≤ 1000000) :
    Calls Tryz.prog 55 #[.pointer (some ⟨g, 0, none⟩), .slice A m c] w (RetW w g v (wtB bad true l add) bad) := by
  have hlm := hr.blen
  obtain ⟨i0, hi⟩ := info_parts u8_info
  have Hi := Lib.hid hi
  clear hi
  cases bad with
  | true =>
    obtain rfl := h.2.2 rfl
    go_enter Tryz.func55, Tryz.ntmps55
    go_wp2_with fail
    go_fit (wFail_any g _ v true true _ h.1)
    rintro x w1 ⟨rfl, rfl⟩
    go_wp2
    ((try simp only [Exit.inBlock, Exit.then]); refine bodyPost_end (results_none rfl _ _ _) rfl ?_)
    exact RetW.of_below h (Below.refl _ _)
  | false =>
    obtain ⟨hrow, hown, hz⟩ := h
    obtain ⟨A0, c0, rfl⟩ := own_sl hown
    obtain ⟨k0, hk0⟩ : ∃ k0, k0 = l.length := ⟨_, rfl⟩
    have h : Wtr w g (.slice A0 l.length c0) l false := ⟨hrow, hown, hz⟩
    rw [← hk0] at hown hrow hl h
    have Hk := Lib.hid hk0
    rw [← hk0]
    clear hk0
    have hc0 := hrow.c0
    go_enter Tryz.func55, Tryz.ntmps55
    go_wp2_with fail
    go_fit (wFail_any g _ _ true false _ hrow)
    rintro x w1 ⟨rfl, rfl⟩
    go_wp2_with (at_builtin; refine stop_ ?_)
    refine go_ (wpList_appG (base := g + 1) (n := k0) (xs := bv l) Tryz.underlying38 Hi.out rfl (by omega) hown rfl hr rfl (bv_one _) (k := k0 + m) rfl (bv_app _ _).symm (by unfold maxLen; omega) (by omega) (by have := hrow.lt; omega) ?_)
    intro A4 c4 w4 hown4 hg4 hob4
    have hA4 := Aw.of_grown hg4
    have hobk : ∀ k, (Value.slice A0 k0 c0).ownBlock = some k → g + 1 ≤ k ∧ k < w.heap.size := fun k hk => own_blk hown hk
    have hrow4 := hrow.aw hA4 (fun hk => by have := hobk _ hk; omega)
    have h41 := hrow4.c0
    have h42 := hrow4.f0
    have hA5 : Aw (fun k => k = g) w4 (w4.setCell ⟨g, 0, none⟩ (.slice A4 (k0 + m) c4)) := (Aw.refl _ _).set _ rfl
    have hrow5 := hrow4.put0 (.slice A4 (k0 + m) c4)
    have hown5 := own_aw hown4 hA5 (fun k hk hu => by have := (own_blk hown4 hk).1; omega)
    have hA6 : Aw (Foot g (.slice A0 k0 c0)) w (w4.setCell ⟨g, 0, none⟩ (.slice A4 (k0 + m) c4)) := ((hA4.mono fun k hk => .inr hk).trans (hA5.mono fun k hk => .inl hk))
    go_wp2
    ((try simp only [Exit.inBlock, Exit.then]); refine bodyPost_end (results_none rfl _ _ _) rfl ?_)
    refine ⟨rfl, .slice A4 (k0 + m) c4, ⟨hrow5, ?_, fun h => by cases h⟩, hA6, fun k hk => ?_⟩
    · have e : wtB false true l add = l ++ add := rfl
      rw [e, show (l ++ add).length = k0 + m by rw [Hk.out, ← hlm]; simp]
      exact hown5
    · rcases hob4 with h1 | h1
      · exact .inl (h1 ▸ hk)
      · rw [h1] at hk
        injection hk with hk
        right; omega

/- Bytes -/
theorem wBytes_any (g : Nat) (v : Value) (l : List UInt8) (bad : Bool) (w : World) (h : Wtr w g v l bad) (hl : l.length ≤ 1000000) :
    Calls Tryz.prog 58 #[.pointer (some ⟨g, 0, none⟩)] w (RetB w l) := by
  cases bad with
  | true =>
    obtain rfl := h.2.2 rfl
    go_enter Tryz.func58, Tryz.ntmps58
    go_wp2_with fail
    go_fit (wFail_any g _ v true true _ h.1)
    rintro x w1 ⟨rfl, rfl⟩
    go_wp2
    go_ret
    exact ⟨none, 0, 0, rfl, World.ownsRow_nil _ _ _ _, Below.refl _ _⟩
  | false =>
    obtain ⟨hrow, hown, hz⟩ := h
    obtain ⟨A0, c0, rfl⟩ := own_sl hown
    have hc0 := hrow.c0
    have hc := clone_any A0 l.length c0 w.heap.size l w (Rd.own hown) (Nat.le_refl _) (by omega)
    generalize l.length = k0 at *
    go_enter Tryz.func58, Tryz.ntmps58
    go_wp2_with fail
    go_fit (wFail_any g _ _ true false _ hrow)
    rintro x w1 ⟨rfl, rfl⟩
    go_wp2_with fail
    go_fit hc
    rintro x w2 ⟨A2, c2, n2, rfl, hown2, hb⟩
    go_wp2
    go_ret
    exact ⟨A2, c2, n2, rfl, hown2, hb⟩

end Go.Proofs.YtmkidihcdljkiaaGreat

/-
  The document's answer for layer 4 (landfallref04), its reader: what each function computes.
-/
set_option linter.unusedSimpArgs false
set_option linter.unusedVariables false
namespace Go.Proofs.YtmkidihcdljkiaaGreat
open Go.RowKit NumLaw

theorem blk_lt {w : World} {g : Nat} {o : Obj} (h : w.heap[g]? = some o) : g < w.heap.size := by
  rcases Nat.lt_or_ge g w.heap.size with h1 | h1
  · exact h1
  · rw [Array.getElem?_eq_none h1] at h; cases h

/- half -/
/- Signed -/
/- Number -/
/- Raw -/
/- U -/
/- I -/
end Go.Proofs.YtmkidihcdljkiaaGreat

/-
  A region that draws its order, where operations that no edge binds do NOT commute (two that lay memory): one walk for each order of those.
-/
set_option linter.unusedSimpArgs false
set_option linter.unusedVariables false
namespace Go.Proofs.YtmkidihcdljkiaaGreat
open Go.RowKit
namespace Ord
section
variable {P : Program} {ops : Array Oper} {G : Cfg}

theorem ready_ne {M : List Nat} (hM : okMasks ops M = true) {listed : Array Bool} (hsz : listed.size = ops.size) {i : Nat} (hlt : i < ops.size) (hun : listed.getD i true = false) : Region.ready .any ops listed ≠ [] := by
  intro h0
  have hfirst : ∀ m, ∀ i, i < m → i < ops.size → listed.getD i true = false → False := by
    intro m
    induction m with
    | zero => intro i hi; omega
    | succ m ihm =>
      intro i hi hlt hun
      by_cases hall : ∀ o, ops[i]? = some o → ∀ e ∈ o.after, Region.binds .any e = true → listed.getD e.on false = true
      · have : i ∈ Region.ready .any ops listed := mem_ready.2 ⟨hun, ops[i], Array.getElem?_eq_getElem hlt, hall _ (Array.getElem?_eq_getElem hlt)⟩
        rw [h0] at this
        cases this
      · have h1 := List.all_eq_true.1 hM i (List.mem_range.2 hlt)
        rw [Array.getElem?_eq_getElem hlt] at h1
        simp only [Bool.and_eq_true, beq_iff_eq] at h1
        apply hall
        intro o ho e he hb
        rw [Array.getElem?_eq_getElem hlt] at ho
        injection ho with ho
        subst ho
        have hei : e.on < i := by have := List.all_eq_true.1 h1.2 e (by simpa using he); simpa [hb] using this
        cases hge : listed.getD e.on true with
        | false => exact (ihm e.on (by omega) (by omega) hge).elim
        | true =>
          have : e.on < listed.size := by omega
          simpa [this] using hge
  exact hfirst (i + 1) i (by omega) hlt hun

/-- A schedule's order: nothing comes ahead of what it waits for. -/
def Valid (M : List Nat) (s : List Nat) : Prop := s.Pairwise fun x y => x ≠ y ∧ (M.getD x 0).testBit y = false
theorem lin_valid {M : List Nat} (hM : okMasks ops M = true) : ∀ (n t : Nat) (listed : Array Bool) (L : List Nat), L.length = n → listed.size = ops.size → (∀ i, i ∈ L ↔ i < ops.size ∧ listed.getD i true = false) → L.Pairwise (· ≠ ·) → Closed ops listed →
    (∀ i, i ∈ Region.linearise.go .any ops n t listed [] ↔ i ∈ L) ∧ Valid M (Region.linearise.go .any ops n t listed []) := by
  intro n
  induction n with
  | zero =>
    intro t listed L hn hsz hL hp hc
    obtain rfl : L = [] := List.eq_nil_of_length_eq_zero hn
    simp [Region.linearise.go, Valid]
  | succ n ih =>
    intro t listed L hn hsz hL hp hc
    have hne : Region.ready .any ops listed ≠ [] := by
      cases L with
      | nil => simp at hn
      | cons x xs =>
        obtain ⟨h1, h2⟩ := (hL x).1 List.mem_cons_self
        exact ready_ne hM hsz h1 h2
    have hlen : 0 < (Region.ready .any ops listed).length := List.length_pos_iff.2 hne
    simp only [Region.linearise.go]
    change (∀ i, i ∈ (match (Region.ready .any ops listed)[t % (Region.ready .any ops listed).length]? with
      | some i => Region.linearise.go .any ops n (t / (Region.ready .any ops listed).length) (listed.setIfInBounds i true) [i]
      | none => [].reverse) ↔ i ∈ L) ∧ Valid M (match (Region.ready .any ops listed)[t % (Region.ready .any ops listed).length]? with
      | some i => Region.linearise.go .any ops n (t / (Region.ready .any ops listed).length) (listed.setIfInBounds i true) [i]
      | none => [].reverse)
    have hlt' : t % (Region.ready .any ops listed).length < (Region.ready .any ops listed).length := Nat.mod_lt _ hlen
    rw [List.getElem?_eq_getElem hlt']
    have hi : (Region.ready .any ops listed)[t % (Region.ready .any ops listed).length] ∈ Region.ready .any ops listed := List.getElem_mem _
    generalize (Region.ready .any ops listed)[t % (Region.ready .any ops listed).length] = i at *
    simp only
    rw [linearise_go_acc, List.reverse_singleton, List.singleton_append]
    obtain ⟨h0, o, ho, hall⟩ := mem_ready.1 hi
    have hlt : i < ops.size := (Array.getElem?_eq_some_iff.1 ho).1
    obtain ⟨p, s, rfl⟩ := List.append_of_mem ((hL i).2 ⟨hlt, h0⟩)
    have hpa := List.pairwise_append.1 hp
    have hps : (p ++ s).Pairwise (· ≠ ·) := hp.sublist ((List.Sublist.refl p).append (List.sublist_cons_self i s))
    have hnp : i ∉ p := fun hm => (hpa.2.2 i hm i List.mem_cons_self) rfl
    have hns : i ∉ s := fun hm => ((List.pairwise_cons.1 hpa.2.1).1 i hm) rfl
    obtain ⟨ih1, ih2⟩ := ih (t / (Region.ready .any ops listed).length) (listed.setIfInBounds i true) (p ++ s) (by simp at hn ⊢; omega) (by simpa using hsz) (by
      intro k
      by_cases hik : i = k
      · subst hik
        have hls : i < listed.size := by omega
        simp [hnp, hns, hls]
      · rw [getD_set_ne true hik, ← hL k]
        simp [Ne.symm hik]) hps (by
      intro k ok hk hl e he hb
      by_cases hik : i = k
      · subst hik
        rw [ho] at hk
        injection hk with hk
        subst hk
        exact getD_set_true (hall e he hb)
      · rw [getD_set_ne true hik] at hl
        exact getD_set_true (hc k ok hk hl e he hb))
    refine ⟨fun k => ?_, List.pairwise_cons.2 ⟨fun y hy => ?_, ih2⟩⟩
    · rw [List.mem_cons, ih1 k]
      simp only [List.mem_append, List.mem_cons]
      constructor
      · rintro (h | h | h)
        · exact .inr (.inl h)
        · exact .inl h
        · exact .inr (.inr h)
      · rintro (h | h | h)
        · exact .inr (.inl h)
        · exact .inl h
        · exact .inr (.inr h)
    · have hy' := (ih1 y).1 hy
      refine ⟨fun e => ?_, ?_⟩
      · subst e
        rcases List.mem_append.1 hy' with h | h
        · exact hnp h
        · exact hns h
      · cases hb : (M.getD i 0).testBit y with
        | false => rfl
        | true =>
          have h1 := dep_listed hM hc i i (Nat.le_refl _) (fun o' ho' => by rw [ho] at ho'; injection ho' with ho'; subst ho'; exact hall) hlt y hb
          have h2 := ((hL y).1 (by
            rcases List.mem_append.1 hy' with h | h
            · exact List.mem_append_left _ h
            · exact List.mem_append_right _ (List.mem_cons_of_mem _ h))).2
          rw [getD_tf h1] at h2
          cases h2

/-- i comes ahead of j in s. -/
def Ahead : List Nat → Nat → Nat → Prop
  | [], _, _ => False
  | x :: s, i, j => (x = i ∧ j ∈ s) ∨ Ahead s i j
theorem ahead_mem : ∀ {s : List Nat} {i j : Nat}, Ahead s i j → i ∈ s ∧ j ∈ s
  | x :: s, i, j, h => by
    rcases h with ⟨rfl, h⟩ | h
    · exact ⟨List.mem_cons_self, List.mem_cons_of_mem _ h⟩
    · obtain ⟨h1, h2⟩ := ahead_mem h
      exact ⟨List.mem_cons_of_mem _ h1, List.mem_cons_of_mem _ h2⟩
theorem ops_of (hN : Region.noSelect ops = true) {Q : Exit → Act → World → Prop} : ∀ (s L : List Nat) (a : Act) (w : World), (∀ i, i ∈ s ↔ i ∈ L) → s.Pairwise (· ≠ ·) → L.Pairwise (fun j i => j ≠ i ∧ (Ahead s i j → commI P ops G.G G.F j i = true)) → (∀ i ∈ s, i < ops.size) → G.S w →
    wpE P ops G (Q .normal) (lst ops L) a w → wpOps P ops Q s a w
  | [], L, a, w, hm, hs, hp, hsz, hS, h => by
    obtain rfl : L = [] := by
      cases L with
      | nil => rfl
      | cons x xs => exact absurd ((hm x).2 List.mem_cons_self) (by simp)
    exact h
  | x :: s, L, a, w, hm, hs, hp, hsz, hS, h => by
    obtain ⟨p, q, rfl⟩ := List.append_of_mem ((hm x).1 List.mem_cons_self)
    have hpa := List.pairwise_append.1 hp
    have hnp : x ∉ p := fun hm => (hpa.2.2 x hm x List.mem_cons_self).1 rfl
    have hnq : x ∉ q := fun hm => ((List.pairwise_cons.1 hpa.2.1).1 x hm).1 rfl
    have hxs : ∀ y ∈ s, x ≠ y := (List.pairwise_cons.1 hs).1
    have hcm : ∀ j ∈ p, commI P ops G.G G.F j x = true := fun j hj => (hpa.2.2 j hj x List.mem_cons_self).2 (.inl ⟨rfl, by
      have := (hm j).2 (List.mem_append_left _ hj)
      rcases List.mem_cons.1 this with rfl | h
      · exact absurd hj hnp
      · exact h⟩)
    have hlt : x < ops.size := hsz x List.mem_cons_self
    have ho : ops[x]? = some ops[x] := Array.getElem?_eq_getElem hlt
    have h' := move_ hN p hcm a w hS h
    rw [lst_cons ho] at h'
    rw [wpOps_cons]
    refine wpOp_mono (fun a' w' hx => ops_of hN s (p ++ q) a' w' (fun i => ?_) (List.pairwise_cons.1 hs).2 ?_ (fun i hi => hsz i (List.mem_cons_of_mem _ hi)) hx.1 hx.2) (head_ ho hS h')
    · constructor
      · intro hi
        have := (hm i).1 (List.mem_cons_of_mem _ hi)
        have hne := hxs i hi
        simp only [List.mem_append, List.mem_cons] at this ⊢
        rcases this with h | h | h
        · exact .inl h
        · exact absurd h.symm hne
        · exact .inr h
      · intro hi
        have h1 : i ∈ x :: s := (hm i).2 (by
          simp only [List.mem_append, List.mem_cons] at hi ⊢
          rcases hi with h | h
          · exact .inl h
          · exact .inr (.inr h))
        rcases List.mem_cons.1 h1 with rfl | h2
        · rcases List.mem_append.1 hi with h | h
          · exact absurd h hnp
          · exact absurd h hnq
        · exact h2
    · exact (hp.sublist ((List.Sublist.refl p).append (List.sublist_cons_self x q))).imp fun h => ⟨h.1, fun ha => h.2 (.inr ha)⟩

def before : List Nat → Nat → Nat → Bool
  | [], _, _ => false
  | x :: r, j, i => if x == j then r.contains i else before r j i
theorem pairwise_before : ∀ {L : List Nat}, L.Pairwise (· ≠ ·) → L.Pairwise (fun j i => before L j i = true)
  | [], _ => List.Pairwise.nil
  | x :: r, h => by
    obtain ⟨h1, h2⟩ := List.pairwise_cons.1 h
    refine List.Pairwise.cons (fun i hi => by simp [before, hi]) ?_
    refine List.Pairwise.imp_of_mem (fun {j i} hj hi h => ?_) (pairwise_before h2)
    have : (x == j) = false := by simpa using h1 j hj
    simp [before, this, h]

/-- Whatever order the operations X come in, one of Ls serves. -/
def cov (P : Program) (ops : Array Oper) (G : Bool) (F : List Tmp) (M : List Nat) : Nat → List Nat → List (List Nat) → Bool
  | 0, _, Ls => !Ls.isEmpty
  | n + 1, rem, Ls => !Ls.isEmpty && rem.all fun x => (rem.any fun y => y != x && (M.getD x 0).testBit y) || cov P ops G F M n (rem.filter fun y => y != x) (Ls.filter fun L => rem.all fun j => j == x || !before L j x || commI P ops G F j x)
theorem cov_spec {b : Bool} {F : List Tmp} {M : List Nat} : ∀ (s : List Nat) (n : Nat) (rem : List Nat) (Ls : List (List Nat)), cov P ops b F M n rem Ls = true → rem.length ≤ n → (∀ i ∈ rem, i ∈ s) → Valid M s →
    ∃ L ∈ Ls, ∀ j i, j ∈ rem → i ∈ rem → Ahead s i j → before L j i = true → commI P ops b F j i = true := by
  intro s
  induction s with
  | nil =>
    intro n rem Ls hc hn hm hv
    obtain rfl : rem = [] := List.eq_nil_iff_forall_not_mem.2 fun i hi => absurd (hm i hi) (by simp)
    have : Ls.isEmpty = false := by
      cases n <;> simp [cov] at hc <;> simpa using hc
    cases Ls with
    | nil => cases this
    | cons L r => exact ⟨L, List.mem_cons_self, fun j i hj => absurd hj (by simp)⟩
  | cons x s ih =>
    intro n rem Ls hc hn hm hv
    obtain ⟨hv1, hv2⟩ := List.pairwise_cons.1 hv
    by_cases hx : x ∈ rem
    · cases n with
      | zero =>
        obtain rfl : rem = [] := List.eq_nil_of_length_eq_zero (by omega)
        cases hx
      | succ n =>
        simp only [cov, Bool.and_eq_true] at hc
        have h1 := List.all_eq_true.1 hc.2 x hx
        rw [Bool.or_eq_true] at h1
        rcases h1 with h1 | h1
        · exfalso
          obtain ⟨y, hy, hxy⟩ := List.any_eq_true.1 h1
          simp only [Bool.and_eq_true, bne_iff_ne] at hxy
          rcases List.mem_cons.1 (hm y hy) with rfl | h2
          · exact hxy.1 rfl
          · rw [(hv1 y h2).2] at hxy
            exact Bool.noConfusion hxy.2
        · have hlen : (rem.filter fun y => y != x).length ≤ n := by
            have : (rem.filter fun y => y != x).length < rem.length := by
              rw [List.length_filter_lt_length_iff_exists]
              exact ⟨x, hx, by simp⟩
            omega
          obtain ⟨L, hL, hp⟩ := ih n _ _ h1 hlen (fun i hi => by
            obtain ⟨hi1, hi2⟩ := List.mem_filter.1 hi
            rcases List.mem_cons.1 (hm i hi1) with rfl | h2
            · simp at hi2
            · exact h2) hv2
          obtain ⟨hL1, hL2⟩ := List.mem_filter.1 hL
          refine ⟨L, hL1, fun j i hj hi ha hb => ?_⟩
          have hnx : ∀ y ∈ s, y ≠ x := fun y hy e => (hv1 y hy).1 e.symm
          rcases ha with ⟨rfl, hjs⟩ | ha
          · have := List.all_eq_true.1 hL2 j hj
            have hjx := hnx j hjs
            simpa [hb, hjx] using this
          · obtain ⟨ha1, ha2⟩ := ahead_mem ha
            exact hp j i (List.mem_filter.2 ⟨hj, by simpa using hnx j ha2⟩) (List.mem_filter.2 ⟨hi, by simpa using hnx i ha1⟩) ha hb
    · obtain ⟨L, hL, hp⟩ := ih n rem Ls hc hn (fun i hi => by
        rcases List.mem_cons.1 (hm i hi) with rfl | h2
        · exact absurd hi hx
        · exact h2) hv2
      refine ⟨L, hL, fun j i hj hi ha hb => hp j i hj hi ?_ hb⟩
      rcases ha with ⟨rfl, _⟩ | ha
      · exact absurd hi hx
      · exact ha

def pairM (P : Program) (ops : Array Oper) (G : Bool) (F : List Tmp) (M X : List Nat) : List Nat → Bool
  | [] => true
  | j :: r => r.all (fun i => i != j && ((M.getD i 0).testBit j || commI P ops G F j i || (X.contains j && X.contains i))) && pairM P ops G F M X r
theorem pairM_spec {b : Bool} {F : List Tmp} {M X : List Nat} : ∀ {L : List Nat}, pairM P ops b F M X L = true → L.Pairwise (fun j i => i ≠ j ∧ ((M.getD i 0).testBit j = true ∨ commI P ops b F j i = true ∨ (j ∈ X ∧ i ∈ X)))
  | [], _ => List.Pairwise.nil
  | j :: r, h => by
    simp only [pairM, Bool.and_eq_true] at h
    refine List.Pairwise.cons (fun i hi => ?_) (pairM_spec h.2)
    have := List.all_eq_true.1 h.1 i hi
    simp only [Bool.and_eq_true, bne_iff_ne, Bool.or_eq_true, List.contains_iff_mem] at this
    exact ⟨this.1, by rcases this.2 with (h | h) | h <;> first | exact .inl h | exact .inr (.inl h) | exact .inr (.inr h)⟩
/-- The orders Ls serve for every order that the edges allow; X: the operations that do not commute. -/
def chkM (P : Program) (ops : Array Oper) (G : Bool) (F : List Tmp) (X : List Nat) (Ls : List (List Nat)) : Bool :=
  Region.noSelect ops && okMasks ops (masks ops) && X.all (fun i => decide (i < ops.size)) && cov P ops G F (masks ops) X.length X Ls &&
    Ls.all fun L => pairM P ops G F (masks ops) X L && (List.range ops.size).all (fun i => L.contains i) && L.all (fun i => decide (i < ops.size)) && L.length == ops.size
theorem valid_not {M : List Nat} : ∀ {s : List Nat}, Valid M s → ∀ {i j : Nat}, Ahead s i j → (M.getD i 0).testBit j = false
  | x :: s, h, i, j, ha => by
    obtain ⟨h1, h2⟩ := List.pairwise_cons.1 h
    rcases ha with ⟨rfl, hj⟩ | ha
    · exact (h1 j hj).2
    · exact valid_not h2 ha
theorem region_m {id : Nat} {l : List Oper} {a : Act} {w : World} {Q : Exit → Act → World → Prop} (X : List Nat) (Ls : List (List Nat)) (S : World → Prop) (G : Bool) (F : List Tmp) (hm : P.follows .mixedOrders = true) (hc : chkM P l.toArray G F X Ls = true) (hS : S w.drew)
    (h : ∀ L ∈ Ls, wpE P l.toArray ⟨S, G, F⟩ (Q .normal) (lst l.toArray L) a w.drew) : (Code.region id l.toArray true).wp P Q a w := by
  simp only [chkM, Bool.and_eq_true] at hc
  obtain ⟨⟨⟨⟨h1, h2⟩, h3⟩, h4⟩, h5⟩ := hc
  refine wp_region_draw fun t => ?_
  simp only [Region.schedule, hm, Bool.true_or, if_true]
  have hall : ∀ L ∈ Ls, L.Pairwise (· ≠ ·) ∧ (∀ i, i ∈ L ↔ i < l.toArray.size) ∧ L.length = l.toArray.size ∧ L.Pairwise (fun j i => i ≠ j ∧ (((masks l.toArray).getD i 0).testBit j = true ∨ commI P l.toArray G F j i = true ∨ (j ∈ X ∧ i ∈ X))) := by
    intro L hL
    have := List.all_eq_true.1 h5 L hL
    simp only [Bool.and_eq_true, beq_iff_eq] at this
    obtain ⟨⟨⟨g1, g2⟩, g3⟩, g4⟩ := this
    have hp := pairM_spec g1
    refine ⟨hp.imp fun h => Ne.symm h.1, fun i => ⟨fun hi => by simpa using List.all_eq_true.1 g3 i hi, fun hi => by simpa using List.all_eq_true.1 g2 i (List.mem_range.2 hi)⟩, g4, hp⟩
  have hne : ∃ L0, L0 ∈ Ls := by
    have : Ls.isEmpty = false := by
      cases hX : X.length <;> rw [hX] at h4 <;> simp [cov] at h4 <;> simp [h4]
    cases Ls with
    | nil => cases this
    | cons L r => exact ⟨L, List.mem_cons_self⟩
  obtain ⟨L0, hL0⟩ := hne
  obtain ⟨e1, e2, e3, _⟩ := hall L0 hL0
  have hlin := lin_valid (ops := l.toArray) h2 l.toArray.size t (Array.replicate l.toArray.size false) L0 e3 (by simp) (fun i => by
    rw [e2 i]
    constructor
    · intro hi
      refine ⟨hi, ?_⟩
      simp at hi
      simp [hi]
    · exact fun hi => hi.1) e1 (fun k o hk hl => by
      obtain ⟨hk', _⟩ := Array.getElem?_eq_some_iff.1 hk
      simp at hk'
      simp [hk'] at hl)
  change wpOps P l.toArray Q (Region.linearise.go .any l.toArray l.toArray.size t (Array.replicate l.toArray.size false) []) a w.drew
  generalize Region.linearise.go .any l.toArray l.toArray.size t (Array.replicate l.toArray.size false) [] = s at *
  obtain ⟨hmem, hv⟩ := hlin
  obtain ⟨L, hL, hp⟩ := cov_spec s X.length X Ls h4 (Nat.le_refl _) (fun i hi => (hmem i).2 ((e2 i).2 (by simpa using List.all_eq_true.1 h3 i hi))) hv
  obtain ⟨f1, f2, f3, f4⟩ := hall L hL
  refine ops_of (G := ⟨S, G, F⟩) h1 s L a _ (fun i => by rw [hmem i, e2 i, f2 i]) (hv.imp fun h => h.1) ?_ (fun i hi => (e2 i).1 ((hmem i).1 hi)) hS (h L hL)
  have hb := pairwise_before f1
  refine (f4.and hb).imp fun {j i} h => ⟨Ne.symm h.1.1, fun ha => ?_⟩
  rcases h.1.2 with g | g | ⟨g1, g2⟩
  · rw [valid_not hv ha] at g; cases g
  · exact g
  · exact hp j i g1 g2 ha h.2
end
end Ord
end Go.Proofs.YtmkidihcdljkiaaGreat

/-
  Rows of structs: a slice that reads as a list of rows of cells.
-/
set_option linter.unusedSimpArgs false
set_option linter.unusedVariables false
namespace Go.Proofs.YtmkidihcdljkiaaGreat
open Go.RowKit

theorem flat_at {size : Nat} : ∀ (ls : List (List Value)) (k j : Nat) (r : List Value), (∀ x ∈ ls, x.length = size) → ls[k]? = some r → j < size → ls.flatten[k * size + j]? = r[j]?
  | [], _, _, _, _, h, _ => by simp at h
  | g :: l, 0, j, r, ha, h, hj => by
    simp at h; subst h
    have := ha g List.mem_cons_self
    simp only [List.flatten_cons, Nat.zero_mul, Nat.zero_add]
    rw [List.getElem?_append_left (by omega)]
  | g :: l, k + 1, j, r, ha, h, hj => by
    have ih := flat_at l k j r (fun x hx => ha x (List.mem_cons_of_mem _ hx)) (by simpa using h) hj
    have e := ha g List.mem_cons_self
    have e2 : (k + 1) * size + j = size + (k * size + j) := by rw [Nat.succ_mul]; omega
    rw [← ih, List.flatten_cons, List.getElem?_append_right (by rw [e2, e]; omega), e2, e]
    congr 1
    omega
theorem flat_len {size : Nat} : ∀ (ls : List (List Value)), (∀ x ∈ ls, x.length = size) → ls.flatten.length = ls.length * size
  | [], _ => by simp
  | g :: l, ha => by
    have := flat_len l (fun x hx => ha x (List.mem_cons_of_mem _ hx))
    rw [List.flatten_cons, List.length_append, this, ha g List.mem_cons_self, List.length_cons, Nat.succ_mul]
    omega
def RdR (w : World) (B size : Nat) (A : Option Addr) (n c : Nat) (ls : List (List Value)) : Prop :=
  ls.length = n ∧ (∀ r ∈ ls, r.length = size) ∧ n ≤ c ∧ c ≤ maxLen ∧ (0 < n → ∃ g off, A = some ⟨g, off, none⟩ ∧ g < B ∧ ∀ (k : Nat) (r : List Value), ls[k]? = some r → w.rangeAt g (off + k * size) r)
section
variable {w w' : World} {B B' size n c : Nat} {A : Option Addr} {ls : List (List Value)}
theorem RdR.none_ (w : World) (B size : Nat) : RdR w B size none 0 0 [] := ⟨rfl, by simp, Nat.le_refl _, Nat.zero_le _, fun h => absurd h (Nat.lt_irrefl _)⟩
theorem RdR.up (h : RdR w B size A n c ls) (hb : Below B w w') : RdR w' B size A n c ls :=
  ⟨h.1, h.2.1, h.2.2.1, h.2.2.2.1, fun hn => by
    obtain ⟨g, off, e, hg, hr⟩ := h.2.2.2.2 hn
    exact ⟨g, off, e, hg, fun k r hk j v hv => (hb.cell (p := ⟨g, off + k * size + j, none⟩) hg).trans (hr k r hk j v hv)⟩⟩
theorem RdR.more (h : RdR w B size A n c ls) (hB : B ≤ B') : RdR w B' size A n c ls :=
  ⟨h.1, h.2.1, h.2.2.1, h.2.2.2.1, fun hn => by
    obtain ⟨g, off, e, hg, hr⟩ := h.2.2.2.2 hn
    exact ⟨g, off, e, by omega, hr⟩⟩
theorem RdR.nx (h : RdR w w.heap.size size A n c ls) (hb : Below w.heap.size w w') : RdR w' w'.heap.size size A n c ls := (h.up hb).more hb.size
theorem RdR.at_ (h : RdR w B size A n c ls) {k : Nat} (hk : k < n) : ∃ g off r, A = some ⟨g, off, none⟩ ∧ g < B ∧ ls[k]? = some r ∧ r.length = size ∧ w.rangeAt g (off + k * size) r := by
  obtain ⟨g, off, e, hg, hr⟩ := h.2.2.2.2 (by omega)
  have hl : k < ls.length := by have := h.1; omega
  exact ⟨g, off, ls[k], e, hg, List.getElem?_eq_getElem hl, h.2.1 _ (List.getElem_mem hl), hr k _ (List.getElem?_eq_getElem hl)⟩
theorem RdR.own {base : Nat} {e : TypeId} (h : w.ownsRow base e size (.slice A n c) n ls.flatten) (hl : ls.length = n) (ha : ∀ r ∈ ls, r.length = size) : RdR w w.heap.size size A n c ls := by
  rcases h.2 with ⟨hv, h0⟩ | ⟨g, cap, cur, hv, hg, hh, h1, h2, h3, h4⟩
  · injection hv with e1 e2 e3
    subst e1; subst e2; subst e3
    exact ⟨hl, ha, Nat.le_refl _, Nat.zero_le _, fun h => absurd h (Nat.lt_irrefl _)⟩
  · have hcell := h.cells (g := g) (by rw [hv]; rfl)
    injection hv with e1 e2 e3
    subst e1; subst e3
    refine ⟨hl, ha, h1, h2, fun _ => ⟨g, 0, rfl, ?_, fun k r hk j v hv => ?_⟩⟩
    · rcases Nat.lt_or_ge g w.heap.size with hlt | hge
      · exact hlt
      · rw [Array.getElem?_eq_none hge] at hh; cases hh
    · have hj : j < r.length := (List.getElem?_eq_some_iff.1 hv).1
      have hr := ha r (List.mem_of_getElem? hk)
      have := hcell (k * size + j) v (by rw [flat_at ls k j r ha hk (by omega)]; exact hv)
      rwa [show (⟨g, 0, none⟩ : Addr).add (k * size + j) = ⟨g, 0 + k * size + j, none⟩ by unfold Addr.add; split <;> simp_all] at this
theorem RdR.rd (h : RdR w B size A n c ls) (hs : 0 < size) : Rd w B size A n c ls.flatten := by
  refine ⟨by rw [flat_len ls h.2.1, h.1], h.2.2.1, h.2.2.2.1, fun hn => ?_⟩
  obtain ⟨g, off, e, hg, hr⟩ := h.2.2.2.2 hn
  refine ⟨_, e, hg, fun j u hu => ?_⟩
  have hj : j < ls.flatten.length := (List.getElem?_eq_some_iff.1 hu).1
  rw [flat_len ls h.2.1] at hj
  have hk : j / size < ls.length := (Nat.div_lt_iff_lt_mul hs).2 hj
  have hdm : j = j / size * size + j % size := by rw [Nat.mul_comm]; exact (Nat.div_add_mod j size).symm
  have hx : ls[j / size]? = some ls[j / size] := List.getElem?_eq_getElem hk
  rw [hdm, flat_at ls (j / size) (j % size) _ h.2.1 hx (Nat.mod_lt _ hs)] at hu
  have := hr (j / size) _ hx (j % size) u hu
  have e2 : (⟨g, off, none⟩ : Addr).add j = ⟨g, off + j / size * size + j % size, none⟩ := by
    rw [Addr.add_mid]
    congr 1
    omega
  rw [e2]
  exact this
end
end Go.Proofs.YtmkidihcdljkiaaGreat
