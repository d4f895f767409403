/-
  Several texts in one: UbxLaw UbxC Ubx1.
-/
import Derived.Test.YtmkidihcdljkiaaGreatKPPvt11
import Derived.Test.YtmkidihcdljkiaaGreatKPGS
import Derived.Test.YtmkidihcdljkiaaGreatKPGVA
import Derived.Test.YtmkidihcdljkiaaGreatKPGDA
import Derived.Test.YtmkidihcdljkiaaGreatKPFrPut
import Derived.Stop.BytesEq
import Derived.Laws.CopyOwn
import Derived.Test.YtmkidihcdljkiaaGreatKPGE
import Derived.Test.YtmkidihcdljkiaaGreatKPGA
import Derived.Test.YtmkidihcdljkiaaGreatKPVal2
import Derived.Deep.MidRow
/-
  Plain laws of the first protocol's messages: what a message is, its frame, its bytes; there and back.
-/
set_option linter.unusedSimpArgs false
set_option linter.unusedVariables false
namespace Go.Proofs.YtmkidihcdljkiaaGreat
open Go.RowKit NumLaw

/-- A message of the first protocol. -/
structure UbV where
  k : Int
  p : List Int
  t : Int
  l : List (List Int)
  d : List Int
  y : Bool
  a1 : Int
  a2 : Int
  la : Int
  q : List (Int × Int)
def d8 : List Int := [0, 0, 0, 0, 0, 0, 0, 0]
/-- No message. -/
def ub0 : UbV := ⟨0, pz, 0, [], d8, false, 0, 0, 0, []⟩
/-- Of the right lengths, and in the bounds of the kinds. -/
structure UbOk (V : UbV) : Prop where
  k : -9223372036854775808 ≤ V.k ∧ V.k ≤ 9223372036854775807
  pl : V.p.length = 32
  pb : ∀ z ∈ V.p, -9223372036854775808 ≤ z ∧ z ≤ 9223372036854775807
  t : -9223372036854775808 ≤ V.t ∧ V.t ≤ 9223372036854775807
  ll : ∀ s ∈ V.l, s.length = 7
  lb : ∀ s ∈ V.l, ∀ z ∈ s, -9223372036854775808 ≤ z ∧ z ≤ 9223372036854775807
  dl : V.d.length = 8
  db : ∀ z ∈ V.d, -9223372036854775808 ≤ z ∧ z ≤ 9223372036854775807
  a1 : -9223372036854775808 ≤ V.a1 ∧ V.a1 ≤ 9223372036854775807
  a2 : -9223372036854775808 ≤ V.a2 ∧ V.a2 ≤ 9223372036854775807
  la : -9223372036854775808 ≤ V.la ∧ V.la ≤ 9223372036854775807
  qb : ∀ p ∈ V.q, (-9223372036854775808 ≤ p.1 ∧ p.1 ≤ 9223372036854775807) ∧ -9223372036854775808 ≤ p.2 ∧ p.2 ≤ 9223372036854775807
/-- Its part alone. -/
def ubPlain (V : UbV) : UbV :=
  if V.k = 1 then { ub0 with k := 1, p := V.p }
  else if V.k = 2 then { ub0 with k := 2, t := V.t, l := V.l }
  else if V.k = 3 then { ub0 with k := 3, d := V.d }
  else if V.k = 4 then { ub0 with k := 4, y := V.y, a1 := V.a1, a2 := V.a2 }
  else if V.k = 5 then { ub0 with k := 5, la := V.la, q := V.q }
  else { ub0 with k := V.k }
/-- Its class and its id. -/
def ubC (V : UbV) : Int := if V.k = 1 then 1 else if V.k = 2 then 1 else if V.k = 3 then 1 else if V.k = 4 then 5 else if V.k = 5 then 6 else -1
def ubI (V : UbV) : Int := if V.k = 1 then 7 else if V.k = 2 then 53 else if V.k = 3 then 4 else if V.k = 4 then (if V.y then 1 else 0) else if V.k = 5 then 138 else -1
/-- Its payload, or why there is none. -/
def ubE (V : UbV) : Nat :=
  if V.k = 1 then shE pvtF (valsOf V.p) else if V.k = 2 then satsE V.t V.l else if V.k = 3 then shE dopF V.d else if V.k = 4 then shE ackF [V.a1, V.a2] else if V.k = 5 then valE V.la V.q else 6
def ubB (V : UbV) : List UInt8 :=
  if V.k = 1 then shP pvtF (valsOf V.p) else if V.k = 2 then satsP V.t V.l else if V.k = 3 then shP dopF V.d else if V.k = 4 then shP ackF [V.a1, V.a2] else if V.k = 5 then valP V.la V.q else []
/-- Its bytes, or why there are none. -/
def ubEE (V : UbV) : Nat := if ubE V = 0 then putE (ubC V) (ubI V) (ubB V).length else ubE V
def ubEP (V : UbV) : List UInt8 := if ubE V = 0 then putB (ubC V) (ubI V) (ubB V) else []
/-- The kind of a class and an id; 0: there is none. -/
def ubKd (c i : Int) : Nat := if c = 1 ∧ i = 7 then 1 else if c = 1 ∧ i = 53 then 2 else if c = 1 ∧ i = 4 then 3 else if c = 5 ∧ (i = 0 ∨ i = 1) then 4 else if c = 6 ∧ i = 138 then 5 else 0
theorem ub_kinds (V : UbV) : V.k = 1 ∨ V.k = 2 ∨ V.k = 3 ∨ V.k = 4 ∨ V.k = 5 ∨ (V.k ≠ 1 ∧ V.k ≠ 2 ∧ V.k ≠ 3 ∧ V.k ≠ 4 ∧ V.k ≠ 5) := by omega
theorem ubPlain_ok {V : UbV} (h : UbOk V) : UbOk (ubPlain V) := by
  have z0 : UbOk { ub0 with k := V.k } := ⟨h.k, rfl, by intro z hz; obtain ⟨_, rfl⟩ := List.mem_replicate.1 hz; omega, by simp [ub0], by simp [ub0], by simp [ub0], rfl, by simp [ub0, d8], by simp [ub0], by simp [ub0], by simp [ub0], by simp [ub0]⟩
  unfold ubPlain
  by_cases h1 : V.k = 1
  · rw [if_pos h1, ← h1]; exact { z0 with pl := h.pl, pb := h.pb }
  rw [if_neg h1]
  by_cases h2 : V.k = 2
  · rw [if_pos h2, ← h2]; exact { z0 with t := h.t, ll := h.ll, lb := h.lb }
  rw [if_neg h2]
  by_cases h3 : V.k = 3
  · rw [if_pos h3, ← h3]; exact { z0 with dl := h.dl, db := h.db }
  rw [if_neg h3]
  by_cases h4 : V.k = 4
  · rw [if_pos h4, ← h4]; exact { z0 with a1 := h.a1, a2 := h.a2 }
  rw [if_neg h4]
  by_cases h5 : V.k = 5
  · rw [if_pos h5, ← h5]; exact { z0 with la := h.la, qb := h.qb }
  rw [if_neg h5]; exact z0

end Go.Proofs.YtmkidihcdljkiaaGreat

/-
  A message of the first protocol, in cells.
-/
set_option linter.unusedSimpArgs false
set_option linter.unusedVariables false
namespace Go.Proofs.YtmkidihcdljkiaaGreat
open Go.RowKit NumLaw

/-- Where a message's two rows lie. -/
structure UbA where
  A : Option Addr
  n : Nat
  c : Nat
  A' : Option Addr
  n' : Nat
  c' : Nat
def ua0 : UbA := ⟨none, 0, 0, none, 0, 0⟩
def i64s (l : List Int) : List Value := l.map (Value.int .i64)
def saS (t : Int) (A : Option Addr) (n c : Nat) : List Value := [.int .i64 t, .slice A n c]
def acS (y : Bool) (a b : Int) : List Value := [.bool y, .int .i64 a, .int .i64 b]
/-- Its cells. -/
def ubL (V : UbV) (a : UbA) : List Value :=
  .int .i64 V.k :: (i64s V.p ++ (saS V.t a.A a.n a.c ++ (i64s V.d ++ (acS V.y V.a1 V.a2 ++ saS V.la a.A' a.n' a.c'))))
/-- Its rows are read. -/
structure UbR (w : World) (B : Nat) (V : UbV) (a : UbA) : Prop where
  s : RdR w B 7 a.A a.n a.c (V.l.map saC)
  q : RdR w B 2 a.A' a.n' a.c' (V.q.map prC)
theorem UbR.up {w w' : World} {B : Nat} {V : UbV} {a : UbA} (h : UbR w B V a) (hb : Below B w w') : UbR w' B V a := ⟨h.s.up hb, h.q.up hb⟩
theorem UbR.more {w : World} {B B' : Nat} {V : UbV} {a : UbA} (h : UbR w B V a) (hB : B ≤ B') : UbR w B' V a := ⟨h.s.more hB, h.q.more hB⟩
theorem UbR.nil (w : World) (B : Nat) (V : UbV) (h1 : V.l = []) (h2 : V.q = []) : UbR w B V ua0 := by
  constructor
  · rw [h1]; exact RdR.none_ w B 7
  · rw [h2]; exact RdR.none_ w B 2
theorem i64s_len (l : List Int) : (i64s l).length = l.length := by simp [i64s]
theorem i64v_one (l : List Int) : ∀ v ∈ i64s l, v.oneCell' = true := by
  intro v hv
  obtain ⟨z, _, rfl⟩ := List.mem_map.1 hv
  rfl
theorem ubL_one (V : UbV) (a : UbA) : ∀ v ∈ ubL V a, v.oneCell' = true := by
  intro v hv
  unfold ubL saS acS at hv
  simp only [List.mem_cons, List.mem_append, List.not_mem_nil, or_false] at hv
  rcases hv with rfl | hv | hv | hv | hv | hv
  · rfl
  · exact i64v_one _ v hv
  · rcases hv with rfl | rfl <;> rfl
  · exact i64v_one _ v hv
  · rcases hv with rfl | rfl | rfl <;> rfl
  · rcases hv with rfl | rfl <;> rfl
section
variable {V : UbV} {a : UbA}
theorem ubL_len (hp : V.p.length = 32) (hd : V.d.length = 8) : (ubL V a).length = 48 := by simp [ubL, i64s, saS, acS, hp, hd]
theorem ubL_p (hp : V.p.length = 32) : ∀ j v, (i64s V.p)[j]? = some v → (ubL V a)[1 + j]? = some v := by
  intro j v hv
  have hj : j < (i64s V.p).length := (List.getElem?_eq_some_iff.1 hv).1
  show (Value.int .i64 V.k :: _)[1 + j]? = _
  rw [Nat.add_comm, List.getElem?_cons_succ, List.getElem?_append_left hj, hv]
theorem ubL_s (hp : V.p.length = 32) : ∀ j v, (saS V.t a.A a.n a.c)[j]? = some v → (ubL V a)[33 + j]? = some v := by
  intro j v hv
  have hj : j < (saS V.t a.A a.n a.c).length := (List.getElem?_eq_some_iff.1 hv).1
  have hi : (i64s V.p).length = 32 := by simp [i64s, hp]
  show (Value.int .i64 V.k :: _)[33 + j]? = _
  rw [show 33 + j = (32 + j) + 1 by omega, List.getElem?_cons_succ, List.getElem?_append_right (by omega), hi, show 32 + j - 32 = j by omega, List.getElem?_append_left hj, hv]
theorem ubL_d (hp : V.p.length = 32) : ∀ j v, (i64s V.d)[j]? = some v → (ubL V a)[35 + j]? = some v := by
  intro j v hv
  have hj : j < (i64s V.d).length := (List.getElem?_eq_some_iff.1 hv).1
  have hi : (i64s V.p).length = 32 := by simp [i64s, hp]
  have h2 : (saS V.t a.A a.n a.c).length = 2 := rfl
  show (Value.int .i64 V.k :: _)[35 + j]? = _
  rw [show 35 + j = (34 + j) + 1 by omega, List.getElem?_cons_succ, List.getElem?_append_right (by omega), hi, show 34 + j - 32 = 2 + j by omega, List.getElem?_append_right (by omega), h2, show 2 + j - 2 = j by omega, List.getElem?_append_left hj, hv]
theorem ubL_a (hp : V.p.length = 32) (hd : V.d.length = 8) : ∀ j v, (acS V.y V.a1 V.a2)[j]? = some v → (ubL V a)[43 + j]? = some v := by
  intro j v hv
  have hj : j < (acS V.y V.a1 V.a2).length := (List.getElem?_eq_some_iff.1 hv).1
  have hi : (i64s V.p).length = 32 := by simp [i64s, hp]
  have hi2 : (i64s V.d).length = 8 := by simp [i64s, hd]
  have h2 : (saS V.t a.A a.n a.c).length = 2 := rfl
  show (Value.int .i64 V.k :: _)[43 + j]? = _
  rw [show 43 + j = (42 + j) + 1 by omega, List.getElem?_cons_succ, List.getElem?_append_right (by omega), hi, show 42 + j - 32 = 10 + j by omega, List.getElem?_append_right (by omega), h2, show 10 + j - 2 = 8 + j by omega,
    List.getElem?_append_right (by omega), hi2, show 8 + j - 8 = j by omega, List.getElem?_append_left hj, hv]
theorem ubL_q (hp : V.p.length = 32) (hd : V.d.length = 8) : ∀ j v, (saS V.la a.A' a.n' a.c')[j]? = some v → (ubL V a)[46 + j]? = some v := by
  intro j v hv
  have hi : (i64s V.p).length = 32 := by simp [i64s, hp]
  have hi2 : (i64s V.d).length = 8 := by simp [i64s, hd]
  have h2 : (saS V.t a.A a.n a.c).length = 2 := rfl
  have h3 : (acS V.y V.a1 V.a2).length = 3 := rfl
  show (Value.int .i64 V.k :: _)[46 + j]? = _
  rw [show 46 + j = (45 + j) + 1 by omega, List.getElem?_cons_succ, List.getElem?_append_right (by omega), hi, show 45 + j - 32 = 13 + j by omega, List.getElem?_append_right (by omega), h2, show 13 + j - 2 = 11 + j by omega,
    List.getElem?_append_right (by omega), hi2, show 11 + j - 8 = 3 + j by omega, List.getElem?_append_right (by omega), h3, show 3 + j - 3 = j by omega, hv]
end
/-- A message's block. -/
def UbB (w : World) (g : Nat) (V : UbV) (a : UbA) : Prop := w.heap[g]? = some (.cells (ubL V a).toArray 35)
section
variable {w w' : World} {g : Nat} {V : UbV} {a : UbA}
theorem UbB.old (h : UbB w g V a) {B : Nat} (hb : Below B w w') (hg : g < B) : UbB w' g V a := blk_old h hb hg
theorem UbB.kc (h : UbB w g V a) : w.cell? ⟨g, 0, none⟩ = some (.int .i64 V.k) := blk_cell (i := 0) h rfl
theorem UbB.range {o : Nat} {l : List Value} (h : UbB w g V a) (hl : ∀ j v, l[j]? = some v → (ubL V a)[o + j]? = some v) : w.rangeAt g o l := fun j v hv =>
  blk_cell (i := o + j) h (by rw [List.getElem?_toArray]; exact hl j v hv)
theorem UbB.pr (h : UbB w g V a) (hp : V.p.length = 32) : w.rangeAt g 1 (i64s V.p) := h.range (ubL_p hp)
theorem UbB.sr (h : UbB w g V a) (hp : V.p.length = 32) : w.rangeAt g 33 (saS V.t a.A a.n a.c) := h.range (ubL_s hp)
theorem UbB.dr (h : UbB w g V a) (hp : V.p.length = 32) : w.rangeAt g 35 (i64s V.d) := h.range (ubL_d hp)
theorem UbB.ar (h : UbB w g V a) (hp : V.p.length = 32) (hd : V.d.length = 8) : w.rangeAt g 43 (acS V.y V.a1 V.a2) := h.range (ubL_a hp hd)
theorem UbB.qr (h : UbB w g V a) (hp : V.p.length = 32) (hd : V.d.length = 8) : w.rangeAt g 46 (saS V.la a.A' a.n' a.c') := h.range (ubL_q hp hd)
theorem UbB.tc (h : UbB w g V a) (hp : V.p.length = 32) : w.cell? ⟨g, 33, none⟩ = some (.int .i64 V.t) := h.sr hp 0 _ rfl
theorem UbB.lc (h : UbB w g V a) (hp : V.p.length = 32) : w.cell? ⟨g, 34, none⟩ = some (.slice a.A a.n a.c) := h.sr hp 1 _ rfl
theorem UbB.yc (h : UbB w g V a) (hp : V.p.length = 32) (hd : V.d.length = 8) : w.cell? ⟨g, 43, none⟩ = some (.bool V.y) := h.ar hp hd 0 _ rfl
theorem UbB.lac (h : UbB w g V a) (hp : V.p.length = 32) (hd : V.d.length = 8) : w.cell? ⟨g, 46, none⟩ = some (.int .i64 V.la) := h.qr hp hd 0 _ rfl
theorem UbB.qc (h : UbB w g V a) (hp : V.p.length = 32) (hd : V.d.length = 8) : w.cell? ⟨g, 47, none⟩ = some (.slice a.A' a.n' a.c') := h.qr hp hd 1 _ rfl
/-- What a store in it makes of it. -/
theorem setCells_blk {b : Nat} {t : TypeId} : ∀ (vs pre olds post : List Value) (w : World), w.heap[b]? = some (.cells (pre ++ (olds ++ post)).toArray t) → olds.length = vs.length → (w.setCells b pre.length vs).heap[b]? = some (.cells (pre ++ (vs ++ post)).toArray t)
  | [], pre, olds, post, w, h, hl => by
    obtain rfl : olds = [] := List.eq_nil_of_length_eq_zero (by simpa using hl)
    exact h
  | v :: vs, pre, [], post, w, h, hl => by simp at hl
  | v :: vs, pre, x :: olds, post, w, h, hl => by
    have h1 := blk_set (i := pre.length) h v
    have e1 : (pre ++ (x :: olds ++ post)).toArray.setIfInBounds pre.length v = ((pre ++ [v]) ++ (olds ++ post)).toArray := by simp
    rw [e1] at h1
    have := setCells_blk vs (pre ++ [v]) olds post _ h1 (by simpa using hl)
    unfold World.setCells
    simpa using this
end

end Go.Proofs.YtmkidihcdljkiaaGreat

/-
  A message's class and id; the part of a class and an id (printed by gen_ubx1.py).
-/
set_option linter.unusedSimpArgs false
set_option linter.unusedVariables false
namespace Go.Proofs.YtmkidihcdljkiaaGreat
open Go.RowKit NumLaw
attribute [local go_sem] Addr.add_mid

set_option maxRecDepth 10000 in
set_option maxHeartbeats 1000000 in
theorem ubnames_any (V : UbV) (a : UbA) (hp : V.p.length = 32) (hd : V.d.length = 8) (w : World) :
    Calls Tryz.prog 21 #[.agg (ubL V a).toArray] w fun e w' => e = .returned (.tuple #[.int .i64 (ubC V), .int .i64 (ubI V)]) ∧ Below w.heap.size w w' := by
  have hb := (Below.refl w.heap.size w).alloc (Nat.le_refl _) (.cells (ubL V a).toArray 35)
  have hx : UbB (w.alloc (.cells (ubL V a).toArray 35)) w.heap.size V a := heap_alloc_new _ _
  have c0 := hx.kc
  have cy := hx.yc hp hd
  clear hx hp hd
  have hk := ub_kinds V
  generalize hl : ubL V a = l at *
  generalize hC : ubC V = c at *
  generalize hI : ubI V = i at *
  clear hl
  rcases hk with hk | hk | hk | hk | hk | ⟨h1, h2, h3, h4, h5⟩
  · rw [hk] at c0
    obtain rfl : c = 1 := by rw [← hC]; simp [ubC, hk]
    obtain rfl : i = 7 := by rw [← hI]; simp [ubI, hk]
    clear hk hC hI cy
    go_enter Tryz.func21, Tryz.ntmps21
    go_wp2
    go_ret2
    exact ⟨rfl, hb⟩
  · rw [hk] at c0
    obtain rfl : c = 1 := by rw [← hC]; simp [ubC, hk]
    obtain rfl : i = 53 := by rw [← hI]; simp [ubI, hk]
    clear hk hC hI cy
    go_enter Tryz.func21, Tryz.ntmps21
    go_wp2
    go_ret2
    exact ⟨rfl, hb⟩
  · rw [hk] at c0
    obtain rfl : c = 1 := by rw [← hC]; simp [ubC, hk]
    obtain rfl : i = 4 := by rw [← hI]; simp [ubI, hk]
    clear hk hC hI cy
    go_enter Tryz.func21, Tryz.ntmps21
    go_wp2
    go_ret2
    exact ⟨rfl, hb⟩
  · rw [hk] at c0
    obtain rfl : c = 5 := by rw [← hC]; simp [ubC, hk]
    cases hy : V.y
    · obtain rfl : i = 0 := by rw [← hI]; simp [ubI, hk, hy]
      rw [hy] at cy
      clear hk hC hI hy
      go_enter Tryz.func21, Tryz.ntmps21
      go_wp2
      go_ret2
      exact ⟨rfl, hb⟩
    · obtain rfl : i = 1 := by rw [← hI]; simp [ubI, hk, hy]
      rw [hy] at cy
      clear hk hC hI hy
      go_enter Tryz.func21, Tryz.ntmps21
      go_wp2
      go_ret2
      exact ⟨rfl, hb⟩
  · rw [hk] at c0
    obtain rfl : c = 6 := by rw [← hC]; simp [ubC, hk]
    obtain rfl : i = 138 := by rw [← hI]; simp [ubI, hk]
    clear hk hC hI cy
    go_enter Tryz.func21, Tryz.ntmps21
    go_wp2
    go_ret2
    exact ⟨rfl, hb⟩
  · obtain rfl : c = -1 := by rw [← hC]; simp [ubC, h1, h2, h3, h4, h5]
    obtain rfl : i = -1 := by rw [← hI]; simp [ubI, h1, h2, h3, h4, h5]
    generalize V.k = k at *
    clear hC hI cy
    go_enter Tryz.func21, Tryz.ntmps21
    go_wp2
    go_ret2
    exact ⟨rfl, hb⟩

/-- The part of a class and an id. -/
def ubPart (c i : Int) : Value :=
  match ubKd c i with
  | 1 => .iface 88 (.agg #[])
  | 2 => .iface 89 (.agg #[])
  | 3 => .iface 90 (.agg #[])
  | 4 => .iface 91 (.agg #[])
  | 5 => .iface 92 (.agg #[])
  | _ => .nilIface
set_option maxRecDepth 10000 in
theorem int_info : (Tryz.prog.info? 3).map (·.size) = some 1 := by kernel_rfl
set_option maxRecDepth 10000 in
theorem arrI_eql (a b c d : Int) (w : World) : (Op.equalIn 10000 86 (.agg #[.int .i64 a, .int .i64 b]) (.agg #[.int .i64 c, .int .i64 d])).run Tryz.prog w = .ok (a == c && b == d) w := by
  have hsz : ∀ w, (sizeOf 3).run Tryz.prog w = .ok 1 w := fun w => by
    have h := int_info
    cases hq : Tryz.prog.info? 3 with
    | none => rw [hq] at h; cases h
    | some i => rw [hq] at h; injection h with h; simp [sizeOf, typeInfo, hq, h]
  have he : ∀ x y w, (Op.equalIn 9999 3 (.int .i64 x) (.int .i64 y)).run Tryz.prog w = .ok (x == y) w := fun x y w => run_equalIn_int w 9998 3 .i64 .i64 x y Tryz.underlying3
  have p0 : ∀ (x y : Int) w, (part 3 #[.int .i64 x, .int .i64 y] 0).run Tryz.prog w = .ok (.int .i64 x) w := fun x y w => by simp [part, isAgg, run_underlying Tryz.underlying3]
  have p1 : ∀ (x y : Int) w, (part 3 #[.int .i64 x, .int .i64 y] 1).run Tryz.prog w = .ok (.int .i64 y) w := fun x y w => by simp [part, isAgg, run_underlying Tryz.underlying3]
  rw [Op.equalIn]
  simp only [Sem.run_bind, run_underlying Tryz.underlying86, Result.andThen_ok, hsz, Std.Legacy.Range.forIn_eq_forIn_range', Std.Legacy.Range.size, Nat.sub_zero, Nat.add_sub_cancel, Nat.div_one]
  have hr : List.range' 0 2 1 = [0, 1] := rfl
  rw [hr]
  simp only [List.forIn_cons, List.forIn_nil, Sem.run_bind, Nat.zero_mul, Nat.one_mul, p0, p1, he, Result.andThen_ok]
  cases h1 : (a == c)
  · simp
  · cases h2 : (b == d) <;> simp [p1, he, h2]
attribute [local go_sem] arrI_eql
set_option maxRecDepth 10000 in
set_option maxHeartbeats 1000000 in
theorem ubnamed_any (c i : Int) (w : World) :
    Calls Tryz.prog 22 #[.int .i64 c, .int .i64 i] w fun e w' => e = .returned (ubPart c i) ∧ w = w' := by
  obtain ⟨P, hP⟩ : ∃ P, P = ubPart c i := ⟨_, rfl⟩
  rw [← hP]
  go_enter Tryz.func22, Tryz.ntmps22
  go_wp2
  all_goals (go_ret; refine ⟨?_, rfl⟩; rw [hP]; clear hP; unfold ubPart ubKd; simp_all)
  rw [if_neg (by omega), if_neg (by omega), if_neg (by omega), if_neg (by omega), if_neg (by omega)]
  rfl
end Go.Proofs.YtmkidihcdljkiaaGreat
