/-
  The five parts' take, walked (printed by gen_ubx4.py).
-/
import Derived.Test.YtmkidihcdljkiaaGreatKPGUA
import Derived.Test.YtmkidihcdljkiaaGreatKPPvt11
import Derived.Test.YtmkidihcdljkiaaGreatKPGSU
import Derived.Test.YtmkidihcdljkiaaGreatKPDop2
import Derived.Test.YtmkidihcdljkiaaGreatKPAck2
import Derived.Test.YtmkidihcdljkiaaGreatKPVal6
set_option linter.unusedSimpArgs false
set_option linter.unusedVariables false
namespace Go.Proofs.YtmkidihcdljkiaaGreat
open Go.RowKit NumLaw
attribute [local go_sem] Addr.add_mid

/-- The cells vs at place o make of one message another one. -/
def SegAt (V : UbV) (a : UbA) (V' : UbV) (a' : UbA) (o : Nat) (vs : List Value) : Prop :=
  ∃ pre olds post, ubL V a = pre ++ (olds ++ post) ∧ ubL V' a' = pre ++ (vs ++ post) ∧ pre.length = o ∧ olds.length = vs.length
theorem aw_setCellsU (g : Nat) : ∀ (vs : List Value) (k : Nat) (w : World), Aw (fun j => j = g) w (w.setCells g k vs)
  | [], _, w => Aw.refl _ w
  | v :: vs, k, w => (Aw.set (U := fun j => j = g) (Aw.refl _ w) (p := ⟨g, k, none⟩) v rfl).trans (aw_setCellsU g vs (k + 1) _)
section
variable {V : UbV} {a : UbA}
theorem ubL_setp {p' : List Int} (hp : V.p.length = 32) (hp' : p'.length = 32) : SegAt V a { V with p := p' } a 1 (i64s p') :=
  ⟨[.int .i64 V.k], i64s V.p, _, rfl, rfl, rfl, by simp [i64s, hp, hp']⟩
theorem ubL_sets {t : Int} {A : Option Addr} {n c : Nat} (hp : V.p.length = 32) : SegAt V a { V with t := t } { a with A := A, n := n, c := c } 33 (saS t A n c) :=
  ⟨.int .i64 V.k :: i64s V.p, saS V.t a.A a.n a.c, i64s V.d ++ (acS V.y V.a1 V.a2 ++ saS V.la a.A' a.n' a.c'), by simp [ubL], by simp [ubL], by simp [i64s, hp], rfl⟩
theorem ubL_setd {d' : List Int} (hp : V.p.length = 32) (hd : V.d.length = 8) (hd' : d'.length = 8) : SegAt V a { V with d := d' } a 35 (i64s d') :=
  ⟨.int .i64 V.k :: (i64s V.p ++ saS V.t a.A a.n a.c), i64s V.d, acS V.y V.a1 V.a2 ++ saS V.la a.A' a.n' a.c', by simp [ubL], by simp [ubL], by simp [i64s, saS, hp], by simp [i64s, hd, hd']⟩
theorem ubL_seta {y : Bool} {a1 a2 : Int} (hp : V.p.length = 32) (hd : V.d.length = 8) : SegAt V a { V with y := y, a1 := a1, a2 := a2 } a 43 (acS y a1 a2) :=
  ⟨.int .i64 V.k :: (i64s V.p ++ (saS V.t a.A a.n a.c ++ i64s V.d)), acS V.y V.a1 V.a2, saS V.la a.A' a.n' a.c', by simp [ubL], by simp [ubL], by simp [i64s, saS, hp, hd], rfl⟩
theorem ubL_setq {t : Int} {A : Option Addr} {n c : Nat} (hp : V.p.length = 32) (hd : V.d.length = 8) : SegAt V a { V with la := t } { a with A' := A, n' := n, c' := c } 46 (saS t A n c) :=
  ⟨.int .i64 V.k :: (i64s V.p ++ (saS V.t a.A a.n a.c ++ (i64s V.d ++ acS V.y V.a1 V.a2))), saS V.la a.A' a.n' a.c', [], by simp [ubL], by simp [ubL], by simp [i64s, saS, acS, hp, hd], rfl⟩
theorem UbB.there {w : World} {g : Nat} (h : UbB w g V a) (hp : V.p.length = 32) (hd : V.d.length = 8) {o n : Nat} (hn : o + n ≤ 48) : w.there g o n := by
  intro j hj
  have hl := ubL_len (a := a) hp hd
  refine ⟨?_, blk_free h⟩
  have : ∃ v, (ubL V a)[o + j]? = some v := ⟨_, List.getElem?_eq_getElem (by omega)⟩
  obtain ⟨v, hv⟩ := this
  rw [blk_cell (i := o + j) (v := v) h (by rw [List.getElem?_toArray]; exact hv)]
  rfl
/-- A part is laid into a message's block. -/
theorem UbB.set {w : World} {g o : Nat} {vs : List Value} {V' : UbV} {a' : UbA} (h : UbB w g V a) (e : SegAt V a V' a' o vs) : UbB (w.setCells g o vs) g V' a' ∧ Aw (fun k => k = g) w (w.setCells g o vs) := by
  obtain ⟨pre, olds, post, h1, h2, rfl, h4⟩ := e
  refine ⟨?_, aw_setCellsU g vs _ w⟩
  unfold UbB at h ⊢
  rw [h1] at h
  rw [h2]
  exact setCells_blk vs pre olds post w h h4
end

theorem rdr_aw {w w' : World} {B size n c g : Nat} {A : Option Addr} {ls : List (List Value)} (h : RdR w B size A n c ls) (hB : B ≤ w.heap.size) (haw : Aw (fun k => k = g) w w') (hf : ∀ p, A = some p → p.block ≠ g) : RdR w' w'.heap.size size A n c ls :=
  ⟨h.1, h.2.1, h.2.2.1, h.2.2.2.1, fun hn => by
    obtain ⟨b, off, e, hg, hr⟩ := h.2.2.2.2 hn
    have hgb : b ≠ g := hf _ e
    have hbw : b < w.heap.size := Nat.lt_of_lt_of_le hg hB
    refine ⟨b, off, e, Nat.lt_of_lt_of_le hbw haw.size, fun k r hk j v hv => ?_⟩
    have h1 := hr k r hk j v hv
    have h2 := haw.block b hbw hgb
    unfold World.cell? at h1 ⊢
    rw [h2]
    exact h1⟩
theorem ubr_aw {w w' : World} {V : UbV} {a : UbA} {g : Nat} (h : UbR w w.heap.size V a) (haw : Aw (fun k => k = g) w w') (hf : ∀ p, a.A = some p ∨ a.A' = some p → p.block ≠ g) : UbR w' w'.heap.size V a :=
  ⟨rdr_aw h.s (Nat.le_refl _) haw (fun p hp => hf p (.inl hp)), rdr_aw h.q (Nat.le_refl _) haw (fun p hp => hf p (.inr hp))⟩
theorem saS_one (t : Int) (A : Option Addr) (n c : Nat) : ∀ v ∈ saS t A n c, v.oneCell' = true := by
  intro v hv
  simp only [saS, List.mem_cons, List.not_mem_nil, or_false] at hv
  rcases hv with rfl | rfl <;> rfl
theorem acS_one (y : Bool) (a b : Int) : ∀ v ∈ acS y a b, v.oneCell' = true := by
  intro v hv
  simp only [acS, List.mem_cons, List.not_mem_nil, or_false] at hv
  rcases hv with rfl | rfl | rfl <;> rfl

end Go.Proofs.YtmkidihcdljkiaaGreat
