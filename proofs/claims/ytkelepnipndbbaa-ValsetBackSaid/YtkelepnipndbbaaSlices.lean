/-
  The functions of package slices that the program calls at bytes: Clone, Grow, Concat: what each hands back.
-/
import Derived.Test.YtkelepnipndbbaaBase
import Derived.Lib.SliceRun
set_option linter.unusedSimpArgs false
set_option linter.unusedVariables false
namespace Go.Proofs.Ytkelepnipndbbaa
open Go.RowKit

theorem u8_info : (Try.prog.info? 5).map (fun i => (i.zero, i.size, i.bytes)) = some (some (.int .u8 0), 1, 1) := by kernel_rfl

/-- Bytes in new memory. -/
def RetB (w : World) (l : List UInt8) (e : Ending) (w' : World) : Prop :=
  ∃ A c n, e = .returned (.slice A n c) ∧ w'.ownsRow w.heap.size 5 1 (.slice A n c) n (bv l) ∧ Below w.heap.size w w'
theorem RetB.back {w wc w' : World} {l : List UInt8} {e : Ending} (hb : Below w.heap.size w wc) (h : RetB wc l e w') : RetB w l e w' := by
  obtain ⟨A, c, n, rfl, hown, hb'⟩ := h
  exact ⟨A, c, n, rfl, own_mono hown hb.size, bnx hb hb'⟩
theorem own_cast {w : World} {base : Nat} {e : TypeId} {A : Option Addr} {c n n' : Nat} {xs xs' : List Value} (h : w.ownsRow base e 1 (.slice A n c) n xs) (hn : n = n') (hx : xs = xs') : w.ownsRow base e 1 (.slice A n' c) n' xs' := by
  subst hn; subst hx; exact h

/-- A slice of slices of bytes that reads as a list of lists. -/
def RdL (w : World) (B : Nat) (A : Option Addr) (n c : Nat) (ls : List (List UInt8)) : Prop :=
  ∃ vs, Rd w B 1 A n c vs ∧ ls.length = n ∧ ∀ (i : Nat) (l : List UInt8), ls[i]? = some l → ∃ A' n' c', vs[i]? = some (.slice A' n' c') ∧ Rd w B 1 A' n' c' (bv l)
theorem RdL.up {w w' : World} {B n c : Nat} {A : Option Addr} {ls : List (List UInt8)} (h : RdL w B A n c ls) (hb : Below B w w') : RdL w' B A n c ls := by
  obtain ⟨vs, h1, h2, h3⟩ := h
  refine ⟨vs, h1.up hb, h2, fun i l hl => ?_⟩
  obtain ⟨A', n', c', h4, h5⟩ := h3 i l hl
  exact ⟨A', n', c', h4, h5.up hb⟩
theorem RdL.at_ {w : World} {B n c k : Nat} {A : Option Addr} {ls : List (List UInt8)} (h : RdL w B A n c ls) (hk : k < n) :
    ∃ ad l A' n' c', A = some ad ∧ ls[k]? = some l ∧ w.cell? (ad.add k) = some (.slice A' n' c') ∧ Rd w B 1 A' n' c' (bv l) := by
  obtain ⟨vs, h1, h2, h3⟩ := h
  obtain ⟨ad, u, e, hu, hc⟩ := h1.one hk
  obtain ⟨A', n', c', h4, h5⟩ := h3 k _ (List.getElem?_eq_getElem (by omega))
  rw [hu] at h4
  injection h4 with h4
  subst h4
  exact ⟨ad, _, A', n', c', e, List.getElem?_eq_getElem (by omega), hc, h5⟩
/-- What a literal '[][]byte{..}' lays. -/
theorem RdL.lit {w : World} {B e : Nat} (vs : List Value) (ls : List (List UInt8)) (hl : ls.length = vs.length) (hm : vs.length ≤ maxLen) (hB : B ≤ w.heap.size)
    (h : ∀ (i : Nat) (l : List UInt8), ls[i]? = some l → ∃ A' n' c', vs[i]? = some (.slice A' n' c') ∧ Rd w B 1 A' n' c' (bv l)) :
    RdL (w.alloc (.cells vs.toArray e)) (w.heap.size + 1) (some ⟨w.heap.size, 0, none⟩) vs.length vs.length ls := by
  refine ⟨vs, ⟨by simp, Nat.le_refl _, hm, fun _ => ⟨_, rfl, Nat.lt_succ_self _, fun j u hu => ?_⟩⟩, hl, fun i l hi => ?_⟩
  · have e1 : (⟨w.heap.size, 0, none⟩ : Addr).add j = ⟨w.heap.size, j, none⟩ := by unfold Addr.add; split <;> simp_all
    rw [e1, World.cell?, show (⟨w.heap.size, j, none⟩ : Addr).block = w.heap.size from rfl, heap_alloc_new w _]
    simpa using hu
  · obtain ⟨A', n', c', h4, h5⟩ := h i l hi
    exact ⟨A', n', c', h4, (h5.up ((Below.refl B w).alloc hB _)).more (by omega)⟩
theorem RdL.lit1 {w : World} {B e n1 c1 : Nat} {A1 : Option Addr} {l1 : List UInt8} (hB : B ≤ w.heap.size) (h1 : Rd w B 1 A1 n1 c1 (bv l1)) :
    RdL (w.alloc (.cells #[.slice A1 n1 c1] e)) (w.heap.size + 1) (some ⟨w.heap.size, 0, none⟩) 1 1 [l1] :=
  RdL.lit (B := B) [.slice A1 n1 c1] [l1] rfl (by simp [maxLen]) hB (fun i l hi => by
    match i, hi with
    | 0, hi => simp at hi; subst hi; exact ⟨_, _, _, rfl, h1⟩)
theorem RdL.lit2 {w : World} {B e n1 c1 n2 c2 : Nat} {A1 A2 : Option Addr} {l1 l2 : List UInt8} (hB : B ≤ w.heap.size) (h1 : Rd w B 1 A1 n1 c1 (bv l1)) (h2 : Rd w B 1 A2 n2 c2 (bv l2)) :
    RdL (w.alloc (.cells #[.slice A1 n1 c1, .slice A2 n2 c2] e)) (w.heap.size + 1) (some ⟨w.heap.size, 0, none⟩) 2 2 [l1, l2] :=
  RdL.lit (B := B) [.slice A1 n1 c1, .slice A2 n2 c2] [l1, l2] rfl (by simp [maxLen]) hB (fun i l hi => by
    match i, hi with
    | 0, hi => simp at hi; subst hi; exact ⟨_, _, _, rfl, h1⟩
    | 1, hi => simp at hi; subst hi; exact ⟨_, _, _, rfl, h2⟩)
theorem RdL.lit3 {w : World} {B e n1 c1 n2 c2 n3 c3 : Nat} {A1 A2 A3 : Option Addr} {l1 l2 l3 : List UInt8} (hB : B ≤ w.heap.size) (h1 : Rd w B 1 A1 n1 c1 (bv l1)) (h2 : Rd w B 1 A2 n2 c2 (bv l2)) (h3 : Rd w B 1 A3 n3 c3 (bv l3)) :
    RdL (w.alloc (.cells #[.slice A1 n1 c1, .slice A2 n2 c2, .slice A3 n3 c3] e)) (w.heap.size + 1) (some ⟨w.heap.size, 0, none⟩) 3 3 [l1, l2, l3] :=
  RdL.lit (B := B) [.slice A1 n1 c1, .slice A2 n2 c2, .slice A3 n3 c3] [l1, l2, l3] rfl (by simp [maxLen]) hB (fun i l hi => by
    match i, hi with
    | 0, hi => simp at hi; subst hi; exact ⟨_, _, _, rfl, h1⟩
    | 1, hi => simp at hi; subst hi; exact ⟨_, _, _, rfl, h2⟩
    | 2, hi => simp at hi; subst hi; exact ⟨_, _, _, rfl, h3⟩)
theorem flat_snoc {ls : List (List UInt8)} {k : Nat} {l : List UInt8} (h : ls[k]? = some l) : (ls.take (k + 1)).flatten = (ls.take k).flatten ++ l := by
  rw [take_succ h]; simp
theorem flat_take_le (ls : List (List UInt8)) (k : Nat) : (ls.take k).flatten.length ≤ ls.flatten.length := by
  have h := congrArg List.length (congrArg List.flatten (List.take_append_drop k ls))
  rw [List.flatten_append, List.length_append] at h
  omega

set_option maxHeartbeats 400000 in
theorem clone_any (A : Option Addr) (n c B : Nat) (l : List UInt8) (w : World) (h : Rd w B 1 A n c (bv l)) (hB : B ≤ w.heap.size) (hn : n ≤ 70368744177664) :
    Calls Try.prog 159 #[.slice A n c] w (RetB w l) := by
  obtain ⟨i0, hi⟩ := info_parts u8_info
  have hl := h.blen
  have Hl := Lib.hid hl
  clear hl
  have hq := Lib.run_eql_slice_nil (P := Try.prog) w 46 5 A n c 0 0 Try.underlying46
  cases A with
  | none =>
    have hn0 : n = 0 := by
      rcases Nat.eq_zero_or_pos n with h0 | h0
      · exact h0
      · obtain ⟨ad, h, _⟩ := h.at_ h0; cases h
    obtain rfl : l = [] := List.eq_nil_of_length_eq_zero (by rw [Hl.out, hn0])
    simp only [Option.isNone_none] at hq
    clear hn0
    go_enter Try.func159, Try.ntmps159
    go_wp2
    go_ret
    exact ⟨none, 0, 0, rfl, World.ownsRow_nil _ _ _ _, Below.refl _ _⟩
  | some ad =>
    simp only [Option.isNone_some] at hq
    go_enter Try.func159, Try.ntmps159
    go_wp2_with (at_builtin; refine stop_ ?_)
    refine go_ (wpList_app (base := w.heap.size) (n := 0) (xs := []) Try.underlying46 hi rfl (by omega) (own_empty _ _ _ (Nat.le_refl _) 1) rfl (h.up ((Below.refl _ _).alloc hB _)) rfl (bv_one _) (Nat.zero_add _) (List.nil_append _) (by unfold maxLen; omega) (by omega) (by simp) ?_)
    intro A' c' w' hown hup
    have hb : Below w.heap.size w w' := hup ((Below.refl _ _).alloc (Nat.le_refl _) _) (by simp) (Nat.le_refl _)
    clear hup hq
    go_wp2
    go_ret
    exact ⟨A', c', n, rfl, hown, hb⟩



end Go.Proofs.Ytkelepnipndbbaa
