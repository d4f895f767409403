/-
  Rows of acknowledgements; the search for one (slices.IndexFunc over ack's closure), slices.Clone.
-/
import Derived.Test.YtkelepnipndbbaaAck2
import Derived.Laws.StructEq
import Derived.Lib.SlBytesConst
set_option linter.unusedSimpArgs false
set_option linter.unusedVariables false
namespace Go.Proofs.Ytkelepnipndbbaa
open Go.RowKit NumLaw
attribute [local go_sem] Addr.add_mid

def a3 (p : Int × Int) : List Value := [.bool false, .int .i64 p.1, .int .i64 p.2]
def acs (l : List (Int × Int)) : List Value := l.flatMap a3
theorem acs_app (a b : List (Int × Int)) : acs (a ++ b) = acs a ++ acs b := by simp [acs]
theorem acs_one (l : List (Int × Int)) : ∀ u ∈ acs l, u.oneCell' = true := by
  intro u hu
  obtain ⟨f, _, h⟩ := List.mem_flatMap.1 hu
  simp [a3] at h
  rcases h with rfl | rfl | rfl <;> rfl
theorem acs_at : ∀ (l : List (Int × Int)) (k j : Nat) (f : Int × Int), l[k]? = some f → j < 3 → (acs l)[k * 3 + j]? = (a3 f)[j]?
  | [], _, _, _, h, _ => by simp at h
  | g :: l, 0, j, f, h, hj => by
    simp at h; subst h
    have : j < (a3 g).length := by simpa [a3] using hj
    simp only [acs, List.flatMap_cons, Nat.zero_mul, Nat.zero_add]
    rw [List.getElem?_append_left this]
  | g :: l, k + 1, j, f, h, hj => by
    have := acs_at l k j f (by simpa using h) hj
    have e : (a3 g).length = 3 := rfl
    rw [← this]
    show (a3 g ++ acs l)[(k + 1) * 3 + j]? = _
    rw [List.getElem?_append_right (by omega), e, show (k + 1) * 3 + j - 3 = k * 3 + j by omega]
theorem acs_len (l : List (Int × Int)) : (acs l).length = l.length * 3 := by
  induction l with
  | nil => rfl
  | cons f l ih => show (a3 f ++ acs l).length = _; rw [List.length_append, ih]; simp [a3]; omega
theorem acs_take : ∀ (l : List (Int × Int)) (k : Nat), acs (l.take k) = (acs l).take (k * 3)
  | [], k => by simp [acs]
  | g :: l, 0 => by simp [acs]
  | g :: l, k + 1 => by
    have := acs_take l k
    show a3 g ++ acs (l.take k) = (a3 g ++ acs l).take ((k + 1) * 3)
    rw [this, show (k + 1) * 3 = (a3 g).length + k * 3 by simp [a3]; omega, List.take_append]
    rw [List.take_of_length_le (by omega : (a3 g).length ≤ (a3 g).length + k * 3), Nat.add_sub_cancel_left]
theorem acs_drop : ∀ (l : List (Int × Int)) (k : Nat), acs (l.drop k) = (acs l).drop (k * 3)
  | [], k => by simp [acs]
  | g :: l, 0 => by simp [acs]
  | g :: l, k + 1 => by
    have := acs_drop l k
    show acs (l.drop k) = (a3 g ++ acs l).drop ((k + 1) * 3)
    rw [this, show (k + 1) * 3 = (a3 g).length + k * 3 by simp [a3]; omega, List.drop_append]
    simp [a3]
/-- A slice of acknowledgements that reads as a list, below block B. -/
def RdA (w : World) (B : Nat) (A : Option Addr) (n c : Nat) (l : List (Int × Int)) : Prop :=
  l.length = n ∧ n ≤ c ∧ c ≤ maxLen ∧ (0 < n → ∃ g off, A = some ⟨g, off, none⟩ ∧ g < B ∧ ∀ j u, (acs l)[j]? = some u → w.cell? ⟨g, off + j, none⟩ = some u)
theorem RdA.keep {w w' : World} {B B' n c : Nat} {A : Option Addr} {l : List (Int × Int)} (h : RdA w B A n c l) (hk : ∀ g off, A = some ⟨g, off, none⟩ → g < B → g < B' ∧ ∀ j, w'.cell? ⟨g, j, none⟩ = w.cell? ⟨g, j, none⟩) : RdA w' B' A n c l := by
  obtain ⟨h1, h2, h3, h4⟩ := h
  refine ⟨h1, h2, h3, fun hn => ?_⟩
  obtain ⟨g, off, e, hlt, ho⟩ := h4 hn
  exact ⟨g, off, e, (hk g off e hlt).1, fun j u hj => ((hk g off e hlt).2 _).trans (ho j u hj)⟩
theorem RdA.up {w w' : World} {B n c : Nat} {A : Option Addr} {l : List (Int × Int)} (h : RdA w B A n c l) (hb : Below B w w') : RdA w' B A n c l := h.keep fun g off _ hlt => ⟨hlt, fun j => hb.cell hlt⟩
theorem RdA.nx {w w' : World} {n c : Nat} {A : Option Addr} {l : List (Int × Int)} (h : RdA w w.heap.size A n c l) (hb : Below w.heap.size w w') : RdA w' w'.heap.size A n c l := h.keep fun g off _ hlt => ⟨Nat.lt_of_lt_of_le hlt hb.size, fun j => hb.cell hlt⟩
theorem RdA.at_ {w : World} {B n c : Nat} {A : Option Addr} {l : List (Int × Int)} (h : RdA w B A n c l) {k : Nat} (hk : k < n) : ∃ g off p, A = some ⟨g, off, none⟩ ∧ g < B ∧ l[k]? = some p ∧ w.cell? ⟨g, off + k * 3, none⟩ = some (.bool false) ∧ w.cell? ⟨g, off + k * 3 + 1, none⟩ = some (.int .i64 p.1) ∧ w.cell? ⟨g, off + k * 3 + 2, none⟩ = some (.int .i64 p.2) := by
  obtain ⟨h1, h2, h3, h4⟩ := h
  obtain ⟨g, off, e, hlt, ho⟩ := h4 (by omega)
  have hx : l[k]? = some l[k] := List.getElem?_eq_getElem (by omega)
  refine ⟨g, off, l[k], e, hlt, hx, ?_, ?_, ?_⟩
  · exact ho (k * 3 + 0) _ (acs_at l k 0 _ hx (by omega))
  · exact ho (k * 3 + 1) _ (acs_at l k 1 _ hx (by omega))
  · exact ho (k * 3 + 2) _ (acs_at l k 2 _ hx (by omega))
theorem RdA.rd {w : World} {B n c : Nat} {A : Option Addr} {l : List (Int × Int)} (h : RdA w B A n c l) : Rd w B 3 A n c (acs l) := by
  obtain ⟨h1, h2, h3, h4⟩ := h
  refine ⟨by rw [acs_len, h1], h2, h3, fun hn => ?_⟩
  obtain ⟨g, off, e, hlt, ho⟩ := h4 hn
  refine ⟨_, e, hlt, fun j u hu => ?_⟩
  have e1 : (⟨g, off, none⟩ : Addr).add j = ⟨g, off + j, none⟩ := by unfold Addr.add; split <;> simp_all
  rw [e1]
  exact ho j u hu
theorem rdA_own {w : World} {base : Nat} {e : TypeId} {n c : Nat} {A : Option Addr} {l : List (Int × Int)} (h : w.ownsRow base e 3 (.slice A n c) n (acs l)) : RdA w w.heap.size A n c l := by
  have hl : l.length = n := by have := h.1; rw [acs_len] at this; omega
  rcases h.2 with ⟨hv, h0⟩ | ⟨g, cap, cur, hv, hg, hh, h1, h2, h3, h4⟩
  · injection hv with e1 e2 e3
    subst e1; subst e2; subst e3
    exact ⟨hl, Nat.le_refl _, Nat.zero_le _, fun h => absurd h (Nat.lt_irrefl _)⟩
  · have hcell := h.cells (g := g) (by rw [hv]; rfl)
    injection hv with e1 e2 e3
    subst e1; subst e3
    refine ⟨hl, h1, h2, fun _ => ⟨g, 0, rfl, blk_lt hh, fun j u hu => ?_⟩⟩
    have := hcell j u hu
    rwa [show (⟨g, 0, none⟩ : Addr).add j = ⟨g, 0 + j, none⟩ by unfold Addr.add; split <;> simp_all] at this
theorem ack_info : (Try.prog.info? 30).map (fun i => (i.zero, i.size, i.bytes)) = some (some (.agg #[.bool false, .int .i64 0, .int .i64 0]), 3, 24) := by kernel_rfl
theorem ack_held : Try.prog.stoodInHeld 30 = false := by kernel_rfl
theorem run_equalIn_bool3 {P : Program} (w : World) (d : Nat) (a b : Bool) (t : TypeId) (ht : P.underlying t = some .bool) : (Op.equalIn (d + 1) t (.bool a) (.bool b)).run P w = .ok (a == b) w := by
  simp [Op.equalIn, Sem.run_bind, run_underlying ht]
theorem ack_eq (b1 b2 : Bool) (c1 i1 c2 i2 : Int) (w : World) : (binOp .eql 30 (.agg #[.bool b1, .int .i64 c1, .int .i64 i1]) (.agg #[.bool b2, .int .i64 c2, .int .i64 i2])).run Try.prog w = .ok (.bool (b1 == b2 && (c1 == c2 && i1 == i2))) w := by
  rw [run_eql_struct, run_equalIn_agg w 9999 _ _ _ (by simp only [Program.fieldsOf, Try.underlying30]) ack_held]
  simp [Program.fieldsOf, Try.underlying30, Op.eqFields, part, run_equalIn_int w _ _ _ _ _ _ Try.underlying2, run_equalIn_bool3 w _ _ _ _ Try.underlying4]
  by_cases h0 : b1 = b2 <;> by_cases h1 : c1 = c2 <;> by_cases h2 : i1 = i2 <;> simp [h0, h1, h2]

/-- ack's closure: is it the one sought? -/
theorem hear1_any (b : Bool) (c i : Int) (ga : Nat) (y : Bool) (cl id : Int) (w : World) (hg : w.heap[ga]? = some (.cells #[.bool y, .int .i64 cl, .int .i64 id] 30)) :
    Calls Try.prog 89 #[.agg #[.bool b, .int .i64 c, .int .i64 i], .pointer (some ⟨ga, 0, none⟩)] w fun e w' => e = .returned (.bool (c == cl && i == id)) ∧ Below w.heap.size w w' := by
  have hlt := blk_lt hg
  have hb : ∀ o, Below w.heap.size w (w.alloc o) := fun o => (Below.refl _ _).alloc (Nat.le_refl _) _
  have Hb := Lib.hid hb
  clear hb
  have c0 : w.cell? ⟨ga, 0, none⟩ = some (.bool y) := blk_cell hg rfl
  have c1 : w.cell? ⟨ga, 1, none⟩ = some (.int .i64 cl) := blk_cell hg rfl
  have c2 : w.cell? ⟨ga, 2, none⟩ = some (.int .i64 id) := blk_cell hg rfl
  have heq := ack_eq y y c i cl id
  simp only [beq_self_eq_true, Bool.true_and] at heq
  go_enter Try.func89, Try.ntmps89
  go_wp2
  trace_state
  go_ret
  exact ⟨rfl, Hb.out _⟩

end Go.Proofs.Ytkelepnipndbbaa
