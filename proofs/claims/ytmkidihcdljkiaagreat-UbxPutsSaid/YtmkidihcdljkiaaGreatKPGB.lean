/-
  Several texts in one: OrdY RangeR ListIn.
-/
import Derived.Test.YtmkidihcdljkiaaGreatKPGA
import Derived.Test.YtmkidihcdljkiaaGreatKPRangeFn
import Derived.RangeFuncSeq
import Derived.OwnWalkIn
/-
  Order and Orders inside a function that calls yield: a region that draws its order, one of whose operations is a call of yield (the fence is the wide one, no round).
-/
set_option linter.unusedSimpArgs false
set_option linter.unusedVariables false
namespace Go.Proofs.YtmkidihcdljkiaaGreat
open Go.RowKit
namespace OrdY
open Go.Proofs.YtmkidihcdljkiaaGreat.Ord
/-- An operation's step inside the wide fence. -/
def wpY (n : Nat) (P : Program) (o : Oper) (a : Act) (w : World) (K : Act → World → Prop) (Q : Exit → Act → World → Prop) : Prop := o.uponIn Fence.wide n P a K Q ((execOp a.eval o).run P w)
def wpE (n : Nat) (P : Program) (ops : Array Oper) (G : Cfg) (R : Act → World → Prop) : List Oper → Act → World → Prop
  | [], a, w => R a w
  | o :: r, a, w =>
    if Region.wanted o (yielded ops a.tmps) = true then
      if kindOf P G.F o = 0 then ∃ v, (∀ w2, (execOp a.eval o).run P w2 = .ok (.value v) w2) ∧ wpE n P ops G R r (a.put o.dst v) w
      else if kindOf P G.F o = 1 then ∃ v, (∀ w2, G.S w2 → (execOp a.eval o).run P w2 = .ok (.value v) w2) ∧ wpE n P ops G R r (a.put o.dst v) w
      else if kindOf P G.F o = 3 then ∃ v, Stays P o v a w ∧ wpE n P ops G R r (a.put o.dst v) w
      else wpY n P o a w (fun a' w' => (G.S w' ∧ (grows G.G G.F o = true → Below w.heap.size w w')) ∧ wpE n P ops G R r a' w') QF
    else wpE n P ops G R r (a.put o.dst undef) w

section
variable {n : Nat} {P : Program} {ops : Array Oper} {G : Cfg} {R : Act → World → Prop}
theorem upon_y {o : Oper} {a : Act} {K : Act → World → Prop} {r : Result Next} (h : o.upon P a K QF r) : o.uponIn Fence.wide n P a K QF r := by
  cases r with
  | ok x w' =>
    cases x <;> simp only [Oper.upon, Oper.uponIn] at h ⊢ <;>
      first
        | exact h
        | exact ⟨fun hd => by simp [Fence.wide] at hd, callsIn_wide.2 h⟩
        | exact ⟨fun hd => by simp [Fence.wide] at hd, fun c cs _ => let ⟨v, w', r, s⟩ := h c cs; ⟨v, w', r, stepsIn_wide.2 s⟩⟩
        | exact h.elim
  | halt x w' => cases x <;> simp only [Oper.upon, Oper.uponIn] at h ⊢ <;> exact h
theorem upon_imp {o : Oper} {a : Act} {K K' : Act → World → Prop} {Q : Exit → Act → World → Prop} (h : ∀ a w, K a w → K' a w) (r : Result Next) (hh : o.uponIn Fence.wide n P a K QF r) : o.uponIn Fence.wide n P a K' Q r := by
  cases r with
  | ok x w' =>
    cases x <;> simp only [Oper.uponIn] at hh ⊢ <;>
      first
        | exact h _ _ hh
        | exact hh.elim
        | exact ⟨hh.1, CallsIn.mono hh.2 (fun e w'' he => by
            cases e with
            | returned v => exact h _ _ he
            | panicked c => exact he.elim
            | outgrown => obtain ⟨_, _, he⟩ := he; exact he.elim)⟩
        | exact ⟨hh.1, RowsIn.mono hh.2 (fun _ _ he => h _ _ he)⟩
        | exact ⟨hh.1, RoundIn.mono hh.2 (fun e w'' he => by
            cases e with
            | returned v => exact h _ _ he
            | panicked c => exact he.elim
            | outgrown => obtain ⟨_, _, he⟩ := he; exact he.elim)⟩
  | halt x w' => cases x <;> simp only [Oper.uponIn] at hh ⊢ <;> exact hh.elim
theorem wp_imp {o : Oper} {a : Act} {w : World} {K K' : Act → World → Prop} {Q : Exit → Act → World → Prop} (h : ∀ a w, K a w → K' a w) (hh : wpY n P o a w K QF) : wpY n P o a w K' Q := upon_imp h _ hh
theorem wp_put {oi oj : Oper} {v : Value} (hap : oi.apart ops oj = true) (hsj : ∀ cs b, oj.op ≠ .select cs b) {K : Act → World → Prop} {a : Act} {w : World}
    (h : wpY n P oj (a.put oi.dst v) w K QF) : wpY n P oj a w (fun a' w' => Fm oj a a' ∧ K (a'.put oi.dst v) w') QF := by
  obtain ⟨h1, h2, h3⟩ := Oper.apart_spec hap
  unfold wpY at *
  rw [execOp_put oj hsj a oi.dst v h1] at h
  generalize (execOp a.eval oj).run P w = r at *
  have hf : ∀ (u : Value), Fm oj a (a.put oj.dst u) := fun u => ⟨a.defers, u, rfl⟩
  cases r with
  | ok x w' =>
    cases x <;> simp only [Oper.uponIn] at h ⊢
    case value u => exact ⟨hf u, by rw [← Act.put_comm a v u h2]; exact h⟩
    case skip => exact ⟨hf _, by rw [← Act.put_comm a v undef h2]; exact h⟩
    case defer d =>
      refine ⟨⟨_, _, rfl⟩, ?_⟩
      rw [← Act.put_comm _ v undef h2, ← Act.put_defers]
      exact h
    case enter f args =>
      refine ⟨h.1, CallsIn.mono h.2 fun e w'' he => ?_⟩
      cases e with
      | returned u => exact ⟨hf u, by rw [← Act.put_comm a v u h2]; exact he⟩
      | panicked c => exact he
      | outgrown => exact he
    case round l f tmps assign body =>
      refine ⟨h.1, RoundIn.mono h.2 fun e w'' he => ?_⟩
      cases e with
      | returned u => exact ⟨hf u, by rw [← Act.put_comm a v u h2]; exact he⟩
      | panicked c => exact he
      | outgrown => exact he
    case row row args => exact ⟨h.1, RowsIn.mono h.2 fun u w'' he => ⟨hf u, by rw [← Act.put_comm a v u h2]; exact he⟩⟩
  | halt x w' =>
    cases x <;> simp only [Oper.uponIn] at h ⊢
    case panic u => exact h

theorem wp_form {o : Oper} (hs : ∀ cs b, o.op ≠ .select cs b) {K : Act → World → Prop} {a : Act} {w : World} (h : wpY n P o a w K QF) : wpY n P o a w (fun a' w' => Fm o a a' ∧ K a' w') QF := by
  unfold wpY at *
  generalize (execOp a.eval o).run P w = r at *
  cases r with
  | ok x w' =>
    cases x <;> simp only [Oper.uponIn] at h ⊢
    case value u => exact ⟨⟨a.defers, u, rfl⟩, h⟩
    case skip => exact ⟨⟨a.defers, _, rfl⟩, h⟩
    case defer d => exact ⟨⟨_, _, rfl⟩, h⟩
    case enter f args =>
      refine ⟨h.1, CallsIn.mono h.2 fun e w'' he => ?_⟩
      cases e with
      | returned u => exact ⟨⟨a.defers, u, rfl⟩, he⟩
      | panicked c => exact he
      | outgrown => exact he
    case round l f tmps assign body =>
      refine ⟨h.1, RoundIn.mono h.2 fun e w'' he => ?_⟩
      cases e with
      | returned u => exact ⟨⟨a.defers, u, rfl⟩, he⟩
      | panicked c => exact he
      | outgrown => exact he
    case row row args => exact ⟨h.1, RowsIn.mono h.2 fun u w'' he => ⟨⟨a.defers, u, rfl⟩, he⟩⟩
  | halt x w' =>
    cases x <;> simp only [Oper.uponIn] at h ⊢
    case panic u => exact h

theorem wp_ex {o : Oper} {K : Act → World → Prop} {a : Act} {w : World} (h : wpY n P o a w K QF) : ∃ a' w', K a' w' := by
  unfold wpY at *
  generalize (execOp a.eval o).run P w = r at *
  cases r with
  | ok x w' =>
    cases x <;> simp only [Oper.uponIn] at h
    case value u => exact ⟨_, _, h⟩
    case skip => exact ⟨_, _, h⟩
    case defer d => exact ⟨_, _, h⟩
    case enter f args =>
      obtain ⟨e, w'', fr, he, _⟩ := h.2.2 [] (room_wide _)
      cases e with
      | returned u => exact ⟨_, _, he⟩
      | panicked c => exact he.elim
      | outgrown => obtain ⟨_, _, he⟩ := he; exact he.elim
    case row row args =>
      obtain ⟨v, w'', he, _⟩ := h.2 { fn := 0, tmps := #[], todo := [], defers := [], mode := .run, kind := .normal } [] (room_wide _)
      exact ⟨_, _, he⟩
    case round l f tmps assign body =>
      obtain ⟨e, w'', he, _⟩ := h.2.2 { fn := 0, tmps := #[], todo := [], defers := [], mode := .run, kind := .normal } [] (room_wide _)
      cases e with
      | returned u => exact ⟨_, _, he⟩
      | panicked c => exact he.elim
      | outgrown => obtain ⟨_, _, he⟩ := he; exact he.elim
  | halt x w' =>
    cases x <;> simp only [Oper.uponIn] at h
    case panic u => exact h.elim

theorem wp_putOut {oi oj : Oper} {v : Value} (hap : oi.apart ops oj = true) (hsj : ∀ cs b, oj.op ≠ .select cs b) {K : Act → World → Prop} {a : Act} {w : World}
    (h : wpY n P oj a w K QF) : wpY n P oj (a.put oi.dst v) w (fun a' w' => ∃ a1, Fm oj a a1 ∧ a' = a1.put oi.dst v ∧ K a1 w') QF := by
  obtain ⟨h1, h2, h3⟩ := Oper.apart_spec hap
  unfold wpY at *
  rw [execOp_put oj hsj a oi.dst v h1]
  generalize (execOp a.eval oj).run P w = r at *
  cases r with
  | ok x w' =>
    cases x <;> simp only [Oper.uponIn] at h ⊢
    case value u => exact ⟨_, ⟨a.defers, u, rfl⟩, Act.put_comm a v u h2, h⟩
    case skip => exact ⟨_, ⟨a.defers, _, rfl⟩, Act.put_comm a v undef h2, h⟩
    case defer d =>
      refine ⟨_, ⟨d :: a.defers, undef, rfl⟩, ?_, h⟩
      rw [Act.put_defers, Act.put_comm _ v undef h2]
    case enter f args =>
      refine ⟨h.1, CallsIn.mono h.2 fun e w'' he => ?_⟩
      cases e with
      | returned u => exact ⟨_, ⟨a.defers, u, rfl⟩, Act.put_comm a v u h2, he⟩
      | panicked c => exact he
      | outgrown => exact he
    case round l f tmps assign body =>
      refine ⟨h.1, RoundIn.mono h.2 fun e w'' he => ?_⟩
      cases e with
      | returned u => exact ⟨_, ⟨a.defers, u, rfl⟩, Act.put_comm a v u h2, he⟩
      | panicked c => exact he
      | outgrown => exact he
    case row row args => exact ⟨h.1, RowsIn.mono h.2 fun u w'' he => ⟨_, ⟨a.defers, u, rfl⟩, Act.put_comm a v u h2, he⟩⟩
  | halt x w' =>
    cases x <;> simp only [Oper.uponIn] at h ⊢
    case panic u => exact h

theorem quiet_iff {o : Oper} {r : List Oper} {a : Act} {w : World} (hw : Region.wanted o (yielded ops a.tmps) = true) (hk : kindOf P G.F o ≠ 2) :
    wpE n P ops G R (o :: r) a w ↔ ∃ v, Ev P G o v a w ∧ wpE n P ops G R r (a.put o.dst v) w := by
  rw [wpE, if_pos hw]
  rcases kind_lt P G.F o with h | h | h | h
  · rw [if_pos h]
    exact ⟨fun ⟨v, h1, h2⟩ => ⟨v, .inl ⟨h, h1⟩, h2⟩, fun ⟨v, h1, h2⟩ => ⟨v, by rcases h1 with ⟨_, h1⟩ | ⟨h', _⟩ | ⟨h', _⟩ <;> first | exact h1 | omega, h2⟩⟩
  · rw [if_neg (by omega), if_pos h]
    exact ⟨fun ⟨v, h1, h2⟩ => ⟨v, .inr (.inl ⟨h, h1⟩), h2⟩, fun ⟨v, h1, h2⟩ => ⟨v, by rcases h1 with ⟨h', _⟩ | ⟨_, h1⟩ | ⟨h', _⟩ <;> first | exact h1 | omega, h2⟩⟩
  · exact absurd h hk
  · rw [if_neg (by omega), if_neg (by omega), if_pos h]
    exact ⟨fun ⟨v, h1, h2⟩ => ⟨v, .inr (.inr ⟨h, h1⟩), h2⟩, fun ⟨v, h1, h2⟩ => ⟨v, by rcases h1 with ⟨h', _⟩ | ⟨h', _⟩ | ⟨_, h1⟩ <;> first | exact h1 | omega, h2⟩⟩
theorem loud_iff {o : Oper} {r : List Oper} {a : Act} {w : World} (hw : Region.wanted o (yielded ops a.tmps) = true) (hk : kindOf P G.F o = 2) :
    wpE n P ops G R (o :: r) a w ↔ wpY n P o a w (fun a' w' => (G.S w' ∧ (grows G.G G.F o = true → Below w.heap.size w w')) ∧ wpE n P ops G R r a' w') QF := by
  rw [wpE, if_pos hw, if_neg (by omega), if_neg (by omega), if_neg (by omega)]
theorem skip_iff {o : Oper} {r : List Oper} {a : Act} {w : World} (hw : ¬ Region.wanted o (yielded ops a.tmps) = true) :
    wpE n P ops G R (o :: r) a w ↔ wpE n P ops G R r (a.put o.dst undef) w := by rw [wpE, if_neg hw]
theorem wpE_mono {l l' : List Oper} (h : ∀ a w, G.S w → wpE n P ops G R l a w → wpE n P ops G R l' a w) (o : Oper) (a : Act) (w : World) (hS : G.S w) (hh : wpE n P ops G R (o :: l) a w) : wpE n P ops G R (o :: l') a w := by
  by_cases hw : Region.wanted o (yielded ops a.tmps) = true
  · by_cases hk : kindOf P G.F o = 2
    · rw [loud_iff hw hk] at hh ⊢
      exact wp_imp (fun a' w' hx => ⟨hx.1, h _ _ hx.1.1 hx.2⟩) hh
    · rw [quiet_iff hw hk] at hh ⊢
      obtain ⟨v, h1, h2⟩ := hh
      exact ⟨v, h1, h _ _ hS h2⟩
  · rw [skip_iff hw] at hh ⊢
    exact h _ _ hS hh
theorem swap_ {oj oi : Oper} {r : List Oper} {a : Act} {w : World} (hc : comm P ops G.G G.F oj oi = true) (hsj : ∀ cs b, oj.op ≠ .select cs b) (hsi : ∀ cs b, oi.op ≠ .select cs b) (hS : G.S w)
    (h : wpE n P ops G R (oj :: oi :: r) a w) : wpE n P ops G R (oi :: oj :: r) a w := by
  simp only [comm, Bool.and_eq_true] at hc
  obtain ⟨⟨hji, hij⟩, hk⟩ := hc
  simp only [commK, Bool.or_eq_true, Bool.and_eq_true, beq_iff_eq] at hk
  obtain ⟨_, hne, _⟩ := Oper.apart_spec hij
  -- what j, i see of the frame before and behind the other
  have ji := fun v => same_put hji hsi a v
  have ij := fun v => same_put hij hsj a v
  by_cases hwj : Region.wanted oj (yielded ops a.tmps) = true
  case neg =>
    rw [skip_iff hwj] at h
    by_cases hwi : Region.wanted oi (yielded ops a.tmps) = true
    case neg =>
      rw [skip_iff (by rw [(ji undef).2]; exact hwi)] at h
      rw [skip_iff hwi, skip_iff (by rw [(ij undef).2]; exact hwj), Act.put_comm a undef undef hne]
      exact h
    case pos =>
      by_cases hi2 : kindOf P G.F oi = 2
      · rw [loud_iff (by rw [(ji undef).2]; exact hwi) hi2] at h
        rw [loud_iff hwi hi2]
        refine wp_imp ?_ (wp_put hji hsi h)
        rintro a' w' ⟨hf, h1, h2⟩
        refine ⟨h1, ?_⟩
        rw [skip_iff (by rw [(same_fm hij hsj hf).2]; exact hwj)]
        exact h2
      · rw [quiet_iff (by rw [(ji undef).2]; exact hwi) hi2] at h
        obtain ⟨v, h1, h2⟩ := h
        rw [quiet_iff hwi hi2]
        refine ⟨v, h1.same (ji undef).1.symm, ?_⟩
        rw [skip_iff (by rw [(ij v).2]; exact hwj), Act.put_comm a v undef hne]
        exact h2
  case pos =>
    by_cases hwi : Region.wanted oi (yielded ops a.tmps) = true
    case neg =>
      rw [skip_iff hwi]
      by_cases hj2 : kindOf P G.F oj = 2
      · rw [loud_iff hwj hj2] at h
        rw [loud_iff (by rw [(ij undef).2]; exact hwj) hj2]
        refine wp_imp ?_ (wp_putOut hij hsj h)
        rintro a' w' ⟨a1, hf, rfl, h1, h2⟩
        refine ⟨h1, ?_⟩
        rw [skip_iff (by rw [(same_fm hji hsi hf).2]; exact hwi)] at h2
        exact h2
      · rw [quiet_iff hwj hj2] at h
        obtain ⟨v, h1, h2⟩ := h
        rw [quiet_iff (by rw [(ij undef).2]; exact hwj) hj2]
        refine ⟨v, h1.same (ij undef).1, ?_⟩
        rw [skip_iff (by rw [(ji v).2]; exact hwi)] at h2
        rw [Act.put_comm a undef v hne]
        exact h2
    case pos =>
      by_cases hj2 : kindOf P G.F oj = 2
      · -- j is loud: i hangs on nothing, or on S
        rw [loud_iff hwj hj2] at h
        have hi3 : kindOf P G.F oi ≠ 3 := by
          rcases hk with (((h' | h') | h') | h') | h' <;> omega
        have hi2 : kindOf P G.F oi ≠ 2 := by
          rcases hk with (((h' | h') | h') | h') | h' <;> omega
        obtain ⟨a1, w1, hf1, ⟨hS1, _⟩, h1⟩ := wp_ex (wp_form hsj h)
        have hs1 := same_fm hji hsi hf1
        rw [quiet_iff (by rw [hs1.2]; exact hwi) hi2] at h1
        obtain ⟨u, h3, _⟩ := h1
        have h3' : Ev P G oi u a w := (h3.same hs1.1.symm).any hi3
        rw [quiet_iff hwi hi2]
        refine ⟨u, h3', ?_⟩
        rw [loud_iff (by rw [(ij u).2]; exact hwj) hj2]
        refine wp_imp ?_ (wp_putOut hij hsj h)
        rintro a' w' ⟨a2, hf2, rfl, h4, h5⟩
        refine ⟨h4, ?_⟩
        have hs2 := same_fm hji hsi hf2
        rw [quiet_iff (by rw [hs2.2]; exact hwi) hi2] at h5
        obtain ⟨u', h6, h7⟩ := h5
        have e : u' = u := (h3'.any hi3).det (h6.same hs2.1.symm) h4.1
        rw [e] at h7
        exact h7
      · rw [quiet_iff hwj hj2] at h
        obtain ⟨v, hv, h2⟩ := h
        by_cases hi2 : kindOf P G.F oi = 2
        · rw [loud_iff (by rw [(ji v).2]; exact hwi) hi2] at h2
          rw [loud_iff hwi hi2]
          refine wp_imp ?_ (wp_put hji hsi h2)
          rintro a' w' ⟨hf, h3, h4⟩
          refine ⟨h3, ?_⟩
          have hs' := same_fm hij hsj hf
          rw [quiet_iff (by rw [hs'.2]; exact hwj) hj2]
          refine ⟨v, (hv.same hs'.1).later fun h3k => h3.2 ?_, h4⟩
          rcases hk with (((h' | h') | h') | h') | h'
          · omega
          · omega
          · omega
          · omega
          · rcases h'.2 with h'' | h''
            · omega
            · exact h''
        · rw [quiet_iff (by rw [(ji v).2]; exact hwi) hi2] at h2
          obtain ⟨u, h3, h4⟩ := h2
          rw [quiet_iff hwi hi2]
          refine ⟨u, h3.same (ji v).1.symm, ?_⟩
          rw [quiet_iff (by rw [(ij u).2]; exact hwj) hj2]
          exact ⟨v, hv.same (ij u).1, by rw [Act.put_comm a u v hne]; exact h4⟩

theorem head_ {i : Nat} {o : Oper} {r : List Oper} {a : Act} {w : World} {Q : Exit → Act → World → Prop} (hi : ops[i]? = some o) (hS : G.S w) (h : wpE n P ops G R (o :: r) a w) : wpOpIn Fence.wide n P ops Q i (fun a' w' => G.S w' ∧ wpE n P ops G R r a' w') a w := by
  unfold wpOpIn
  simp only [hi]
  split
  · rename_i hw
    refine ⟨fun _ _ => trivial, ?_⟩
    show wpY n P o a w _ Q
    by_cases hk : kindOf P G.F o = 2
    · rw [loud_iff hw hk] at h
      exact wp_imp (fun _ _ hx => ⟨hx.1.1, hx.2⟩) h
    · rw [quiet_iff hw hk] at h
      obtain ⟨v, h1, h2⟩ := h
      rw [wpY, h1.run hS]
      exact ⟨hS, h2⟩
  · rename_i hw
    rw [skip_iff hw] at h
    exact ⟨fun _ _ => trivial, hS, h⟩

theorem move_ (hN : Region.noSelect ops = true) {i : Nat} {s : List Nat} : ∀ (p : List Nat), (∀ j ∈ p, commI P ops G.G G.F j i = true) → ∀ a w, G.S w → wpE n P ops G R (lst ops (p ++ i :: s)) a w → wpE n P ops G R (lst ops (i :: (p ++ s))) a w
  | [], _, _, _, _, h => h
  | j :: p, hp, a, w, hS, h => by
    obtain ⟨oj, oi, h1, h2, hc⟩ := commI_spec (hp j List.mem_cons_self)
    have ih := move_ hN (s := s) p (fun k hk => hp k (List.mem_cons_of_mem _ hk))
    rw [List.cons_append, lst_cons h1] at h
    have h' := wpE_mono ih oj a w hS h
    rw [lst_cons h2] at h'
    rw [lst_cons h2, List.cons_append, lst_cons h1]
    exact swap_ hc (Region.noSelect_spec hN j oj · · h1) (Region.noSelect_spec hN i oi · · h2) hS h'

theorem any_of (hN : Region.noSelect ops = true) {M : List Nat} (hM : okMasks ops M = true) {Q : Exit → Act → World → Prop} : ∀ (N : Nat) (L : List Nat) (listed : Array Bool) (a : Act) (w : World), L.length = N → listed.size = ops.size → (∀ i, i ∈ L ↔ i < ops.size ∧ listed.getD i true = false) →
    L.Pairwise (fun j i => i ≠ j ∧ ((M.getD i 0).testBit j = true ∨ commI P ops G.G G.F j i = true)) → Closed ops listed → G.S w → wpE n P ops G (Q .normal) (lst ops L) a w → wpAnyIn Fence.wide n P .any ops Q N listed a w := by
  intro N
  induction N with
  | zero =>
    intro L listed a w hn hsz hL hp hc hS h
    obtain rfl : L = [] := List.eq_nil_of_length_eq_zero hn
    refine ⟨?_, h⟩
    cases hr : Region.ready .any ops listed with
    | nil => rfl
    | cons x xs =>
      have hx := mem_ready.1 (by rw [hr]; exact List.mem_cons_self : x ∈ Region.ready .any ops listed)
      obtain ⟨h0, o, ho, _⟩ := hx
      have := (hL x).2 ⟨(Array.getElem?_eq_some_iff.1 ho).1, h0⟩
      cases this
  | succ N ih =>
    intro L listed a w hn hsz hL hp hc hS h
    refine ⟨fun h0 => ?_, fun i hi => ?_⟩
    · -- something is always ready: the first of L
      exfalso
      have hfirst : ∀ m, ∀ i, i < m → i < ops.size → listed.getD i true = false → False := by
        intro m
        induction m with
        | zero => intro i hi; omega
        | succ m ihm =>
          intro i hi hlt hun
          by_cases hall : ∀ o, ops[i]? = some o → ∀ e ∈ o.after, Region.binds .any e = true → listed.getD e.on false = true
          · have : i ∈ Region.ready .any ops listed := mem_ready.2 ⟨hun, ops[i], Array.getElem?_eq_getElem hlt, hall _ (Array.getElem?_eq_getElem hlt)⟩
            rw [h0] at this
            cases this
          · have h1 := List.all_eq_true.1 hM i (List.mem_range.2 hlt)
            rw [Array.getElem?_eq_getElem hlt] at h1
            simp only [Bool.and_eq_true, beq_iff_eq] at h1
            apply hall
            intro o ho e he hb
            rw [Array.getElem?_eq_getElem hlt] at ho
            injection ho with ho
            subst ho
            have hei : e.on < i := by have := List.all_eq_true.1 h1.2 e (by simpa using he); simpa [hb] using this
            cases hge : listed.getD e.on true with
            | false => exact (ihm e.on (by omega) (by omega) hge).elim
            | true =>
              have : e.on < listed.size := by omega
              simpa [this] using hge
      cases L with
      | nil => simp at hn
      | cons x xs =>
        obtain ⟨hx1, hx2⟩ := (hL x).1 List.mem_cons_self
        exact hfirst (x + 1) x (by omega) hx1 hx2
    · obtain ⟨h0, o, ho, hall⟩ := mem_ready.1 hi
      have hlt : i < ops.size := (Array.getElem?_eq_some_iff.1 ho).1
      obtain ⟨p, s, rfl⟩ := List.append_of_mem ((hL i).2 ⟨hlt, h0⟩)
      have hpa := List.pairwise_append.1 hp
      have hps : (p ++ s).Pairwise (fun j i => i ≠ j ∧ ((M.getD i 0).testBit j = true ∨ commI P ops G.G G.F j i = true)) :=
        hp.sublist ((List.Sublist.refl p).append (List.sublist_cons_self i s))
      have hcm : ∀ j ∈ p, commI P ops G.G G.F j i = true := fun j hj => by
        rcases (hpa.2.2 j hj i List.mem_cons_self).2 with h1 | h1
        · have := dep_listed hM hc i i (Nat.le_refl _) (fun o' ho' => by rw [ho] at ho'; injection ho' with ho'; subst ho'; exact hall) hlt j h1
          have hun := ((hL j).1 (List.mem_append_left _ hj)).2
          rw [getD_tf this] at hun
          cases hun
        · exact h1
      have h' := move_ hN p hcm a w hS h
      rw [lst_cons ho] at h'
      refine wpOpIn_mono (fun a' w' hx => ih (p ++ s) (listed.setIfInBounds i true) a' w' ?_ (by simpa using hsz) ?_ hps ?_ hx.1 hx.2) (head_ ho hS h')
      · simp at hn ⊢; omega
      · intro k
        by_cases hik : i = k
        · subst hik
          have hnp : i ∉ p := fun hm => (hpa.2.2 i hm i List.mem_cons_self).1 rfl
          have hns : i ∉ s := fun hm => ((List.pairwise_cons.1 hpa.2.1).1 i hm).1 rfl
          have hls : i < listed.size := by omega
          simp [hnp, hns, hls]
        · rw [getD_set_ne true hik, ← hL k]
          simp [Ne.symm hik]
      · intro k ok hk hl e he hb
        by_cases hik : i = k
        · subst hik
          rw [ho] at hk
          injection hk with hk
          subst hk
          exact getD_set_true (hall e he hb)
        · rw [getD_set_ne true hik] at hl
          exact getD_set_true (hc k ok hk hl e he hb)

theorem any_at {l l0 : List Oper} {a : Act} {w : World} {Q : Exit → Act → World → Prop} (L : List Nat) (S : World → Prop) (G : Bool) (F : List Tmp) (hc : chk P l.toArray G F L = true) (hl : lst l.toArray L = l0) (hS : S w)
    (h : wpE n P l.toArray ⟨S, G, F⟩ (Q .normal) l0 a w) : wpAnyIn Fence.wide n P .any l.toArray Q l.toArray.size (Array.replicate l.toArray.size false) a w := by
  subst hl
  simp only [chk, Bool.and_eq_true, beq_iff_eq] at hc
  obtain ⟨⟨⟨⟨⟨h1, h2⟩, h3⟩, h4⟩, h5⟩, h6⟩ := hc
  rw [← h6]
  refine any_of (G := ⟨S, G, F⟩) h1 h2 _ L _ a _ rfl (by rw [Array.size_replicate]; exact h6) (fun i => ?_) (pairB_spec h3) (fun k o hk hl => ?_) hS h
  · constructor
    · intro hi
      have := List.all_eq_true.1 h5 i hi
      simp at this
      simp [h6, this]
    · rintro ⟨hi, _⟩
      have := List.all_eq_true.1 h4 i (List.mem_range.2 hi)
      simpa using this
  · obtain ⟨hk', _⟩ := Array.getElem?_eq_some_iff.1 hk
    rw [← h6] at hk'
    simp [hk'] at hl
theorem region_at {id : Nat} {l l0 : List Oper} {a : Act} {w : World} {Q : Exit → Act → World → Prop} (L : List Nat) (S : World → Prop) (G : Bool) (F : List Tmp) (hm : P.follows .mixedOrders = true) (hc : chk P l.toArray G F L = true) (hl : lst l.toArray L = l0) (hS : S w.drew)
    (h : wpE n P l.toArray ⟨S, G, F⟩ (Q .normal) l0 a w.drew) : (Code.region id l.toArray true).wpIn Fence.wide n P Q a w :=
  wpIn_region_any hm (any_at L S G F hc hl hS h)
theorem region_ {id : Nat} {l : List Oper} {a : Act} {w : World} {Q : Exit → Act → World → Prop} (S : World → Prop) (G : Bool) (F : List Tmp) (hm : P.follows .mixedOrders = true) (hc : chk P l.toArray G F (List.range l.length) = true) (hS : S w.drew)
    (h : wpE n P l.toArray ⟨S, G, F⟩ (Q .normal) l a w.drew) : (Code.region id l.toArray true).wpIn Fence.wide n P Q a w := region_at _ S G F hm hc (lst_all l) hS h

/-! ### The steps -/
variable {r : List Oper} {o : Oper} {a : Act} {w : World}
theorem e_nil (h : R a w) : wpE n P ops G R [] a w := h
theorem e_u (hw : Region.wanted o (yielded ops a.tmps) = false) (h : wpE n P ops G R r (a.put o.dst undef) w) : wpE n P ops G R (o :: r) a w := by
  rw [skip_iff (by rw [hw]; simp)]
  exact h
theorem e_p {v : Value} (hk : isX P o = false) (hw : Region.wanted o (yielded ops a.tmps) = true) (hy : ∀ w2, (execOp a.eval o).run P w2 = .ok (.value v) w2) (h : wpE n P ops G R r (a.put o.dst v) w) : wpE n P ops G R (o :: r) a w := by
  have hk2 := kind_of_not (P := P) (F := G.F) hk
  rw [quiet_iff hw hk2]
  refine ⟨v, ?_, h⟩
  rcases kind_lt P G.F o with h' | h' | h' | h'
  · exact .inl ⟨h', hy⟩
  · exact .inr (.inl ⟨h', fun w2 _ => hy w2⟩)
  · exact absurd h' hk2
  · exact .inr (.inr ⟨h', fun w2 _ => hy w2⟩)
/-- A read of what lies there by now (its slot is among F), or of what S tells. -/
theorem e_r {v : Value} (hk : kindOf P G.F o = 1 ∨ kindOf P G.F o = 3) (hw : Region.wanted o (yielded ops a.tmps) = true) (hy : (kindOf P G.F o = 3 ∧ Stays P o v a w) ∨ (∀ w2, G.S w2 → (execOp a.eval o).run P w2 = .ok (.value v) w2) ∧ (kindOf P G.F o = 3 → Stays P o v a w)) (h : wpE n P ops G R r (a.put o.dst v) w) : wpE n P ops G R (o :: r) a w := by
  rw [quiet_iff hw (by omega)]
  refine ⟨v, ?_, h⟩
  rcases hk with hk | hk
  · rcases hy with ⟨h', _⟩ | ⟨h1, _⟩
    · omega
    · exact .inr (.inl ⟨hk, h1⟩)
  · rcases hy with ⟨_, h1⟩ | ⟨_, h1⟩
    · exact .inr (.inr ⟨hk, h1⟩)
    · exact .inr (.inr ⟨hk, h1 hk⟩)
/-- What is left behind an operation of whatever kind. -/
def Seg (n : Nat) (P : Program) (ops : Array Oper) (G : Cfg) (R : Act → World → Prop) (o : Oper) (r : List Oper) (w : World) (e : Exit) (a' : Act) (w' : World) : Prop := e = .normal ∧ (G.S w' ∧ (grows G.G G.F o = true → Below w.heap.size w w')) ∧ wpE n P ops G R r a' w'
theorem Seg.go {a' : Act} {w' : World} (hS : G.S w') (hb : grows G.G G.F o = true → Below w.heap.size w w') (h : wpE n P ops G R r a' w') : Seg n P ops G R o r w .normal a' w' := ⟨rfl, ⟨hS, hb⟩, h⟩
theorem e_x (hk : isX P o = true) (hw : Region.wanted o (yielded ops a.tmps) = true) (h : wpList P ops (Seg n P ops G R o r w) [o] a w) : wpE n P ops G R (o :: r) a w := by
  rw [loud_iff hw (kind_of_x hk)]
  unfold wpList at h
  rw [if_pos hw] at h
  rcases h with h | ⟨_, _, _, h⟩
  · have hq : ∀ (rs : Result Next), o.upon P a (wpList P ops (Seg n P ops G R o r w) []) (Seg n P ops G R o r w) rs → o.upon P a (fun a' w' => (G.S w' ∧ (grows G.G G.F o = true → Below w.heap.size w w')) ∧ wpE n P ops G R r a' w') QF rs := by
      intro rs hh
      cases rs with
      | ok x w' =>
        cases x <;> simp only [Oper.upon] at hh ⊢
        case value u => exact hh.2
        case skip => exact hh.2
        case defer d => exact hh.2
        case enter f args => exact Calls.mono hh (fun e w'' he => by
            cases e with
            | returned v => exact he.2
            | panicked c => exact Exit.noConfusion he.1
            | outgrown => obtain ⟨_, _, he⟩ := he; exact Exit.noConfusion he.1)
        case row row args => exact Rows.mono hh (fun _ _ he => he.2)
      | halt x w' =>
        cases x <;> simp only [Oper.upon] at hh ⊢
        case panic u => exact Exit.noConfusion hh.1
    exact upon_y (hq _ h)
  · exact Exit.noConfusion h.1
/-- A call of yield. -/
theorem e_y {l : Nat} {args : Array Value} {T : Ending → World → Prop} (hk : isX P o = true) (hw : Region.wanted o (yielded ops a.tmps) = true) (hrun : (execOp a.eval o).run P w = (Instr.yield l args).run P w)
    (hY : YieldAt Fence.wide (n - 1) P l args w T) (h : ∀ e w', T e w' → ∃ v, e = .returned v ∧ (G.S w' ∧ (grows G.G G.F o = true → Below w.heap.size w w')) ∧ wpE n P ops G R r (a.put o.dst v) w') : wpE n P ops G R (o :: r) a w := by
  rw [loud_iff hw (kind_of_x hk)]
  obtain ⟨fn, tmps, assign, body, hy, hR⟩ := hY
  unfold wpY
  rw [hrun, hy]
  refine ⟨fun hd => by simp [Fence.wide] at hd, hR.mono fun e w' ht => ?_⟩
  obtain ⟨v, rfl, h1, h2⟩ := h e w' ht
  exact ⟨h1, h2⟩
/-- string(b), b as S tells. -/
theorem e_strS {d : Option Tmp} {x : Operand} {src dst ty e : TypeId} {pos : String} {af : Array Edge} {g : Option (Nat × Bool)} {B : Nat} {A : Option Addr} {n c : Nat} {l : List UInt8}
    (hs : P.underlying src = some (.slice e)) (he : P.underlying e = some (.int .u8)) (hd : P.underlying dst = some .string) (h : ∀ w2, G.S w2 → Rd w2 B 1 A n c (bv l)) (hS : G.S w) (hB : B ≤ w.heap.size) (hx : a.eval x = .slice A n c)
    (hw : Region.wanted ⟨d, .convert src dst x, ty, pos, af, g⟩ (yielded ops a.tmps) = true) (hk : wpE n P ops G R r (a.put d (.string ⟨l.toArray⟩)) w) : wpE n P ops G R (⟨d, .convert src dst x, ty, pos, af, g⟩ :: r) a w := by
  refine e_r (kind_str hs) hw (.inr ⟨fun w2 hS2 => ?_, fun _ w2 hb => ?_⟩) hk
  · unfold execOp
    simp only [hx]
    rw [run_bind_str hs he hd (h w2 hS2)]
  · unfold execOp
    simp only [hx]
    rw [run_bind_str hs he hd ((h w hS).up (hb.mono hB))]
theorem run_load1 {x : Operand} {t : TypeId} {d : Option Tmp} {ty : TypeId} {pos : String} {af : Array Edge} {g : Option (Nat × Bool)} {ad : Addr} {v : Value} {ds : TypeDesc}
    (ht : P.underlying t = some ds) (hns : (match ds with | .struct _ => false | .array _ _ => false | _ => true) = true) (hx : a.eval x = .pointer (some ad)) {w2 : World} (hc2 : w2.cell? ad = some v) :
    (execOp a.eval ⟨d, .load t x, ty, pos, af, g⟩).run P w2 = .ok (.value v) w2 := by
  have ha : (isAgg t).run P w2 = .ok false w2 := by
    unfold isAgg
    rw [run_bind_of' (run_underlying ht w2)]
    cases ds <;> simp at hns <;> rfl
  unfold execOp
  simp only [hx]
  have hl : (Instr.loadAt t (.pointer (some ad))).run P w2 = .ok v w2 := by
    unfold Instr.loadAt loadVar
    simp only [Instr.sureAddr, Sem.run_bind, Sem.run_pure, Result.andThen_ok, ha]
    simp [load, Sem.run, hc2]
  simp only [Sem.run_bind, hl, Result.andThen_ok, Sem.run_pure]
/-- x = *p, of what S tells. -/
theorem e_loadS {d : Option Tmp} {x : Operand} {t ty : TypeId} {pos : String} {af : Array Edge} {g : Option (Nat × Bool)} {ad : Addr} {v : Value} {ds : TypeDesc}
    (ht : P.underlying t = some ds) (hns : (match ds with | .struct _ => false | .array _ _ => false | _ => true) = true) (hc : ∀ w2, G.S w2 → w2.cell? ad = some v) (hS : G.S w) (hx : a.eval x = .pointer (some ad))
    (hw : Region.wanted ⟨d, .load t x, ty, pos, af, g⟩ (yielded ops a.tmps) = true) (hk : wpE n P ops G R r (a.put d v) w) : wpE n P ops G R (⟨d, .load t x, ty, pos, af, g⟩ :: r) a w :=
  e_r kind_load hw (.inr ⟨fun w2 hS2 => run_load1 ht hns hx (hc w2 hS2), fun _ w2 hb => run_load1 ht hns hx ((hb.cell (World.block_lt_of_cell? w ad (hc w hS))).trans (hc w hS))⟩) hk
/-- x = *p, p in memory that lies there by now (its slot is among F). -/
theorem e_load {d : Tmp} {x : Operand} {t ty : TypeId} {pos : String} {af : Array Edge} {g : Option (Nat × Bool)} {ad : Addr} {v : Value} {ds : TypeDesc}
    (ht : P.underlying t = some ds) (hns : (match ds with | .struct _ => false | .array _ _ => false | _ => true) = true) (hc : w.cell? ad = some v) (hx : a.eval x = .pointer (some ad))
    (hF : G.F.contains d = true) (hw : Region.wanted ⟨some d, .load t x, ty, pos, af, g⟩ (yielded ops a.tmps) = true) (hk : wpE n P ops G R r (a.put (some d) v) w) : wpE n P ops G R (⟨some d, .load t x, ty, pos, af, g⟩ :: r) a w :=
  e_r kind_load hw (.inl ⟨by simp only [kindOf, hF, if_true], fun w2 hb => run_load1 ht hns hx ((hb.cell (World.block_lt_of_cell? w ad hc)).trans hc)⟩) hk
theorem run_loadR {x : Operand} {t : TypeId} {d : Option Tmp} {ty : TypeId} {pos : String} {af : Array Edge} {g : Option (Nat × Bool)} {b o : Nat} {cs : List Value} {ds : TypeDesc}
    (hu : P.underlying t = some ds) (hd : ds.isRow = true) (hi : (P.info? t).map (·.size) = some cs.length) (hx : a.eval x = .pointer (some ⟨b, o, none⟩)) {w2 : World} (hc : w2.rangeAt b o cs) :
    (execOp a.eval ⟨d, .load t x, ty, pos, af, g⟩).run P w2 = .ok (.value (.agg cs.toArray)) w2 := by
  unfold execOp
  simp only [hx, Sem.run_bind, run_loadAt_mid w2 b o t cs ds hc hu hd hi, Result.andThen_ok, Sem.run_pure]
/-- x = *p, a struct or an array, of what S tells. -/
theorem e_rowS {d : Option Tmp} {x : Operand} {t ty : TypeId} {pos : String} {af : Array Edge} {g : Option (Nat × Bool)} {b o : Nat} {cs : List Value} {ds : TypeDesc}
    (hu : P.underlying t = some ds) (hd : ds.isRow = true) (hi : (P.info? t).map (·.size) = some cs.length) (hx : a.eval x = .pointer (some ⟨b, o, none⟩)) (hne : cs ≠ []) (hc : ∀ w2, G.S w2 → w2.rangeAt b o cs) (hS : G.S w)
    (hw : Region.wanted ⟨d, .load t x, ty, pos, af, g⟩ (yielded ops a.tmps) = true) (hk : wpE n P ops G R r (a.put d (.agg cs.toArray)) w) : wpE n P ops G R (⟨d, .load t x, ty, pos, af, g⟩ :: r) a w :=
  e_r kind_load hw (.inr ⟨fun w2 hS2 => run_loadR hu hd hi hx (hc w2 hS2), fun _ w2 hb => run_loadR hu hd hi hx (fun j v hv => (hb.cell (p := ⟨b, o + j, none⟩) (by
    have := World.block_lt_of_cell? w _ (hc w hS j v hv); exact this)).trans (hc w hS j v hv))⟩) hk
/-- x = *p, a struct or an array, in memory that lies there by now (its slot is among F). -/
theorem e_row {d : Tmp} {x : Operand} {t ty : TypeId} {pos : String} {af : Array Edge} {g : Option (Nat × Bool)} {b o : Nat} {cs : List Value} {ds : TypeDesc}
    (hu : P.underlying t = some ds) (hd : ds.isRow = true) (hi : (P.info? t).map (·.size) = some cs.length) (hx : a.eval x = .pointer (some ⟨b, o, none⟩)) (hc : w.rangeAt b o cs)
    (hF : G.F.contains d = true) (hw : Region.wanted ⟨some d, .load t x, ty, pos, af, g⟩ (yielded ops a.tmps) = true) (hk : wpE n P ops G R r (a.put (some d) (.agg cs.toArray)) w) : wpE n P ops G R (⟨some d, .load t x, ty, pos, af, g⟩ :: r) a w :=
  e_r kind_load hw (.inl ⟨by simp only [kindOf, hF, if_true], fun w2 hb => run_loadR hu hd hi hx (fun j v hv => (hb.cell (p := ⟨b, o + j, none⟩) (by
    have := World.block_lt_of_cell? w _ (hc j v hv); exact this)).trans (hc j v hv))⟩) hk
theorem ops_of (hN : Region.noSelect ops = true) {Q : Exit → Act → World → Prop} : ∀ (s L : List Nat) (a : Act) (w : World), (∀ i, i ∈ s ↔ i ∈ L) → s.Pairwise (· ≠ ·) → L.Pairwise (fun j i => j ≠ i ∧ (Ahead s i j → commI P ops G.G G.F j i = true)) → (∀ i ∈ s, i < ops.size) → G.S w →
    wpE n P ops G (Q .normal) (lst ops L) a w → wpOpsIn Fence.wide n P ops Q s a w
  | [], L, a, w, hm, hs, hp, hsz, hS, h => by
    obtain rfl : L = [] := by
      cases L with
      | nil => rfl
      | cons x xs => exact absurd ((hm x).2 List.mem_cons_self) (by simp)
    exact h
  | x :: s, L, a, w, hm, hs, hp, hsz, hS, h => by
    obtain ⟨p, q, rfl⟩ := List.append_of_mem ((hm x).1 List.mem_cons_self)
    have hpa := List.pairwise_append.1 hp
    have hnp : x ∉ p := fun hm => (hpa.2.2 x hm x List.mem_cons_self).1 rfl
    have hnq : x ∉ q := fun hm => ((List.pairwise_cons.1 hpa.2.1).1 x hm).1 rfl
    have hxs : ∀ y ∈ s, x ≠ y := (List.pairwise_cons.1 hs).1
    have hcm : ∀ j ∈ p, commI P ops G.G G.F j x = true := fun j hj => (hpa.2.2 j hj x List.mem_cons_self).2 (.inl ⟨rfl, by
      have := (hm j).2 (List.mem_append_left _ hj)
      rcases List.mem_cons.1 this with rfl | h
      · exact absurd hj hnp
      · exact h⟩)
    have hlt : x < ops.size := hsz x List.mem_cons_self
    have ho : ops[x]? = some ops[x] := Array.getElem?_eq_getElem hlt
    have h' := move_ hN p hcm a w hS h
    rw [lst_cons ho] at h'
    rw [wpOpsIn_cons]
    refine wpOpIn_mono (fun a' w' hx => ops_of hN s (p ++ q) a' w' (fun i => ?_) (List.pairwise_cons.1 hs).2 ?_ (fun i hi => hsz i (List.mem_cons_of_mem _ hi)) hx.1 hx.2) (head_ ho hS h')
    · constructor
      · intro hi
        have := (hm i).1 (List.mem_cons_of_mem _ hi)
        have hne := hxs i hi
        simp only [List.mem_append, List.mem_cons] at this ⊢
        rcases this with h | h | h
        · exact .inl h
        · exact absurd h.symm hne
        · exact .inr h
      · intro hi
        have h1 : i ∈ x :: s := (hm i).2 (by
          simp only [List.mem_append, List.mem_cons] at hi ⊢
          rcases hi with h | h
          · exact .inl h
          · exact .inr (.inr h))
        rcases List.mem_cons.1 h1 with rfl | h2
        · rcases List.mem_append.1 hi with h | h
          · exact absurd h hnp
          · exact absurd h hnq
        · exact h2
    · exact (hp.sublist ((List.Sublist.refl p).append (List.sublist_cons_self x q))).imp fun h => ⟨h.1, fun ha => h.2 (.inr ha)⟩

theorem region_m {id : Nat} {l : List Oper} {a : Act} {w : World} {Q : Exit → Act → World → Prop} (X : List Nat) (Ls : List (List Nat)) (S : World → Prop) (G : Bool) (F : List Tmp) (hm : P.follows .mixedOrders = true) (hc : chkM P l.toArray G F X Ls = true) (hS : S w.drew)
    (h : ∀ L ∈ Ls, wpE n P l.toArray ⟨S, G, F⟩ (Q .normal) (lst l.toArray L) a w.drew) : (Code.region id l.toArray true).wpIn Fence.wide n P Q a w := by
  simp only [chkM, Bool.and_eq_true] at hc
  obtain ⟨⟨⟨⟨h1, h2⟩, h3⟩, h4⟩, h5⟩ := hc
  refine wpIn_region_draw fun t => ?_
  simp only [Region.schedule, hm, Bool.true_or, if_true]
  have hall : ∀ L ∈ Ls, L.Pairwise (· ≠ ·) ∧ (∀ i, i ∈ L ↔ i < l.toArray.size) ∧ L.length = l.toArray.size ∧ L.Pairwise (fun j i => i ≠ j ∧ (((masks l.toArray).getD i 0).testBit j = true ∨ commI P l.toArray G F j i = true ∨ (j ∈ X ∧ i ∈ X))) := by
    intro L hL
    have := List.all_eq_true.1 h5 L hL
    simp only [Bool.and_eq_true, beq_iff_eq] at this
    obtain ⟨⟨⟨g1, g2⟩, g3⟩, g4⟩ := this
    have hp := pairM_spec g1
    refine ⟨hp.imp fun h => Ne.symm h.1, fun i => ⟨fun hi => by simpa using List.all_eq_true.1 g3 i hi, fun hi => by simpa using List.all_eq_true.1 g2 i (List.mem_range.2 hi)⟩, g4, hp⟩
  have hne : ∃ L0, L0 ∈ Ls := by
    have : Ls.isEmpty = false := by
      cases hX : X.length <;> rw [hX] at h4 <;> simp [cov] at h4 <;> simp [h4]
    cases Ls with
    | nil => cases this
    | cons L r => exact ⟨L, List.mem_cons_self⟩
  obtain ⟨L0, hL0⟩ := hne
  obtain ⟨e1, e2, e3, _⟩ := hall L0 hL0
  have hlin := lin_valid (ops := l.toArray) h2 l.toArray.size t (Array.replicate l.toArray.size false) L0 e3 (by simp) (fun i => by
    rw [e2 i]
    constructor
    · intro hi
      refine ⟨hi, ?_⟩
      simp at hi
      simp [hi]
    · exact fun hi => hi.1) e1 (fun k o hk hl => by
      obtain ⟨hk', _⟩ := Array.getElem?_eq_some_iff.1 hk
      simp at hk'
      simp [hk'] at hl)
  change wpOpsIn Fence.wide n P l.toArray Q (Region.linearise.go .any l.toArray l.toArray.size t (Array.replicate l.toArray.size false) []) a w.drew
  generalize Region.linearise.go .any l.toArray l.toArray.size t (Array.replicate l.toArray.size false) [] = s at *
  obtain ⟨hmem, hv⟩ := hlin
  obtain ⟨L, hL, hp⟩ := cov_spec s X.length X Ls h4 (Nat.le_refl _) (fun i hi => (hmem i).2 ((e2 i).2 (by simpa using List.all_eq_true.1 h3 i hi))) hv
  obtain ⟨f1, f2, f3, f4⟩ := hall L hL
  refine ops_of (G := ⟨S, G, F⟩) h1 s L a _ (fun i => by rw [hmem i, e2 i, f2 i]) (hv.imp fun h => h.1) ?_ (fun i hi => (e2 i).1 ((hmem i).1 hi)) hS (h L hL)
  have hb := pairwise_before f1
  refine (f4.and hb).imp fun {j i} h => ⟨Ne.symm h.1.1, fun ha => ?_⟩
  rcases h.1.2 with g | g | ⟨g1, g2⟩
  · rw [valid_not hv ha] at g; cases g
  · exact g
  · exact hp j i g1 g2 ha h.2
end
end OrdY
end Go.Proofs.YtmkidihcdljkiaaGreat

/-
  A range over a function whose iterator makes memory: what it hands to yield is told by a relation.
-/
set_option linter.unusedSimpArgs false
set_option linter.unusedVariables false
namespace Go.Proofs.YtmkidihcdljkiaaGreat
open Go.RowKit

/-- An iterator g, bound to lb: it calls yield at values that tell each of xs (E), in that order; between two calls it turns only what lies in U (and lays new blocks), and wants what lies in K kept; W0: what it finds of the world when it is called. -/
def SeqR {α : Type} (P : Program) (n : Nat) (g : Nat) (lb : Array Value) (E : α → Array Value → World → Prop) (K U : Nat → Prop) (xs : List α) (W0 : World → Prop) : Prop :=
  ∀ (l : Nat) (J Jx : List α → World → Prop) (W : World), W0 W → (∀ pre A B, J pre A → Aw U A B → J pre B) → (∀ pre A B, Jx pre A → Aw U A B → Jx pre B) →
    (∀ pre x vs W1, J pre W1 → (pre ++ [x]) <+: xs → E x vs W1 → YieldAt Fence.wide (n - 1) P l vs W1 fun e W' =>
      (e = .returned (.bool true) ∧ J (pre ++ [x]) W' ∧ Keeps K W1 W') ∨ (e = .returned (.bool false) ∧ Jx (pre ++ [x]) W')) →
    J [] W →
    CallsIn Fence.wide n P g (#[.func (.yield l) #[] #[]] ++ lb) W fun e W' => (∃ v, e = .returned v) ∧ (J xs W' ∨ ∃ pre, pre <+: xs ∧ Jx pre W')

theorem rangeFunc_R {P : Program} {n : Nat} {α : Type} {g : Operand} {ps : Array Tmp} {assign body : Code} {Q : Exit → Act → World → Prop} {a : Act} {w : World}
    {gf : Nat} {lb : Array Value} (hg : a.eval g = .func (.func gf) #[] lb) (eg : ∀ args w, (callFunc gf args).run P w = .ok (.enter gf args) w)
    {E : α → Array Value → World → Prop} {K U : Nat → Prop} {xs : List α} {W0 : World → Prop} (hseq : SeqR P (n - 1) gf lb E K U xs W0) (hW0 : ∀ W, Aw (fun _ => False) w W → w.heap.size + 2 ≤ W.heap.size → W0 W) (hps : ∀ x vs W, E x vs W → vs.size = ps.size) (hE : ∀ x vs A B, E x vs A → Aw (fun k => k = w.heap.size ∨ k = w.heap.size + 1) A B → E x vs B) (hU : ∀ k, U k → k < w.heap.size)
    (hK : ∀ k, K k → k < w.heap.size)
    (I : List α → World → Prop) (Ix : Code → List α → World → Prop) (hI : ∀ pre A B, I pre A → Aw (fun k => U k ∨ k = w.heap.size ∨ k = w.heap.size + 1) A B → I pre B) (hIx : ∀ c pre A B, Ix c pre A → Aw (fun k => U k ∨ k = w.heap.size ∨ k = w.heap.size + 1) A B → Ix c pre B)
    (h0 : I [] w) (a₁ : Array Value → Act)
    (hassign : ∀ (l : Nat) (x : α) (vs : Array Value) (W : World) (K : Act → World → Prop), E x vs W → K (a₁ vs) W →
      assign.wpIn (Fence.wide.inRound l) (n - 1 - 1) P (Exit.then K (fun _ _ _ => False)) { tmps := (ps.zip vs).foldl (fun t (p, v) => t.setIfInBounds p v) a.tmps, defers := [] } W)
    (hbody : ∀ (pre : List α) (x : α) (vs : Array Value) (W : World), I pre W → E x vs W → (pre ++ [x]) <+: xs → w.heap.size + 2 ≤ W.heap.size → body.wpIn (Fence.wide.inRound (w.heap.size + 1)) (n - 1 - 1) P (postW K w.heap.size I Ix (pre ++ [x]) W) (a₁ vs) W)
    (hdone : ∀ (W : World), I xs W → W.heap[w.heap.size]? = some (.deferred (some [])) → Q .normal { a with defers := { target := .collected w.heap.size, args := #[] } :: a.defers } W)
    (hstop : ∀ (c : Code) (pre : List α) (W : World), pre <+: xs → Ix c pre W → W.heap[w.heap.size]? = some (.deferred (some [])) → c.wpIn Fence.wide n P Q { a with defers := { target := .collected w.heap.size, args := #[] } :: a.defers } W) :
    (Code.rangeFunc g ps assign body).wpIn Fence.wide n P Q a w := by
  refine wpIn_rangeFunc ?_
  intro fn _
  rw [show Fence.wide.round = none from rfl]
  obtain ⟨rec, hrec⟩ : ∃ rec : LoopState → Option Code → Loop, rec = fun st pe => { state := st, pending := pe, fn, tmps := a.tmps, params := ps, assign, body, defers := w.heap.size } := ⟨_, rfl⟩
  obtain ⟨W1, hW1⟩ : ∃ W1, (w.alloc (.deferred (some []))).alloc (.loop (rec .ready none)) = W1 := ⟨_, rfl⟩
  have hL1 : W1.heap[w.heap.size + 1]? = some (.loop (rec .ready none)) := by
    rw [← hW1]; have := World.alloc_heap_new (w.alloc (.deferred (some []))) (.loop (rec .ready none)); rwa [World.size_alloc] at this
  have hK1 : W1.heap[w.heap.size]? = some (.deferred (some [])) := by
    rw [← hW1]; exact (Below.heap_alloc _ _ _ (by simp)).trans (World.alloc_heap_new w _)
  have hA1 : ∀ V : Nat → Prop, Aw V w W1 := fun V => by rw [← hW1]; exact ((Aw.refl V w).alloc _).alloc _
  have hI1 : I [] W1 := hI _ _ _ h0 (hA1 _)
  have hUD : ¬ U w.heap.size := fun h => absurd (hU _ h) (Nat.lt_irrefl _)
  have hUL : ¬ U (w.heap.size + 1) := fun h => absurd (hU _ h) (by omega)
  refine ⟨w.heap.size + 1, [{ target := .collected w.heap.size, args := #[] }], W1, { target := .fn (.func gf) lb, args := #[.func (.yield (w.heap.size + 1)) #[] #[]] }, W1, gf,
    #[.func (.yield (w.heap.size + 1)) #[] #[]] ++ lb, W1, ?_, ?_, ?_, ?_, ?_, ?_⟩
  · rw [← hW1, hrec]; exact run_enterLoop_outer _ _ _ _ _
  · simp only [resolve, hg]
    simp [go_sem]
  · intro f' hf'; exact trivial
  · simp [invoke, go_sem, eg]
  · intro hd; simp [Fence.wide] at hd
  · refine (hseq (w.heap.size + 1)
      (fun pre W => I pre W ∧ W.heap[w.heap.size + 1]? = some (.loop (rec .ready none)) ∧ W.heap[w.heap.size]? = some (.deferred (some [])))
      (fun pre W => ∃ c, Ix c pre W ∧ W.heap[w.heap.size + 1]? = some (.loop (rec .done (some c))) ∧ W.heap[w.heap.size]? = some (.deferred (some [])))
      W1 (hW0 _ (hA1 _) (by have := (Array.getElem?_eq_some_iff.1 hL1).1; omega))
      (fun pre A B hs ha => ⟨hI _ _ _ hs.1 (ha.mono fun k hk => .inl hk), ha.keep hs.2.1 hUL, ha.keep hs.2.2 hUD⟩)
      (fun pre A B hs ha => by
        obtain ⟨c, hc, hl, hk⟩ := hs
        exact ⟨c, hIx _ _ _ _ hc (ha.mono fun k hk => .inl hk), ha.keep hl hUL, ha.keep hk hUD⟩)
      ?_ ⟨hI1, hL1, hK1⟩).mono ?_
    · rintro pre x vs W ⟨hi, hl, hk⟩ hpre hex
      have hlt : w.heap.size + 1 < W.heap.size := (Array.getElem?_eq_some_iff.1 hl).1
      have hy := run_yield (P := P) (args := vs) hl (by rw [hrec]; exact hps x vs W hex)
      rw [hrec] at hy
      refine ⟨fn, _, assign, body, hy, roundIn_of_wpIn trivial (hassign _ x vs W _ hex ⟨_, run_beginRound hl (by rw [hrec]), ?_⟩)⟩
      obtain ⟨W2, hW2⟩ : ∃ W2, W2 = W.putObj (w.heap.size + 1) (.loop { rec .ready none with state := .busy }) := ⟨_, rfl⟩
      rw [← hW2]
      have hl2 : W2.heap[w.heap.size + 1]? = some (.loop { rec .ready none with state := .busy }) := by rw [hW2]; exact World.putObj_heap_same hlt
      have hk2 : W2.heap[w.heap.size]? = some (.deferred (some [])) := by rw [hW2]; exact (World.putObj_heap_other (by omega)).trans hk
      have ha2 : Aw (fun k => k = w.heap.size + 1) W W2 := by rw [hW2]; exact (Aw.refl _ W).put _ rfl
      refine wpIn_mono (hbody pre x vs _ (hI _ _ _ hi (ha2.mono fun k hk => .inr (.inr hk))) (hE _ _ _ _ hex (ha2.mono fun k hk => .inr hk)) hpre (by have := ha2.size; omega)) ?_
      have fin : ∀ (jump : Option Code) (W3 : World), Keeps (fun k => k = w.heap.size ∨ k = w.heap.size + 1) W2 W3 →
          (Instr.endRound (w.heap.size + 1) jump).run P W3 = .ok (.bool jump.isNone) (W3.putObj (w.heap.size + 1) (.loop (rec (if jump.isNone then .ready else .done) jump))) ∧
          (W3.putObj (w.heap.size + 1) (.loop (rec (if jump.isNone then .ready else .done) jump))).heap[w.heap.size + 1]? = some (.loop (rec (if jump.isNone then .ready else .done) jump)) ∧
          (W3.putObj (w.heap.size + 1) (.loop (rec (if jump.isNone then .ready else .done) jump))).heap[w.heap.size]? = some (.deferred (some [])) := fun jump W3 hk3 => by
        have hl3 := hk3.2 _ _ (.inr rfl) hl2
        have := run_endRound (P := P) jump hl3
        rw [hrec] at this ⊢
        exact ⟨this, World.putObj_heap_same (Array.getElem?_eq_some_iff.1 hl3).1, (World.putObj_heap_other (by omega)).trans (hk3.2 _ _ (.inl rfl) hk2)⟩
      have aw3 : ∀ (W3 : World) (o : Obj), Aw (fun k => U k ∨ k = w.heap.size ∨ k = w.heap.size + 1) W3 (W3.putObj (w.heap.size + 1) o) := fun W3 o => (Aw.refl _ W3).put o (.inr (.inr rfl))
      rintro e a3 W3 hp
      cases e with
      | normal =>
        obtain ⟨hk3, hi3⟩ := hp
        obtain ⟨hr, hl4, hk4⟩ := fin none W3 (hk3.mono fun k hk => .inr hk)
        refine ⟨_, _, hr, .inl ⟨rfl, ⟨hI _ _ _ hi3 (aw3 W3 _), hl4, hk4⟩, ?_, fun k o hu ho => ?_⟩⟩
        · rw [World.putObj_size]; exact Nat.le_trans ha2.size hk3.1
        · have hne : k ≠ w.heap.size + 1 := fun e => by have := hK k hu; omega
          exact (World.putObj_heap_other hne).trans (hk3.2 k o (.inl hu) (ha2.keep ho hne))
      | ret =>
        obtain ⟨hk3, hi3⟩ := hp
        obtain ⟨hr, hl4, hk4⟩ := fin (some .ret) W3 hk3
        exact ⟨_, _, hr, .inr ⟨rfl, .ret, hIx _ _ _ _ hi3 (aw3 W3 _), hl4, hk4⟩⟩
      | exit id =>
        obtain ⟨hk3, hi3⟩ := hp
        obtain ⟨hr, hl4, hk4⟩ := fin (some (.exit id)) W3 hk3
        exact ⟨_, _, hr, .inr ⟨rfl, .exit id, hIx _ _ _ _ hi3 (aw3 W3 _), hl4, hk4⟩⟩
      | goto t =>
        obtain ⟨hk3, hi3⟩ := hp
        obtain ⟨hr, hl4, hk4⟩ := fin (some (.goto t)) W3 hk3
        exact ⟨_, _, hr, .inr ⟨rfl, .goto t, hIx _ _ _ _ hi3 (aw3 W3 _), hl4, hk4⟩⟩
      | panic ch => exact hp.elim
      | outgrown => exact hp.elim
    · have aw3 : ∀ (W3 : World) (o : Obj), Aw (fun k => U k ∨ k = w.heap.size ∨ k = w.heap.size + 1) W3 (W3.putObj (w.heap.size + 1) o) := fun W3 o => (Aw.refl _ W3).put o (.inr (.inr rfl))
      rintro e W2 ⟨⟨v, rfl⟩, (⟨hi, hl, hk⟩ | ⟨pre, hSp, c, hi, hl, hk⟩)⟩
      · exact ⟨none, _, by have := run_endLoop (P := P) hl (by rw [hrec]; simp); rw [hrec] at this; exact this, hdone _ (hI _ _ _ hi (aw3 W2 _)) ((World.putObj_heap_other (by omega)).trans hk)⟩
      · exact ⟨some c, _, by have := run_endLoop (P := P) hl (by rw [hrec]; simp); rw [hrec] at this; exact this, hstop c pre _ hSp (hIx _ _ _ _ hi (aw3 W2 _)) ((World.putObj_heap_other (by omega)).trans hk)⟩

end Go.Proofs.YtmkidihcdljkiaaGreat

/-
  A plain region inside a round: what was walked plainly holds there. Results that lie in cells.
-/
set_option linter.unusedSimpArgs false
set_option linter.unusedVariables false
namespace Go.Proofs.YtmkidihcdljkiaaGreat
open Go.RowKit

theorem listIn_ {P : Program} {n l : Nat} {ops : Array Oper} {Q : Exit → Act → World → Prop} (hQ : ¬ LetsOut Q) : ∀ (L : List Oper), (∀ o ∈ L, ∀ c, o.op ≠ .defer c) → ∀ (a : Act) (w : World), wpList P ops Q L a w → wpListIn (Fence.wide.inRound l) n P ops Q L a w
  | [], _, _, _, h => h
  | o :: r, hd, a, w, h => by
    have ih := listIn_ (P := P) (ops := ops) (n := n) (l := l) hQ r (fun o' ho => hd o' (List.mem_cons_of_mem _ ho))
    unfold wpList at h
    unfold wpListIn
    split
    · rename_i hw
      rw [if_pos hw] at h
      rcases h with h | h
      · exact Oper.wpIn_mono (fun a' w' h' => ih a' w' h') (wp_round (hd o List.mem_cons_self) h)
      · exact absurd h.2 hQ
    · rename_i hw
      rw [if_neg hw] at h
      exact ⟨fun f _ => trivial, ih _ _ h⟩
/-- Halts a walk in a round ahead of a load of a certain type. -/
theorem stop_loadI (t : TypeId) {P : Program} {F : Fence} {n : Nat} {w : World} {ops : Array Oper} {rest : List Oper} {a : Act} {Q : Exit → Act → World → Prop} {d : Option Tmp} {x : Operand} {ty : TypeId} {pos : String} {af : Array Edge} {g : Option (Nat × Bool)}
    (h : Stop (wpListIn F n P ops Q (⟨d, .load t x, ty, pos, af, g⟩ :: rest) a w)) : wpListIn F n P ops Q (⟨d, .load t x, ty, pos, af, g⟩ :: rest) a w := h
/-- Two results that lie in cells. -/
theorem results_cells2 {P : Program} {fn : Func} {p q : Tmp} {t1 t2 : TypeId} (h : fn.results = #[.cell p t1, .cell q t2]) (tmps : Array Value) (w : World) (a b : Addr) (u v : Value) (d1 d2 : TypeDesc)
    (hp : tmps.getD p undef = .pointer (some a)) (hq : tmps.getD q undef = .pointer (some b)) (h1 : P.underlying t1 = some d1) (n1 : (match d1 with | .struct _ => false | .array _ _ => false | _ => true) = true)
    (h2 : P.underlying t2 = some d2) (n2 : (match d2 with | .struct _ => false | .array _ _ => false | _ => true) = true) (ha : w.cell? a = some u) (hb : w.cell? b = some v) :
    (results fn tmps).run P w = .ok (.tuple #[u, v]) w := by
  have hp' : tmps[p]?.getD undef = .pointer (some a) := by simpa using hp
  have hq' : tmps[q]?.getD undef = .pointer (some b) := by simpa using hq
  have g1 : (isAgg t1).run P w = .ok false w := by
    unfold isAgg
    rw [Sem.run_bind, run_underlying h1 w]
    cases d1 <;> simp at n1 <;> rfl
  have g2 : (isAgg t2).run P w = .ok false w := by
    unfold isAgg
    rw [Sem.run_bind, run_underlying h2 w]
    cases d2 <;> simp at n2 <;> rfl
  have l1 : (loadVar t1 a).run P w = .ok u w := by
    unfold loadVar
    rw [Sem.run_bind, g1]
    simp [load, Sem.run, ha]
  have l2 : (loadVar t2 b).run P w = .ok v w := by
    unfold loadVar
    rw [Sem.run_bind, g2]
    simp [load, Sem.run, hb]
  simp [results, h, hp', hq', asAddr, l1, l2]

end Go.Proofs.YtmkidihcdljkiaaGreat
