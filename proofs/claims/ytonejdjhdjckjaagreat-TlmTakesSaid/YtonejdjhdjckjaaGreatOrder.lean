/-
  A region that draws its order of evaluation, walked once, in the order of its text: where operations that no edge binds only reckon, or only read what is there, every order comes to the same end.
-/
import Derived.Test.YtonejdjhdjckjaaGreatBase
import Derived.Deep.MidRow
import Derived.RegionTactic
set_option linter.unusedSimpArgs false
set_option linter.unusedVariables false
namespace Go.Proofs.YtonejdjhdjckjaaGreat
open Go.RowKit
namespace Ord

theorem run_bind_str {P : Program} {w : World} {src dst e : TypeId} (hs : P.underlying src = some (.slice e)) (he : P.underlying e = some (.int .u8)) (hd : P.underlying dst = some .string) {B : Nat} {A : Option Addr} {n c : Nat} {l : List UInt8} (h : Rd w B 1 A n c (bv l)) :
    ((do let v ← convert src dst (.slice A n c); pure (Next.value v) : Sem Next)).run P w = .ok (.value (.string ⟨l.toArray⟩)) w := by
  simp only [Sem.run_bind, run_str w src dst e hs he hd h, Result.andThen_ok, Sem.run_pure]

theorem run_bind_of' {P : Program} {α β : Type} {s : Sem α} {f : α → Sem β} {w w1 : World} {a : α} (h : s.run P w = .ok a w1) : (s >>= f).run P w = (f a).run P w1 := by
  rw [Sem.run_bind, h]; rfl

/-- No other way out. -/
def QF : Exit → Act → World → Prop := fun _ _ _ => False

/-- Kinds: 0 reckons alone; 1 reads alone, of what S tells; 3 reads alone, of what lies there by now (its slot is among F); 2 whatever. -/
def kindOf (P : Program) (F : List Tmp) (o : Oper) : Nat :=
  let rd := match o.dst with
    | some d => if F.contains d then 3 else 1
    | none => 1
  match o.op with
  | .move _ | .assign _ | .pick .. | .binOp .. | .unOp .. | .slice .. | .indexAddr .. | .extract .. | .field .. | .fieldAddr .. | .makeInterface .. | .nilCheck _ | .index .. | .build .. => 0
  | .convert s d _ => match P.underlying s, P.underlying d with
    | some (.int _), some (.int _) => 0
    | some .string, some (.slice _) => 2
    | _, _ => rd
  | .load .. => rd
  | .call c => match c.callee with
    | .builtin .len | .builtin .cap => 0
    | _ => 2
  | _ => 2

/-- Must it let stand what was there? A store need not; nor append; nor a call whose slot is among F. -/
def grows (G : Bool) (F : List Tmp) (o : Oper) : Bool :=
  match o.op with
  | .store .. => false
  | .call c => match c.callee with
    | .builtin .append => false
    | _ => G && (match o.dst with
      | some d => !F.contains d
      | none => true)
  | _ => G

/-- The operation yields v here, and wherever memory has only grown. -/
def Stays (P : Program) (o : Oper) (v : Value) (a : Act) (w : World) : Prop :=
  ∀ w2, Below w.heap.size w w2 → (execOp a.eval o).run P w2 = .ok (.value v) w2
/-- What the region names of the world, and asks of each operation. -/
structure Cfg where
  S : World → Prop
  G : Bool
  F : List Tmp

/-- The operations l, one behind the other; what each leaves. -/
def wpE (P : Program) (ops : Array Oper) (G : Cfg) (R : Act → World → Prop) : List Oper → Act → World → Prop
  | [], a, w => R a w
  | o :: r, a, w =>
    if Region.wanted o (yielded ops a.tmps) = true then
      if kindOf P G.F o = 0 then ∃ v, (∀ w2, (execOp a.eval o).run P w2 = .ok (.value v) w2) ∧ wpE P ops G R r (a.put o.dst v) w
      else if kindOf P G.F o = 1 then ∃ v, (∀ w2, G.S w2 → (execOp a.eval o).run P w2 = .ok (.value v) w2) ∧ wpE P ops G R r (a.put o.dst v) w
      else if kindOf P G.F o = 3 then ∃ v, Stays P o v a w ∧ wpE P ops G R r (a.put o.dst v) w
      else o.wp P a w (fun a' w' => (G.S w' ∧ (grows G.G G.F o = true → Below w.heap.size w w')) ∧ wpE P ops G R r a' w') QF
    else wpE P ops G R r (a.put o.dst undef) w

section
variable {P : Program} {ops : Array Oper} {G : Cfg} {R : Act → World → Prop}

theorem upon_imp {o : Oper} {a : Act} {K K' : Act → World → Prop} {Q : Exit → Act → World → Prop} (h : ∀ a w, K a w → K' a w) (r : Result Next) (hh : o.upon P a K QF r) : o.upon P a K' Q r := by
  cases r with
  | ok n w' =>
    cases n <;> simp only [Oper.upon] at hh ⊢ <;>
      first
        | exact h _ _ hh
        | exact hh.elim
        | exact Calls.mono hh (fun e w'' he => by
            cases e with
            | returned v => exact h _ _ he
            | panicked c => exact he.elim
            | outgrown => obtain ⟨_, _, he⟩ := he; exact he.elim)
        | exact Rows.mono hh (fun _ _ he => h _ _ he)
  | halt x w' => cases x <;> simp only [Oper.upon] at hh ⊢ <;> exact hh.elim
theorem wp_imp {o : Oper} {a : Act} {w : World} {K K' : Act → World → Prop} {Q : Exit → Act → World → Prop} (h : ∀ a w, K a w → K' a w) (hh : o.wp P a w K QF) : o.wp P a w K' Q := upon_imp h _ hh

/-- What an operation makes of a frame. -/
def Fm (o : Oper) (a a' : Act) : Prop := ∃ d u, a' = Act.put { a with defers := d } o.dst u

theorem wp_put {oi oj : Oper} {v : Value} (hap : oi.apart ops oj = true) (hsj : ∀ cs b, oj.op ≠ .select cs b) {K : Act → World → Prop} {a : Act} {w : World}
    (h : oj.wp P (a.put oi.dst v) w K QF) : oj.wp P a w (fun a' w' => Fm oj a a' ∧ K (a'.put oi.dst v) w') QF := by
  obtain ⟨h1, h2, h3⟩ := Oper.apart_spec hap
  unfold Oper.wp at *
  rw [execOp_put oj hsj a oi.dst v h1] at h
  generalize (execOp a.eval oj).run P w = r at *
  have hf : ∀ (u : Value), Fm oj a (a.put oj.dst u) := fun u => ⟨a.defers, u, rfl⟩
  cases r with
  | ok n w' =>
    cases n <;> simp only [Oper.upon] at h ⊢
    case value u => exact ⟨hf u, by rw [← Act.put_comm a v u h2]; exact h⟩
    case skip => exact ⟨hf _, by rw [← Act.put_comm a v undef h2]; exact h⟩
    case defer d =>
      refine ⟨⟨_, _, rfl⟩, ?_⟩
      rw [← Act.put_comm _ v undef h2, ← Act.put_defers]
      exact h
    case enter f args =>
      refine Calls.mono h fun e w'' he => ?_
      cases e with
      | returned u => exact ⟨hf u, by rw [← Act.put_comm a v u h2]; exact he⟩
      | panicked c => exact he
      | outgrown => exact he
    case row row args => exact Rows.mono h fun u w'' he => ⟨hf u, by rw [← Act.put_comm a v u h2]; exact he⟩
  | halt x w' =>
    cases x <;> simp only [Oper.upon] at h ⊢
    case panic u => exact h

theorem wp_form {o : Oper} (hs : ∀ cs b, o.op ≠ .select cs b) {K : Act → World → Prop} {a : Act} {w : World} (h : o.wp P a w K QF) : o.wp P a w (fun a' w' => Fm o a a' ∧ K a' w') QF := by
  unfold Oper.wp at *
  generalize (execOp a.eval o).run P w = r at *
  cases r with
  | ok n w' =>
    cases n <;> simp only [Oper.upon] at h ⊢
    case value u => exact ⟨⟨a.defers, u, rfl⟩, h⟩
    case skip => exact ⟨⟨a.defers, _, rfl⟩, h⟩
    case defer d => exact ⟨⟨_, _, rfl⟩, h⟩
    case enter f args =>
      refine Calls.mono h fun e w'' he => ?_
      cases e with
      | returned u => exact ⟨⟨a.defers, u, rfl⟩, he⟩
      | panicked c => exact he
      | outgrown => exact he
    case row row args => exact Rows.mono h fun u w'' he => ⟨⟨a.defers, u, rfl⟩, he⟩
  | halt x w' =>
    cases x <;> simp only [Oper.upon] at h ⊢
    case panic u => exact h

theorem wp_ex {o : Oper} {K : Act → World → Prop} {a : Act} {w : World} (h : o.wp P a w K QF) : ∃ a' w', K a' w' := by
  unfold Oper.wp at *
  generalize (execOp a.eval o).run P w = r at *
  cases r with
  | ok n w' =>
    cases n <;> simp only [Oper.upon] at h
    case value u => exact ⟨_, _, h⟩
    case skip => exact ⟨_, _, h⟩
    case defer d => exact ⟨_, _, h⟩
    case enter f args =>
      obtain ⟨e, w'', fr, he, _⟩ := h []
      cases e with
      | returned u => exact ⟨_, _, he⟩
      | panicked c => exact he.elim
      | outgrown => obtain ⟨_, _, he⟩ := he; exact he.elim
    case row row args =>
      obtain ⟨v, w'', he, _⟩ := h { fn := 0, tmps := #[], todo := [], defers := [], mode := .run, kind := .normal } []
      exact ⟨_, _, he⟩
  | halt x w' =>
    cases x <;> simp only [Oper.upon] at h
    case panic u => exact h.elim

theorem wp_putOut {oi oj : Oper} {v : Value} (hap : oi.apart ops oj = true) (hsj : ∀ cs b, oj.op ≠ .select cs b) {K : Act → World → Prop} {a : Act} {w : World}
    (h : oj.wp P a w K QF) : oj.wp P (a.put oi.dst v) w (fun a' w' => ∃ a1, Fm oj a a1 ∧ a' = a1.put oi.dst v ∧ K a1 w') QF := by
  obtain ⟨h1, h2, h3⟩ := Oper.apart_spec hap
  unfold Oper.wp at *
  rw [execOp_put oj hsj a oi.dst v h1]
  generalize (execOp a.eval oj).run P w = r at *
  cases r with
  | ok n w' =>
    cases n <;> simp only [Oper.upon] at h ⊢
    case value u => exact ⟨_, ⟨a.defers, u, rfl⟩, Act.put_comm a v u h2, h⟩
    case skip => exact ⟨_, ⟨a.defers, _, rfl⟩, Act.put_comm a v undef h2, h⟩
    case defer d =>
      refine ⟨_, ⟨d :: a.defers, undef, rfl⟩, ?_, h⟩
      rw [Act.put_defers, Act.put_comm _ v undef h2]
    case enter f args =>
      refine Calls.mono h fun e w'' he => ?_
      cases e with
      | returned u => exact ⟨_, ⟨a.defers, u, rfl⟩, Act.put_comm a v u h2, he⟩
      | panicked c => exact he
      | outgrown => exact he
    case row row args => exact Rows.mono h fun u w'' he => ⟨_, ⟨a.defers, u, rfl⟩, Act.put_comm a v u h2, he⟩
  | halt x w' =>
    cases x <;> simp only [Oper.upon] at h ⊢
    case panic u => exact h

/-- An operation apart from another sees the same frame before it and behind it. -/
theorem same_put {oi oj : Oper} (hap : oi.apart ops oj = true) (hsj : ∀ cs b, oj.op ≠ .select cs b) (a : Act) (v : Value) :
    execOp (a.put oi.dst v).eval oj = execOp a.eval oj ∧ Region.wanted oj (yielded ops (a.put oi.dst v).tmps) = Region.wanted oj (yielded ops a.tmps) := by
  obtain ⟨h1, _, _⟩ := Oper.apart_spec hap
  exact ⟨execOp_put oj hsj a oi.dst v h1, wanted_put oj a oi.dst v h1⟩
theorem same_fm {oi oj : Oper} (hap : oi.apart ops oj = true) (hsj : ∀ cs b, oj.op ≠ .select cs b) {a a' : Act} (hf : Fm oi a a') :
    execOp a'.eval oj = execOp a.eval oj ∧ Region.wanted oj (yielded ops a'.tmps) = Region.wanted oj (yielded ops a.tmps) := by
  obtain ⟨d, u, rfl⟩ := hf
  have := same_put (a := { a with defers := d }) hap hsj u
  exact ⟨this.1, this.2⟩

theorem Stays.at_ {o : Oper} {v : Value} {a : Act} {w w' : World} (h : Stays P o v a w) (hb : Below w.heap.size w w') : Stays P o v a w' := fun w2 h2 => h w2 (bnx hb h2)

/-- May j (ahead) and i (behind) change places? -/
def commK (kj ki : Nat) (gi : Bool) : Bool :=
  kj == 0 || ki == 0 || kj == 1 || ki == 1 || (kj == 3 && (ki == 3 || gi))
def comm (P : Program) (ops : Array Oper) (G : Bool) (F : List Tmp) (oj oi : Oper) : Bool :=
  oj.apart ops oi && oi.apart ops oj && commK (kindOf P F oj) (kindOf P F oi) (grows G F oi)
theorem kind_lt (P : Program) (F : List Tmp) (o : Oper) : kindOf P F o = 0 ∨ kindOf P F o = 1 ∨ kindOf P F o = 2 ∨ kindOf P F o = 3 := by
  have hrd : ∀ (d : Option Tmp), (match d with | some d => if F.contains d then 3 else 1 | none => 1) = 1 ∨ (match d with | some d => if F.contains d then 3 else 1 | none => 1) = 3 := by
    intro d
    cases d with
    | none => exact .inl rfl
    | some d => by_cases h : F.contains d = true <;> simp only [h, if_true, Bool.false_eq_true, if_false] <;> simp
  obtain ⟨d, op, ty, pos, af, g⟩ := o
  rcases hrd d with h | h
  all_goals
    cases op <;> simp only [kindOf, h] <;> first | (simp; done) | skip
    case convert s d x => split <;> simp
    case call c =>
      obtain ⟨ce, ar, ts⟩ := c
      cases ce with
      | builtin b => cases b <;> simp
      | _ => simp

/-- One operation's step, whatever its kind, as one predicate: 'quiet' (it yields v, the world stays) or 'loud'. -/
def Ev (P : Program) (G : Cfg) (o : Oper) (v : Value) (a : Act) (w : World) : Prop :=
  (kindOf P G.F o = 0 ∧ ∀ w2, (execOp a.eval o).run P w2 = .ok (.value v) w2) ∨ (kindOf P G.F o = 1 ∧ ∀ w2, G.S w2 → (execOp a.eval o).run P w2 = .ok (.value v) w2) ∨ (kindOf P G.F o = 3 ∧ Stays P o v a w)
theorem quiet_iff {o : Oper} {r : List Oper} {a : Act} {w : World} (hw : Region.wanted o (yielded ops a.tmps) = true) (hk : kindOf P G.F o ≠ 2) :
    wpE P ops G R (o :: r) a w ↔ ∃ v, Ev P G o v a w ∧ wpE P ops G R r (a.put o.dst v) w := by
  rw [wpE, if_pos hw]
  rcases kind_lt P G.F o with h | h | h | h
  · rw [if_pos h]
    exact ⟨fun ⟨v, h1, h2⟩ => ⟨v, .inl ⟨h, h1⟩, h2⟩, fun ⟨v, h1, h2⟩ => ⟨v, by rcases h1 with ⟨_, h1⟩ | ⟨h', _⟩ | ⟨h', _⟩ <;> first | exact h1 | omega, h2⟩⟩
  · rw [if_neg (by omega), if_pos h]
    exact ⟨fun ⟨v, h1, h2⟩ => ⟨v, .inr (.inl ⟨h, h1⟩), h2⟩, fun ⟨v, h1, h2⟩ => ⟨v, by rcases h1 with ⟨h', _⟩ | ⟨_, h1⟩ | ⟨h', _⟩ <;> first | exact h1 | omega, h2⟩⟩
  · exact absurd h hk
  · rw [if_neg (by omega), if_neg (by omega), if_pos h]
    exact ⟨fun ⟨v, h1, h2⟩ => ⟨v, .inr (.inr ⟨h, h1⟩), h2⟩, fun ⟨v, h1, h2⟩ => ⟨v, by rcases h1 with ⟨h', _⟩ | ⟨h', _⟩ | ⟨_, h1⟩ <;> first | exact h1 | omega, h2⟩⟩
theorem loud_iff {o : Oper} {r : List Oper} {a : Act} {w : World} (hw : Region.wanted o (yielded ops a.tmps) = true) (hk : kindOf P G.F o = 2) :
    wpE P ops G R (o :: r) a w ↔ o.wp P a w (fun a' w' => (G.S w' ∧ (grows G.G G.F o = true → Below w.heap.size w w')) ∧ wpE P ops G R r a' w') QF := by
  rw [wpE, if_pos hw, if_neg (by omega), if_neg (by omega), if_neg (by omega)]
theorem skip_iff {o : Oper} {r : List Oper} {a : Act} {w : World} (hw : ¬ Region.wanted o (yielded ops a.tmps) = true) :
    wpE P ops G R (o :: r) a w ↔ wpE P ops G R r (a.put o.dst undef) w := by rw [wpE, if_neg hw]
theorem wpE_mono {l l' : List Oper} (h : ∀ a w, G.S w → wpE P ops G R l a w → wpE P ops G R l' a w) (o : Oper) (a : Act) (w : World) (hS : G.S w) (hh : wpE P ops G R (o :: l) a w) : wpE P ops G R (o :: l') a w := by
  by_cases hw : Region.wanted o (yielded ops a.tmps) = true
  · by_cases hk : kindOf P G.F o = 2
    · rw [loud_iff hw hk] at hh ⊢
      exact wp_imp (fun a' w' hx => ⟨hx.1, h _ _ hx.1.1 hx.2⟩) hh
    · rw [quiet_iff hw hk] at hh ⊢
      obtain ⟨v, h1, h2⟩ := hh
      exact ⟨v, h1, h _ _ hS h2⟩
  · rw [skip_iff hw] at hh ⊢
    exact h _ _ hS hh
theorem Ev.same {o : Oper} {v : Value} {a a' : Act} {w : World} (h : Ev P G o v a w) (he : execOp a'.eval o = execOp a.eval o) : Ev P G o v a' w := by
  unfold Ev Stays at *
  rw [he]
  exact h
/-- Behind an operation that lets what was there stand (or where it hangs on S alone) the evidence holds still. -/
theorem Ev.later {o : Oper} {v : Value} {a : Act} {w w' : World} (h : Ev P G o v a w) (hb : kindOf P G.F o = 3 → Below w.heap.size w w') : Ev P G o v a w' := by
  rcases h with h | h | ⟨h1, h2⟩
  · exact .inl h
  · exact .inr (.inl h)
  · exact .inr (.inr ⟨h1, fun w2 h3 => h2 w2 (bnx (hb h1) h3)⟩)
/-- .. and ahead of it, where it hangs on nothing, or on S. -/
theorem Ev.any {o : Oper} {v : Value} {a : Act} {w w' : World} (h : Ev P G o v a w) (hk : kindOf P G.F o ≠ 3) : Ev P G o v a w' := by
  rcases h with h | h | ⟨h1, _⟩
  · exact .inl h
  · exact .inr (.inl h)
  · exact absurd h1 hk
theorem Ev.run {o : Oper} {v : Value} {a : Act} {w : World} (h : Ev P G o v a w) (hS : G.S w) : (execOp a.eval o).run P w = .ok (.value v) w := by
  rcases h with ⟨_, h⟩ | ⟨_, h⟩ | ⟨_, h⟩
  · exact h w
  · exact h w hS
  · exact h w (Below.refl _ _)
theorem Ev.det {o : Oper} {v v' : Value} {a : Act} {w : World} (h : Ev P G o v a w) (h' : Ev P G o v' a w) (hS : G.S w) : v' = v := by
  have e := h'.run hS
  rw [h.run hS] at e
  injection e with e _
  injection e with e
  exact e.symm

theorem swap_ {oj oi : Oper} {r : List Oper} {a : Act} {w : World} (hc : comm P ops G.G G.F oj oi = true) (hsj : ∀ cs b, oj.op ≠ .select cs b) (hsi : ∀ cs b, oi.op ≠ .select cs b) (hS : G.S w)
    (h : wpE P ops G R (oj :: oi :: r) a w) : wpE P ops G R (oi :: oj :: r) a w := by
  simp only [comm, Bool.and_eq_true] at hc
  obtain ⟨⟨hji, hij⟩, hk⟩ := hc
  simp only [commK, Bool.or_eq_true, Bool.and_eq_true, beq_iff_eq] at hk
  obtain ⟨_, hne, _⟩ := Oper.apart_spec hij
  -- what j, i see of the frame before and behind the other
  have ji := fun v => same_put hji hsi a v
  have ij := fun v => same_put hij hsj a v
  by_cases hwj : Region.wanted oj (yielded ops a.tmps) = true
  case neg =>
    rw [skip_iff hwj] at h
    by_cases hwi : Region.wanted oi (yielded ops a.tmps) = true
    case neg =>
      rw [skip_iff (by rw [(ji undef).2]; exact hwi)] at h
      rw [skip_iff hwi, skip_iff (by rw [(ij undef).2]; exact hwj), Act.put_comm a undef undef hne]
      exact h
    case pos =>
      by_cases hi2 : kindOf P G.F oi = 2
      · rw [loud_iff (by rw [(ji undef).2]; exact hwi) hi2] at h
        rw [loud_iff hwi hi2]
        refine wp_imp ?_ (wp_put hji hsi h)
        rintro a' w' ⟨hf, h1, h2⟩
        refine ⟨h1, ?_⟩
        rw [skip_iff (by rw [(same_fm hij hsj hf).2]; exact hwj)]
        exact h2
      · rw [quiet_iff (by rw [(ji undef).2]; exact hwi) hi2] at h
        obtain ⟨v, h1, h2⟩ := h
        rw [quiet_iff hwi hi2]
        refine ⟨v, h1.same (ji undef).1.symm, ?_⟩
        rw [skip_iff (by rw [(ij v).2]; exact hwj), Act.put_comm a v undef hne]
        exact h2
  case pos =>
    by_cases hwi : Region.wanted oi (yielded ops a.tmps) = true
    case neg =>
      rw [skip_iff hwi]
      by_cases hj2 : kindOf P G.F oj = 2
      · rw [loud_iff hwj hj2] at h
        rw [loud_iff (by rw [(ij undef).2]; exact hwj) hj2]
        refine wp_imp ?_ (wp_putOut hij hsj h)
        rintro a' w' ⟨a1, hf, rfl, h1, h2⟩
        refine ⟨h1, ?_⟩
        rw [skip_iff (by rw [(same_fm hji hsi hf).2]; exact hwi)] at h2
        exact h2
      · rw [quiet_iff hwj hj2] at h
        obtain ⟨v, h1, h2⟩ := h
        rw [quiet_iff (by rw [(ij undef).2]; exact hwj) hj2]
        refine ⟨v, h1.same (ij undef).1, ?_⟩
        rw [skip_iff (by rw [(ji v).2]; exact hwi)] at h2
        rw [Act.put_comm a undef v hne]
        exact h2
    case pos =>
      by_cases hj2 : kindOf P G.F oj = 2
      · -- j is loud: i hangs on nothing, or on S
        rw [loud_iff hwj hj2] at h
        have hi3 : kindOf P G.F oi ≠ 3 := by
          rcases hk with (((h' | h') | h') | h') | h' <;> omega
        have hi2 : kindOf P G.F oi ≠ 2 := by
          rcases hk with (((h' | h') | h') | h') | h' <;> omega
        obtain ⟨a1, w1, hf1, ⟨hS1, _⟩, h1⟩ := wp_ex (wp_form hsj h)
        have hs1 := same_fm hji hsi hf1
        rw [quiet_iff (by rw [hs1.2]; exact hwi) hi2] at h1
        obtain ⟨u, h3, _⟩ := h1
        have h3' : Ev P G oi u a w := (h3.same hs1.1.symm).any hi3
        rw [quiet_iff hwi hi2]
        refine ⟨u, h3', ?_⟩
        rw [loud_iff (by rw [(ij u).2]; exact hwj) hj2]
        refine wp_imp ?_ (wp_putOut hij hsj h)
        rintro a' w' ⟨a2, hf2, rfl, h4, h5⟩
        refine ⟨h4, ?_⟩
        have hs2 := same_fm hji hsi hf2
        rw [quiet_iff (by rw [hs2.2]; exact hwi) hi2] at h5
        obtain ⟨u', h6, h7⟩ := h5
        have e : u' = u := (h3'.any hi3).det (h6.same hs2.1.symm) h4.1
        rw [e] at h7
        exact h7
      · rw [quiet_iff hwj hj2] at h
        obtain ⟨v, hv, h2⟩ := h
        by_cases hi2 : kindOf P G.F oi = 2
        · rw [loud_iff (by rw [(ji v).2]; exact hwi) hi2] at h2
          rw [loud_iff hwi hi2]
          refine wp_imp ?_ (wp_put hji hsi h2)
          rintro a' w' ⟨hf, h3, h4⟩
          refine ⟨h3, ?_⟩
          have hs' := same_fm hij hsj hf
          rw [quiet_iff (by rw [hs'.2]; exact hwj) hj2]
          refine ⟨v, (hv.same hs'.1).later fun h3k => h3.2 ?_, h4⟩
          rcases hk with (((h' | h') | h') | h') | h'
          · omega
          · omega
          · omega
          · omega
          · rcases h'.2 with h'' | h''
            · omega
            · exact h''
        · rw [quiet_iff (by rw [(ji v).2]; exact hwi) hi2] at h2
          obtain ⟨u, h3, h4⟩ := h2
          rw [quiet_iff hwi hi2]
          refine ⟨u, h3.same (ji v).1.symm, ?_⟩
          rw [quiet_iff (by rw [(ij u).2]; exact hwj) hj2]
          exact ⟨v, hv.same (ij u).1, by rw [Act.put_comm a u v hne]; exact h4⟩

theorem head_ {i : Nat} {o : Oper} {r : List Oper} {a : Act} {w : World} {Q : Exit → Act → World → Prop} (hi : ops[i]? = some o) (hS : G.S w) (h : wpE P ops G R (o :: r) a w) : wpOp P ops Q i (fun a' w' => G.S w' ∧ wpE P ops G R r a' w') a w := by
  unfold wpOp
  simp only [hi]
  split
  · rename_i hw
    refine .inl ?_
    by_cases hk : kindOf P G.F o = 2
    · rw [loud_iff hw hk] at h
      exact wp_imp (fun _ _ hx => ⟨hx.1.1, hx.2⟩) h
    · rw [quiet_iff hw hk] at h
      obtain ⟨v, h1, h2⟩ := h
      rw [Oper.wp, h1.run hS]
      exact ⟨hS, h2⟩
  · rename_i hw
    rw [skip_iff hw] at h
    exact ⟨hS, h⟩

/-- The operations of a list of places. -/
def lst (ops : Array Oper) (L : List Nat) : List Oper := L.filterMap fun i => ops[i]?
theorem lst_cons {i : Nat} {o : Oper} {L : List Nat} (h : ops[i]? = some o) : lst ops (i :: L) = o :: lst ops L := by simp [lst, h]

def commI (P : Program) (ops : Array Oper) (G : Bool) (F : List Tmp) (j i : Nat) : Bool :=
  match ops[j]?, ops[i]? with
  | some oj, some oi => comm P ops G F oj oi
  | _, _ => false
theorem commI_spec {b : Bool} {F : List Tmp} {j i : Nat} (h : commI P ops b F j i = true) : ∃ oj oi, ops[j]? = some oj ∧ ops[i]? = some oi ∧ comm P ops b F oj oi = true := by
  unfold commI at h
  split at h
  · rename_i oj oi h1 h2; exact ⟨oj, oi, h1, h2, h⟩
  · cases h

theorem move_ (hN : Region.noSelect ops = true) {i : Nat} {s : List Nat} : ∀ (p : List Nat), (∀ j ∈ p, commI P ops G.G G.F j i = true) → ∀ a w, G.S w → wpE P ops G R (lst ops (p ++ i :: s)) a w → wpE P ops G R (lst ops (i :: (p ++ s))) a w
  | [], _, _, _, _, h => h
  | j :: p, hp, a, w, hS, h => by
    obtain ⟨oj, oi, h1, h2, hc⟩ := commI_spec (hp j List.mem_cons_self)
    have ih := move_ hN (s := s) p (fun k hk => hp k (List.mem_cons_of_mem _ hk))
    rw [List.cons_append, lst_cons h1] at h
    have h' := wpE_mono ih oj a w hS h
    rw [lst_cons h2] at h'
    rw [lst_cons h2, List.cons_append, lst_cons h1]
    exact swap_ hc (Region.noSelect_spec hN j oj · · h1) (Region.noSelect_spec hN i oi · · h2) hS h'

/-! ### What each operation waits for -/
def step (M : List Nat) (s : Nat) (e : Edge) : Nat := if Region.binds .any e then s ||| 2 ^ e.on ||| M.getD e.on 0 else s
def masks (ops : Array Oper) : List Nat := ops.toList.foldl (fun M o => M ++ [o.after.toList.foldl (step M) 0]) []
def okMasks (ops : Array Oper) (M : List Nat) : Bool :=
  (List.range ops.size).all fun i => match ops[i]? with
    | none => false
    | some o => (M.getD i 0 == o.after.toList.foldl (step M) 0) && o.after.toList.all fun e => !Region.binds .any e || decide (e.on < i)
theorem fold_spec (M : List Nat) (j : Nat) : ∀ (l : List Edge) (s : Nat), (l.foldl (step M) s).testBit j = true → s.testBit j = true ∨ ∃ e ∈ l, Region.binds .any e = true ∧ (e.on = j ∨ (M.getD e.on 0).testBit j = true)
  | [], s, h => .inl h
  | e :: l, s, h => by
    rw [List.foldl_cons] at h
    rcases fold_spec M j l _ h with h1 | ⟨e', he, h2⟩
    · unfold step at h1
      split at h1
      · rename_i hb
        rw [Nat.testBit_or, Nat.testBit_or, Bool.or_eq_true, Bool.or_eq_true] at h1
        rcases h1 with (h1 | h1) | h1
        · exact .inl h1
        · rw [Nat.testBit_two_pow] at h1
          exact .inr ⟨e, List.mem_cons_self, hb, .inl (by simpa using h1)⟩
        · exact .inr ⟨e, List.mem_cons_self, hb, .inr h1⟩
      · exact .inl h1
    · exact .inr ⟨e', List.mem_cons_of_mem _ he, h2⟩

/-- What is listed has all that it waits for listed. -/
def Closed (ops : Array Oper) (listed : Array Bool) : Prop := ∀ k o, ops[k]? = some o → listed.getD k true = true → ∀ e ∈ o.after, Region.binds .any e = true → listed.getD e.on false = true
theorem getD_tf {listed : Array Bool} {i : Nat} (h : listed.getD i false = true) : listed.getD i true = true := by
  rcases Nat.lt_or_ge i listed.size with h' | h'
  · simpa [h'] using h
  · simp [Array.getElem?_eq_none h'] at h
theorem dep_listed {M : List Nat} (hM : okMasks ops M = true) {listed : Array Bool} (hc : Closed ops listed) (n : Nat) : ∀ i, i ≤ n → (∀ o, ops[i]? = some o → ∀ e ∈ o.after, Region.binds .any e = true → listed.getD e.on false = true) → i < ops.size → ∀ j, (M.getD i 0).testBit j = true → listed.getD j false = true := by
  induction n with
  | zero =>
    intro i hi hr hlt j hb
    obtain rfl : i = 0 := by omega
    have h1 := List.all_eq_true.1 hM 0 (List.mem_range.2 hlt)
    cases ho : ops[0]? with
    | none => rw [ho] at h1; cases h1
    | some o =>
      rw [ho] at h1
      simp only [Bool.and_eq_true, beq_iff_eq] at h1
      rw [h1.1] at hb
      rcases fold_spec M j _ _ hb with h2 | ⟨e, he, hbd, h3⟩
      · simp at h2
      · have := List.all_eq_true.1 h1.2 e he
        simp [hbd] at this
  | succ n ih =>
    intro i hi hr hlt j hb
    have h1 := List.all_eq_true.1 hM i (List.mem_range.2 hlt)
    cases ho : ops[i]? with
    | none => rw [ho] at h1; cases h1
    | some o =>
      rw [ho] at h1
      simp only [Bool.and_eq_true, beq_iff_eq] at h1
      rw [h1.1] at hb
      rcases fold_spec M j _ _ hb with h2 | ⟨e, he, hbd, h3⟩
      · simp at h2
      · have hei : e.on < i := by have := List.all_eq_true.1 h1.2 e he; simpa [hbd] using this
        have hl := hr o ho e (by simpa using he) hbd
        rcases h3 with rfl | h3
        · exact hl
        · exact ih e.on (by omega) (fun o' ho' e' he' hb' => hc e.on o' ho' (getD_tf hl) e' he' hb') (by omega) j h3

theorem any_of (hN : Region.noSelect ops = true) {M : List Nat} (hM : okMasks ops M = true) {Q : Exit → Act → World → Prop} : ∀ (n : Nat) (L : List Nat) (listed : Array Bool) (a : Act) (w : World), L.length = n → listed.size = ops.size → (∀ i, i ∈ L ↔ i < ops.size ∧ listed.getD i true = false) →
    L.Pairwise (fun j i => i ≠ j ∧ ((M.getD i 0).testBit j = true ∨ commI P ops G.G G.F j i = true)) → Closed ops listed → G.S w → wpE P ops G (Q .normal) (lst ops L) a w → wpAny P .any ops Q n listed a w := by
  intro n
  induction n with
  | zero =>
    intro L listed a w hn hsz hL hp hc hS h
    obtain rfl : L = [] := List.eq_nil_of_length_eq_zero hn
    refine ⟨?_, h⟩
    cases hr : Region.ready .any ops listed with
    | nil => rfl
    | cons x xs =>
      have hx := mem_ready.1 (by rw [hr]; exact List.mem_cons_self : x ∈ Region.ready .any ops listed)
      obtain ⟨h0, o, ho, _⟩ := hx
      have := (hL x).2 ⟨(Array.getElem?_eq_some_iff.1 ho).1, h0⟩
      cases this
  | succ n ih =>
    intro L listed a w hn hsz hL hp hc hS h
    refine ⟨fun h0 => ?_, fun i hi => ?_⟩
    · -- something is always ready: the first of L
      exfalso
      have hfirst : ∀ m, ∀ i, i < m → i < ops.size → listed.getD i true = false → False := by
        intro m
        induction m with
        | zero => intro i hi; omega
        | succ m ihm =>
          intro i hi hlt hun
          by_cases hall : ∀ o, ops[i]? = some o → ∀ e ∈ o.after, Region.binds .any e = true → listed.getD e.on false = true
          · have : i ∈ Region.ready .any ops listed := mem_ready.2 ⟨hun, ops[i], Array.getElem?_eq_getElem hlt, hall _ (Array.getElem?_eq_getElem hlt)⟩
            rw [h0] at this
            cases this
          · have h1 := List.all_eq_true.1 hM i (List.mem_range.2 hlt)
            rw [Array.getElem?_eq_getElem hlt] at h1
            simp only [Bool.and_eq_true, beq_iff_eq] at h1
            apply hall
            intro o ho e he hb
            rw [Array.getElem?_eq_getElem hlt] at ho
            injection ho with ho
            subst ho
            have hei : e.on < i := by have := List.all_eq_true.1 h1.2 e (by simpa using he); simpa [hb] using this
            cases hge : listed.getD e.on true with
            | false => exact (ihm e.on (by omega) (by omega) hge).elim
            | true =>
              have : e.on < listed.size := by omega
              simpa [this] using hge
      cases L with
      | nil => simp at hn
      | cons x xs =>
        obtain ⟨hx1, hx2⟩ := (hL x).1 List.mem_cons_self
        exact hfirst (x + 1) x (by omega) hx1 hx2
    · obtain ⟨h0, o, ho, hall⟩ := mem_ready.1 hi
      have hlt : i < ops.size := (Array.getElem?_eq_some_iff.1 ho).1
      obtain ⟨p, s, rfl⟩ := List.append_of_mem ((hL i).2 ⟨hlt, h0⟩)
      have hpa := List.pairwise_append.1 hp
      have hps : (p ++ s).Pairwise (fun j i => i ≠ j ∧ ((M.getD i 0).testBit j = true ∨ commI P ops G.G G.F j i = true)) :=
        hp.sublist ((List.Sublist.refl p).append (List.sublist_cons_self i s))
      have hcm : ∀ j ∈ p, commI P ops G.G G.F j i = true := fun j hj => by
        rcases (hpa.2.2 j hj i List.mem_cons_self).2 with h1 | h1
        · have := dep_listed hM hc i i (Nat.le_refl _) (fun o' ho' => by rw [ho] at ho'; injection ho' with ho'; subst ho'; exact hall) hlt j h1
          have hun := ((hL j).1 (List.mem_append_left _ hj)).2
          rw [getD_tf this] at hun
          cases hun
        · exact h1
      have h' := move_ hN p hcm a w hS h
      rw [lst_cons ho] at h'
      refine wpOp_mono (fun a' w' hx => ih (p ++ s) (listed.setIfInBounds i true) a' w' ?_ (by simpa using hsz) ?_ hps ?_ hx.1 hx.2) (head_ ho hS h')
      · simp at hn ⊢; omega
      · intro k
        by_cases hik : i = k
        · subst hik
          have hnp : i ∉ p := fun hm => (hpa.2.2 i hm i List.mem_cons_self).1 rfl
          have hns : i ∉ s := fun hm => ((List.pairwise_cons.1 hpa.2.1).1 i hm).1 rfl
          have hls : i < listed.size := by omega
          simp [hnp, hns, hls]
        · rw [getD_set_ne true hik, ← hL k]
          simp [Ne.symm hik]
      · intro k ok hk hl e he hb
        by_cases hik : i = k
        · subst hik
          rw [ho] at hk
          injection hk with hk
          subst hk
          exact getD_set_true (hall e he hb)
        · rw [getD_set_ne true hik] at hl
          exact getD_set_true (hc k ok hk hl e he hb)

def pairB (P : Program) (ops : Array Oper) (G : Bool) (F : List Tmp) (M : List Nat) : List Nat → Bool
  | [] => true
  | j :: r => r.all (fun i => i != j && ((M.getD i 0).testBit j || commI P ops G F j i)) && pairB P ops G F M r
theorem pairB_spec {b : Bool} {F : List Tmp} {M : List Nat} : ∀ {L : List Nat}, pairB P ops b F M L = true → L.Pairwise (fun j i => i ≠ j ∧ ((M.getD i 0).testBit j = true ∨ commI P ops b F j i = true))
  | [], _ => List.Pairwise.nil
  | j :: r, h => by
    simp only [pairB, Bool.and_eq_true] at h
    refine List.Pairwise.cons (fun i hi => ?_) (pairB_spec h.2)
    have := List.all_eq_true.1 h.1 i hi
    simpa using this
/-- The order L serves for every order that the edges allow. -/
def chk (P : Program) (ops : Array Oper) (G : Bool) (F : List Tmp) (L : List Nat) : Bool :=
  Region.noSelect ops && okMasks ops (masks ops) && pairB P ops G F (masks ops) L && (List.range ops.size).all (fun i => L.contains i) && L.all (fun i => decide (i < ops.size)) && L.length == ops.size

theorem any_at {l l0 : List Oper} {a : Act} {w : World} {Q : Exit → Act → World → Prop} (L : List Nat) (S : World → Prop) (G : Bool) (F : List Tmp) (hc : chk P l.toArray G F L = true) (hl : lst l.toArray L = l0) (hS : S w)
    (h : wpE P l.toArray ⟨S, G, F⟩ (Q .normal) l0 a w) : wpAny P .any l.toArray Q l.toArray.size (Array.replicate l.toArray.size false) a w := by
  subst hl
  simp only [chk, Bool.and_eq_true, beq_iff_eq] at hc
  obtain ⟨⟨⟨⟨⟨h1, h2⟩, h3⟩, h4⟩, h5⟩, h6⟩ := hc
  rw [← h6]
  refine any_of (G := ⟨S, G, F⟩) h1 h2 _ L _ a _ rfl (by rw [Array.size_replicate]; exact h6) (fun i => ?_) (pairB_spec h3) (fun k o hk hl => ?_) hS h
  · constructor
    · intro hi
      have := List.all_eq_true.1 h5 i hi
      simp at this
      simp [h6, this]
    · rintro ⟨hi, _⟩
      have := List.all_eq_true.1 h4 i (List.mem_range.2 hi)
      simpa using this
  · obtain ⟨hk', _⟩ := Array.getElem?_eq_some_iff.1 hk
    rw [← h6] at hk'
    simp [hk'] at hl
theorem region_at {id : Nat} {l l0 : List Oper} {a : Act} {w : World} {Q : Exit → Act → World → Prop} (L : List Nat) (S : World → Prop) (G : Bool) (F : List Tmp) (hm : P.follows .mixedOrders = true) (hc : chk P l.toArray G F L = true) (hl : lst l.toArray L = l0) (hS : S w.drew)
    (h : wpE P l.toArray ⟨S, G, F⟩ (Q .normal) l0 a w.drew) : (Code.region id l.toArray true).wp P Q a w :=
  wp_region_any hm (any_at L S G F hc hl hS h)
theorem lst_all : ∀ (l : List Oper), lst l.toArray (List.range l.length) = l := by
  intro l
  apply List.ext_getElem?
  intro i
  have : lst l.toArray (List.range l.length) = (List.range l.length).filterMap (fun i => l[i]?) := by simp [lst]
  rw [this]
  have e : ∀ (k : Nat), k ≤ l.length → (List.range k).filterMap (fun i => l[i]?) = l.take k := by
    intro k
    induction k with
    | zero => intro _; simp
    | succ k ih =>
      intro hk
      rw [List.range_succ, List.filterMap_append, ih (by omega), List.take_add_one]
      simp [List.getElem?_eq_getElem (show k < l.length by omega)]
  rw [e _ (Nat.le_refl _), List.take_length]
/-- In the order of the text. -/
theorem region_ {id : Nat} {l : List Oper} {a : Act} {w : World} {Q : Exit → Act → World → Prop} (S : World → Prop) (G : Bool) (F : List Tmp) (hm : P.follows .mixedOrders = true) (hc : chk P l.toArray G F (List.range l.length) = true) (hS : S w.drew)
    (h : wpE P l.toArray ⟨S, G, F⟩ (Q .normal) l a w.drew) : (Code.region id l.toArray true).wp P Q a w := region_at _ S G F hm hc (lst_all l) hS h

/-! ### The steps -/
def isX (P : Program) (o : Oper) : Bool :=
  match o.op with
  | .convert s d _ => match P.underlying s, P.underlying d with
    | some .string, some (.slice _) => true
    | _, _ => false
  | .move _ | .assign _ | .pick .. | .binOp .. | .unOp .. | .slice .. | .indexAddr .. | .extract .. | .field .. | .fieldAddr .. | .makeInterface .. | .nilCheck _ | .index .. | .build .. | .load .. => false
  | .call c => match c.callee with
    | .builtin .len | .builtin .cap => false
    | _ => true
  | _ => true
theorem rd_of (F : List Tmp) (d : Option Tmp) : (match d with | some d => if F.contains d then 3 else 1 | none => 1) = 1 ∨ (match d with | some d => if F.contains d then 3 else 1 | none => 1) = 3 := by
  cases d with
  | none => exact .inl rfl
  | some d => by_cases h : F.contains d = true <;> simp only [h, if_true, Bool.false_eq_true, if_false] <;> simp
theorem kind_of_not {F : List Tmp} {o : Oper} (h : isX P o = false) : kindOf P F o ≠ 2 := by
  obtain ⟨d, op, ty, pos, af, g⟩ := o
  have hrd := rd_of F d
  cases op <;> simp only [isX, kindOf] at h ⊢ <;> first | (simp; done) | omega | (cases h; done) | skip
  case convert s d' x =>
    split at h
    · cases h
    · split <;> first | omega | (simp; done) | (exact (‹∀ elem, P.underlying s = some TypeDesc.string → P.underlying d' = some (TypeDesc.slice elem) → False› _ (by assumption) (by assumption)).elim)
  case call c =>
    obtain ⟨ce, ar, ts⟩ := c
    cases ce with
    | builtin b => cases b <;> simp at h ⊢
    | _ => simp at h
theorem kind_of_x {F : List Tmp} {o : Oper} (h : isX P o = true) : kindOf P F o = 2 := by
  obtain ⟨d, op, ty, pos, af, g⟩ := o
  cases op <;> simp only [isX, kindOf] at h ⊢ <;> first | rfl | (cases h; done) | skip
  case convert s d' x =>
    split at h
    · rename_i e1 e2; simp only [e1, e2]
    · cases h
  case call c =>
    obtain ⟨ce, ar, ts⟩ := c
    cases ce with
    | builtin b => cases b <;> simp at h ⊢
    | _ => simp
theorem kind_load {F : List Tmp} {d : Option Tmp} {x : Operand} {t ty : TypeId} {pos : String} {af : Array Edge} {g : Option (Nat × Bool)} : kindOf P F ⟨d, .load t x, ty, pos, af, g⟩ = 1 ∨ kindOf P F ⟨d, .load t x, ty, pos, af, g⟩ = 3 := by
  have := kind_lt P F ⟨d, .load t x, ty, pos, af, g⟩
  simp only [kindOf]
  cases d with
  | none => exact .inl rfl
  | some d => by_cases h : F.contains d = true <;> simp only [h, if_true, Bool.false_eq_true, if_false] <;> simp
theorem kind_str {F : List Tmp} {d : Option Tmp} {x : Operand} {s t ty : TypeId} {pos : String} {af : Array Edge} {g : Option (Nat × Bool)} {e : TypeId} (hs : P.underlying s = some (.slice e)) : kindOf P F ⟨d, .convert s t x, ty, pos, af, g⟩ = 1 ∨ kindOf P F ⟨d, .convert s t x, ty, pos, af, g⟩ = 3 := by
  simp only [kindOf, hs]
  cases d with
  | none => exact .inl rfl
  | some d => by_cases h : F.contains d = true <;> simp only [h, if_true, Bool.false_eq_true, if_false] <;> simp
variable {r : List Oper} {o : Oper} {a : Act} {w : World}
theorem e_nil (h : R a w) : wpE P ops G R [] a w := h
theorem e_u (hw : Region.wanted o (yielded ops a.tmps) = false) (h : wpE P ops G R r (a.put o.dst undef) w) : wpE P ops G R (o :: r) a w := by
  rw [skip_iff (by rw [hw]; simp)]
  exact h
theorem e_p {v : Value} (hk : isX P o = false) (hw : Region.wanted o (yielded ops a.tmps) = true) (hy : ∀ w2, (execOp a.eval o).run P w2 = .ok (.value v) w2) (h : wpE P ops G R r (a.put o.dst v) w) : wpE P ops G R (o :: r) a w := by
  have hk2 := kind_of_not (P := P) (F := G.F) hk
  rw [quiet_iff hw hk2]
  refine ⟨v, ?_, h⟩
  rcases kind_lt P G.F o with h' | h' | h' | h'
  · exact .inl ⟨h', hy⟩
  · exact .inr (.inl ⟨h', fun w2 _ => hy w2⟩)
  · exact absurd h' hk2
  · exact .inr (.inr ⟨h', fun w2 _ => hy w2⟩)
/-- A read of what lies there by now (its slot is among F), or of what S tells. -/
theorem e_r {v : Value} (hk : kindOf P G.F o = 1 ∨ kindOf P G.F o = 3) (hw : Region.wanted o (yielded ops a.tmps) = true) (hy : (kindOf P G.F o = 3 ∧ Stays P o v a w) ∨ (∀ w2, G.S w2 → (execOp a.eval o).run P w2 = .ok (.value v) w2) ∧ (kindOf P G.F o = 3 → Stays P o v a w)) (h : wpE P ops G R r (a.put o.dst v) w) : wpE P ops G R (o :: r) a w := by
  rw [quiet_iff hw (by omega)]
  refine ⟨v, ?_, h⟩
  rcases hk with hk | hk
  · rcases hy with ⟨h', _⟩ | ⟨h1, _⟩
    · omega
    · exact .inr (.inl ⟨hk, h1⟩)
  · rcases hy with ⟨_, h1⟩ | ⟨_, h1⟩
    · exact .inr (.inr ⟨hk, h1⟩)
    · exact .inr (.inr ⟨hk, h1 hk⟩)
/-- What is left behind an operation of whatever kind. -/
def Seg (P : Program) (ops : Array Oper) (G : Cfg) (R : Act → World → Prop) (o : Oper) (r : List Oper) (w : World) (e : Exit) (a' : Act) (w' : World) : Prop := e = .normal ∧ (G.S w' ∧ (grows G.G G.F o = true → Below w.heap.size w w')) ∧ wpE P ops G R r a' w'
theorem Seg.go {a' : Act} {w' : World} (hS : G.S w') (hb : grows G.G G.F o = true → Below w.heap.size w w') (h : wpE P ops G R r a' w') : Seg P ops G R o r w .normal a' w' := ⟨rfl, ⟨hS, hb⟩, h⟩
theorem e_x (hk : isX P o = true) (hw : Region.wanted o (yielded ops a.tmps) = true) (h : wpList P ops (Seg P ops G R o r w) [o] a w) : wpE P ops G R (o :: r) a w := by
  rw [loud_iff hw (kind_of_x hk)]
  unfold wpList at h
  rw [if_pos hw] at h
  rcases h with h | ⟨_, _, _, h⟩
  · have hq : ∀ (rs : Result Next), o.upon P a (wpList P ops (Seg P ops G R o r w) []) (Seg P ops G R o r w) rs → o.upon P a (fun a' w' => (G.S w' ∧ (grows G.G G.F o = true → Below w.heap.size w w')) ∧ wpE P ops G R r a' w') QF rs := by
      intro rs hh
      cases rs with
      | ok n w' =>
        cases n <;> simp only [Oper.upon] at hh ⊢
        case value u => exact hh.2
        case skip => exact hh.2
        case defer d => exact hh.2
        case enter f args => exact Calls.mono hh (fun e w'' he => by
            cases e with
            | returned v => exact he.2
            | panicked c => exact Exit.noConfusion he.1
            | outgrown => obtain ⟨_, _, he⟩ := he; exact Exit.noConfusion he.1)
        case row row args => exact Rows.mono hh (fun _ _ he => he.2)
      | halt x w' =>
        cases x <;> simp only [Oper.upon] at hh ⊢
        case panic u => exact Exit.noConfusion hh.1
    exact hq _ h
  · exact Exit.noConfusion h.1
/-- string(b), b in memory that this region has made (its slot is among F). -/
theorem e_str {d : Tmp} {x : Operand} {src dst ty e : TypeId} {pos : String} {af : Array Edge} {g : Option (Nat × Bool)} {A : Option Addr} {n c : Nat} {l : List UInt8}
    (hs : P.underlying src = some (.slice e)) (he : P.underlying e = some (.int .u8)) (hd : P.underlying dst = some .string) (h : Rd w w.heap.size 1 A n c (bv l)) (hx : a.eval x = .slice A n c)
    (hF : G.F.contains d = true) (hw : Region.wanted ⟨some d, .convert src dst x, ty, pos, af, g⟩ (yielded ops a.tmps) = true) (hk : wpE P ops G R r (a.put (some d) (.string ⟨l.toArray⟩)) w) : wpE P ops G R (⟨some d, .convert src dst x, ty, pos, af, g⟩ :: r) a w := by
  refine e_r (kind_str hs) hw (.inl ⟨by simp only [kindOf, hs, hF, if_true], fun w2 hb => ?_⟩) hk
  unfold execOp
  simp only [hx]
  rw [run_bind_str hs he hd (h.up hb)]
/-- string(b), b as S tells. -/
theorem e_strS {d : Option Tmp} {x : Operand} {src dst ty e : TypeId} {pos : String} {af : Array Edge} {g : Option (Nat × Bool)} {B : Nat} {A : Option Addr} {n c : Nat} {l : List UInt8}
    (hs : P.underlying src = some (.slice e)) (he : P.underlying e = some (.int .u8)) (hd : P.underlying dst = some .string) (h : ∀ w2, G.S w2 → Rd w2 B 1 A n c (bv l)) (hS : G.S w) (hB : B ≤ w.heap.size) (hx : a.eval x = .slice A n c)
    (hw : Region.wanted ⟨d, .convert src dst x, ty, pos, af, g⟩ (yielded ops a.tmps) = true) (hk : wpE P ops G R r (a.put d (.string ⟨l.toArray⟩)) w) : wpE P ops G R (⟨d, .convert src dst x, ty, pos, af, g⟩ :: r) a w := by
  refine e_r (kind_str hs) hw (.inr ⟨fun w2 hS2 => ?_, fun _ w2 hb => ?_⟩) hk
  · unfold execOp
    simp only [hx]
    rw [run_bind_str hs he hd (h w2 hS2)]
  · unfold execOp
    simp only [hx]
    rw [run_bind_str hs he hd ((h w hS).up (hb.mono hB))]
theorem run_load1 {x : Operand} {t : TypeId} {d : Option Tmp} {ty : TypeId} {pos : String} {af : Array Edge} {g : Option (Nat × Bool)} {ad : Addr} {v : Value} {ds : TypeDesc}
    (ht : P.underlying t = some ds) (hns : (match ds with | .struct _ => false | .array _ _ => false | _ => true) = true) (hx : a.eval x = .pointer (some ad)) {w2 : World} (hc2 : w2.cell? ad = some v) :
    (execOp a.eval ⟨d, .load t x, ty, pos, af, g⟩).run P w2 = .ok (.value v) w2 := by
  have ha : (isAgg t).run P w2 = .ok false w2 := by
    unfold isAgg
    rw [run_bind_of' (run_underlying ht w2)]
    cases ds <;> simp at hns <;> rfl
  unfold execOp
  simp only [hx]
  have hl : (Instr.loadAt t (.pointer (some ad))).run P w2 = .ok v w2 := by
    unfold Instr.loadAt loadVar
    simp only [Instr.sureAddr, Sem.run_bind, Sem.run_pure, Result.andThen_ok, ha]
    simp [load, Sem.run, hc2]
  simp only [Sem.run_bind, hl, Result.andThen_ok, Sem.run_pure]
/-- x = *p, of what S tells. -/
theorem e_loadS {d : Option Tmp} {x : Operand} {t ty : TypeId} {pos : String} {af : Array Edge} {g : Option (Nat × Bool)} {ad : Addr} {v : Value} {ds : TypeDesc}
    (ht : P.underlying t = some ds) (hns : (match ds with | .struct _ => false | .array _ _ => false | _ => true) = true) (hc : ∀ w2, G.S w2 → w2.cell? ad = some v) (hS : G.S w) (hx : a.eval x = .pointer (some ad))
    (hw : Region.wanted ⟨d, .load t x, ty, pos, af, g⟩ (yielded ops a.tmps) = true) (hk : wpE P ops G R r (a.put d v) w) : wpE P ops G R (⟨d, .load t x, ty, pos, af, g⟩ :: r) a w :=
  e_r kind_load hw (.inr ⟨fun w2 hS2 => run_load1 ht hns hx (hc w2 hS2), fun _ w2 hb => run_load1 ht hns hx ((hb.cell (World.block_lt_of_cell? w ad (hc w hS))).trans (hc w hS))⟩) hk
/-- x = *p, p in memory that lies there by now (its slot is among F). -/
theorem e_load {d : Tmp} {x : Operand} {t ty : TypeId} {pos : String} {af : Array Edge} {g : Option (Nat × Bool)} {ad : Addr} {v : Value} {ds : TypeDesc}
    (ht : P.underlying t = some ds) (hns : (match ds with | .struct _ => false | .array _ _ => false | _ => true) = true) (hc : w.cell? ad = some v) (hx : a.eval x = .pointer (some ad))
    (hF : G.F.contains d = true) (hw : Region.wanted ⟨some d, .load t x, ty, pos, af, g⟩ (yielded ops a.tmps) = true) (hk : wpE P ops G R r (a.put (some d) v) w) : wpE P ops G R (⟨some d, .load t x, ty, pos, af, g⟩ :: r) a w :=
  e_r kind_load hw (.inl ⟨by simp only [kindOf, hF, if_true], fun w2 hb => run_load1 ht hns hx ((hb.cell (World.block_lt_of_cell? w ad hc)).trans hc)⟩) hk
theorem run_loadR {x : Operand} {t : TypeId} {d : Option Tmp} {ty : TypeId} {pos : String} {af : Array Edge} {g : Option (Nat × Bool)} {b o : Nat} {cs : List Value} {ds : TypeDesc}
    (hu : P.underlying t = some ds) (hd : ds.isRow = true) (hi : (P.info? t).map (·.size) = some cs.length) (hx : a.eval x = .pointer (some ⟨b, o, none⟩)) {w2 : World} (hc : w2.rangeAt b o cs) :
    (execOp a.eval ⟨d, .load t x, ty, pos, af, g⟩).run P w2 = .ok (.value (.agg cs.toArray)) w2 := by
  unfold execOp
  simp only [hx, Sem.run_bind, run_loadAt_mid w2 b o t cs ds hc hu hd hi, Result.andThen_ok, Sem.run_pure]
/-- x = *p, a struct or an array, of what S tells. -/
theorem e_rowS {d : Option Tmp} {x : Operand} {t ty : TypeId} {pos : String} {af : Array Edge} {g : Option (Nat × Bool)} {b o : Nat} {cs : List Value} {ds : TypeDesc}
    (hu : P.underlying t = some ds) (hd : ds.isRow = true) (hi : (P.info? t).map (·.size) = some cs.length) (hx : a.eval x = .pointer (some ⟨b, o, none⟩)) (hne : cs ≠ []) (hc : ∀ w2, G.S w2 → w2.rangeAt b o cs) (hS : G.S w)
    (hw : Region.wanted ⟨d, .load t x, ty, pos, af, g⟩ (yielded ops a.tmps) = true) (hk : wpE P ops G R r (a.put d (.agg cs.toArray)) w) : wpE P ops G R (⟨d, .load t x, ty, pos, af, g⟩ :: r) a w :=
  e_r kind_load hw (.inr ⟨fun w2 hS2 => run_loadR hu hd hi hx (hc w2 hS2), fun _ w2 hb => run_loadR hu hd hi hx (fun j v hv => (hb.cell (p := ⟨b, o + j, none⟩) (by
    have := World.block_lt_of_cell? w _ (hc w hS j v hv); exact this)).trans (hc w hS j v hv))⟩) hk
/-- x = *p, a struct or an array, in memory that lies there by now (its slot is among F). -/
theorem e_row {d : Tmp} {x : Operand} {t ty : TypeId} {pos : String} {af : Array Edge} {g : Option (Nat × Bool)} {b o : Nat} {cs : List Value} {ds : TypeDesc}
    (hu : P.underlying t = some ds) (hd : ds.isRow = true) (hi : (P.info? t).map (·.size) = some cs.length) (hx : a.eval x = .pointer (some ⟨b, o, none⟩)) (hc : w.rangeAt b o cs)
    (hF : G.F.contains d = true) (hw : Region.wanted ⟨some d, .load t x, ty, pos, af, g⟩ (yielded ops a.tmps) = true) (hk : wpE P ops G R r (a.put (some d) (.agg cs.toArray)) w) : wpE P ops G R (⟨some d, .load t x, ty, pos, af, g⟩ :: r) a w :=
  e_r kind_load hw (.inl ⟨by simp only [kindOf, hF, if_true], fun w2 hb => run_loadR hu hd hi hx (fun j v hv => (hb.cell (p := ⟨b, o + j, none⟩) (by
    have := World.block_lt_of_cell? w _ (hc j v hv); exact this)).trans (hc j v hv))⟩) hk
end
end Ord
end Go.Proofs.YtonejdjhdjckjaaGreat
