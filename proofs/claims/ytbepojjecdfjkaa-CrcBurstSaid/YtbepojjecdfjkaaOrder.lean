/-
  A region that draws its order of evaluation, walked once, in the order of its text: where operations that no edge binds only reckon, or only read what is there, every order comes to the same end.
-/
import Derived.Test.YtbepojjecdfjkaaBase
import Derived.RegionTactic
set_option linter.unusedSimpArgs false
set_option linter.unusedVariables false
namespace Go.Proofs.Ytbepojjecdfjkaa
open Go.RowKit
namespace Ord

theorem run_bind_str {P : Program} {w : World} {src dst e : TypeId} (hs : P.underlying src = some (.slice e)) (he : P.underlying e = some (.int .u8)) (hd : P.underlying dst = some .string) {B : Nat} {A : Option Addr} {n c : Nat} {l : List UInt8} (h : Rd w B 1 A n c (bv l)) :
    ((do let v ← convert src dst (.slice A n c); pure (Next.value v) : Sem Next)).run P w = .ok (.value (.string ⟨l.toArray⟩)) w := by
  simp only [Sem.run_bind, run_str w src dst e hs he hd h, Result.andThen_ok, Sem.run_pure]

theorem run_bind_of' {P : Program} {α β : Type} {s : Sem α} {f : α → Sem β} {w w1 : World} {a : α} (h : s.run P w = .ok a w1) : (s >>= f).run P w = (f a).run P w1 := by
  rw [Sem.run_bind, h]; rfl

/-- No other way out. -/
def QF : Exit → Act → World → Prop := fun _ _ _ => False

/-- Kinds: 0 reckons alone; 1 reads alone; 2 whatever. -/
def kindOf (P : Program) (o : Oper) : Nat :=
  match o.op with
  | .move _ | .assign _ | .pick .. | .binOp .. | .unOp .. | .slice .. | .indexAddr .. | .extract .. | .field .. | .fieldAddr .. | .makeInterface .. | .nilCheck _ | .index .. | .build .. => 0
  | .convert s d _ => match P.underlying s, P.underlying d with
    | some (.int _), some (.int _) => 0
    | _, _ => 1
  | .load .. => 1
  | .call c => match c.callee with
    | .builtin .len | .builtin .cap => 0
    | _ => 2
  | _ => 2

/-- The operation yields v here, and wherever memory has only grown. -/
def Stays (P : Program) (o : Oper) (v : Value) (a : Act) (w : World) : Prop :=
  ∀ w2, Below w.heap.size w w2 → (execOp a.eval o).run P w2 = .ok (.value v) w2

/-- The operations l, one behind the other; what each leaves. G: each lets what was there stand. -/
def wpE (P : Program) (ops : Array Oper) (G : Bool) (R : Act → World → Prop) : List Oper → Act → World → Prop
  | [], a, w => R a w
  | o :: r, a, w =>
    if Region.wanted o (yielded ops a.tmps) = true then
      if kindOf P o = 0 then ∃ v, (∀ w2, (execOp a.eval o).run P w2 = .ok (.value v) w2) ∧ wpE P ops G R r (a.put o.dst v) w
      else if kindOf P o = 1 then ∃ v, Stays P o v a w ∧ wpE P ops G R r (a.put o.dst v) w
      else o.wp P a w (fun a' w' => (G = true → Below w.heap.size w w') ∧ wpE P ops G R r a' w') QF
    else wpE P ops G R r (a.put o.dst undef) w

section
variable {P : Program} {ops : Array Oper} {G : Bool} {R : Act → World → Prop}

theorem upon_imp {o : Oper} {a : Act} {K K' : Act → World → Prop} {Q : Exit → Act → World → Prop} (h : ∀ a w, K a w → K' a w) (r : Result Next) (hh : o.upon P a K QF r) : o.upon P a K' Q r := by
  cases r with
  | ok n w' =>
    cases n <;> simp only [Oper.upon] at hh ⊢ <;>
      first
        | exact h _ _ hh
        | exact hh.elim
        | exact Calls.mono hh (fun e w'' he => by
            cases e with
            | returned v => exact h _ _ he
            | panicked c => exact he.elim
            | outgrown => obtain ⟨_, _, he⟩ := he; exact he.elim)
        | exact Rows.mono hh (fun _ _ he => h _ _ he)
  | halt x w' => cases x <;> simp only [Oper.upon] at hh ⊢ <;> exact hh.elim
theorem wp_imp {o : Oper} {a : Act} {w : World} {K K' : Act → World → Prop} {Q : Exit → Act → World → Prop} (h : ∀ a w, K a w → K' a w) (hh : o.wp P a w K QF) : o.wp P a w K' Q := upon_imp h _ hh

/-- What an operation makes of a frame. -/
def Fm (o : Oper) (a a' : Act) : Prop := ∃ d u, a' = Act.put { a with defers := d } o.dst u

theorem wp_put {oi oj : Oper} {v : Value} (hap : oi.apart ops oj = true) (hsj : ∀ cs b, oj.op ≠ .select cs b) {K : Act → World → Prop} {a : Act} {w : World}
    (h : oj.wp P (a.put oi.dst v) w K QF) : oj.wp P a w (fun a' w' => Fm oj a a' ∧ K (a'.put oi.dst v) w') QF := by
  obtain ⟨h1, h2, h3⟩ := Oper.apart_spec hap
  unfold Oper.wp at *
  rw [execOp_put oj hsj a oi.dst v h1] at h
  generalize (execOp a.eval oj).run P w = r at *
  have hf : ∀ (u : Value), Fm oj a (a.put oj.dst u) := fun u => ⟨a.defers, u, rfl⟩
  cases r with
  | ok n w' =>
    cases n <;> simp only [Oper.upon] at h ⊢
    case value u => exact ⟨hf u, by rw [← Act.put_comm a v u h2]; exact h⟩
    case skip => exact ⟨hf _, by rw [← Act.put_comm a v undef h2]; exact h⟩
    case defer d =>
      refine ⟨⟨_, _, rfl⟩, ?_⟩
      rw [← Act.put_comm _ v undef h2, ← Act.put_defers]
      exact h
    case enter f args =>
      refine Calls.mono h fun e w'' he => ?_
      cases e with
      | returned u => exact ⟨hf u, by rw [← Act.put_comm a v u h2]; exact he⟩
      | panicked c => exact he
      | outgrown => exact he
    case row row args => exact Rows.mono h fun u w'' he => ⟨hf u, by rw [← Act.put_comm a v u h2]; exact he⟩
  | halt x w' =>
    cases x <;> simp only [Oper.upon] at h ⊢
    case panic u => exact h

theorem wp_form {o : Oper} (hs : ∀ cs b, o.op ≠ .select cs b) {K : Act → World → Prop} {a : Act} {w : World} (h : o.wp P a w K QF) : o.wp P a w (fun a' w' => Fm o a a' ∧ K a' w') QF := by
  unfold Oper.wp at *
  generalize (execOp a.eval o).run P w = r at *
  cases r with
  | ok n w' =>
    cases n <;> simp only [Oper.upon] at h ⊢
    case value u => exact ⟨⟨a.defers, u, rfl⟩, h⟩
    case skip => exact ⟨⟨a.defers, _, rfl⟩, h⟩
    case defer d => exact ⟨⟨_, _, rfl⟩, h⟩
    case enter f args =>
      refine Calls.mono h fun e w'' he => ?_
      cases e with
      | returned u => exact ⟨⟨a.defers, u, rfl⟩, he⟩
      | panicked c => exact he
      | outgrown => exact he
    case row row args => exact Rows.mono h fun u w'' he => ⟨⟨a.defers, u, rfl⟩, he⟩
  | halt x w' =>
    cases x <;> simp only [Oper.upon] at h ⊢
    case panic u => exact h

theorem wp_ex {o : Oper} {K : Act → World → Prop} {a : Act} {w : World} (h : o.wp P a w K QF) : ∃ a' w', K a' w' := by
  unfold Oper.wp at *
  generalize (execOp a.eval o).run P w = r at *
  cases r with
  | ok n w' =>
    cases n <;> simp only [Oper.upon] at h
    case value u => exact ⟨_, _, h⟩
    case skip => exact ⟨_, _, h⟩
    case defer d => exact ⟨_, _, h⟩
    case enter f args =>
      obtain ⟨e, w'', fr, he, _⟩ := h []
      cases e with
      | returned u => exact ⟨_, _, he⟩
      | panicked c => exact he.elim
      | outgrown => obtain ⟨_, _, he⟩ := he; exact he.elim
    case row row args =>
      obtain ⟨v, w'', he, _⟩ := h { fn := 0, tmps := #[], todo := [], defers := [], mode := .run, kind := .normal } []
      exact ⟨_, _, he⟩
  | halt x w' =>
    cases x <;> simp only [Oper.upon] at h
    case panic u => exact h.elim

theorem wp_putOut {oi oj : Oper} {v : Value} (hap : oi.apart ops oj = true) (hsj : ∀ cs b, oj.op ≠ .select cs b) {K : Act → World → Prop} {a : Act} {w : World}
    (h : oj.wp P a w K QF) : oj.wp P (a.put oi.dst v) w (fun a' w' => ∃ a1, Fm oj a a1 ∧ a' = a1.put oi.dst v ∧ K a1 w') QF := by
  obtain ⟨h1, h2, h3⟩ := Oper.apart_spec hap
  unfold Oper.wp at *
  rw [execOp_put oj hsj a oi.dst v h1]
  generalize (execOp a.eval oj).run P w = r at *
  cases r with
  | ok n w' =>
    cases n <;> simp only [Oper.upon] at h ⊢
    case value u => exact ⟨_, ⟨a.defers, u, rfl⟩, Act.put_comm a v u h2, h⟩
    case skip => exact ⟨_, ⟨a.defers, _, rfl⟩, Act.put_comm a v undef h2, h⟩
    case defer d =>
      refine ⟨_, ⟨d :: a.defers, undef, rfl⟩, ?_, h⟩
      rw [Act.put_defers, Act.put_comm _ v undef h2]
    case enter f args =>
      refine Calls.mono h fun e w'' he => ?_
      cases e with
      | returned u => exact ⟨_, ⟨a.defers, u, rfl⟩, Act.put_comm a v u h2, he⟩
      | panicked c => exact he
      | outgrown => exact he
    case row row args => exact Rows.mono h fun u w'' he => ⟨_, ⟨a.defers, u, rfl⟩, Act.put_comm a v u h2, he⟩
  | halt x w' =>
    cases x <;> simp only [Oper.upon] at h ⊢
    case panic u => exact h

/-- An operation apart from another sees the same frame before it and behind it. -/
theorem same_put {oi oj : Oper} (hap : oi.apart ops oj = true) (hsj : ∀ cs b, oj.op ≠ .select cs b) (a : Act) (v : Value) :
    execOp (a.put oi.dst v).eval oj = execOp a.eval oj ∧ Region.wanted oj (yielded ops (a.put oi.dst v).tmps) = Region.wanted oj (yielded ops a.tmps) := by
  obtain ⟨h1, _, _⟩ := Oper.apart_spec hap
  exact ⟨execOp_put oj hsj a oi.dst v h1, wanted_put oj a oi.dst v h1⟩
theorem same_fm {oi oj : Oper} (hap : oi.apart ops oj = true) (hsj : ∀ cs b, oj.op ≠ .select cs b) {a a' : Act} (hf : Fm oi a a') :
    execOp a'.eval oj = execOp a.eval oj ∧ Region.wanted oj (yielded ops a'.tmps) = Region.wanted oj (yielded ops a.tmps) := by
  obtain ⟨d, u, rfl⟩ := hf
  have := same_put (a := { a with defers := d }) hap hsj u
  exact ⟨this.1, this.2⟩

theorem Stays.at_ {o : Oper} {v : Value} {a : Act} {w w' : World} (h : Stays P o v a w) (hb : Below w.heap.size w w') : Stays P o v a w' := fun w2 h2 => h w2 (bnx hb h2)

/-- May j (ahead) and i (behind) change places? -/
def comm (P : Program) (ops : Array Oper) (G : Bool) (oj oi : Oper) : Bool :=
  oj.apart ops oi && oi.apart ops oj && (kindOf P oj == 0 || kindOf P oi == 0 || (kindOf P oj == 1 && (kindOf P oi == 1 || G)))

theorem wpE_mono {l l' : List Oper} (h : ∀ a w, wpE P ops G R l a w → wpE P ops G R l' a w) (o : Oper) (a : Act) (w : World) (hh : wpE P ops G R (o :: l) a w) : wpE P ops G R (o :: l') a w := by
  simp only [wpE] at hh ⊢
  split
  · rename_i hw
    rw [if_pos hw] at hh
    split
    · rename_i hk
      rw [if_pos hk] at hh
      obtain ⟨v, h1, h2⟩ := hh
      exact ⟨v, h1, h _ _ h2⟩
    · rename_i hk
      rw [if_neg hk] at hh
      split
      · rename_i hk1
        rw [if_pos hk1] at hh
        obtain ⟨v, h1, h2⟩ := hh
        exact ⟨v, h1, h _ _ h2⟩
      · rename_i hk1
        rw [if_neg hk1] at hh
        exact wp_imp (fun a' w' hx => ⟨hx.1, h _ _ hx.2⟩) hh
  · rename_i hw
    rw [if_neg hw] at hh
    exact h _ _ hh

theorem swap_ {oj oi : Oper} {r : List Oper} {a : Act} {w : World} (hc : comm P ops G oj oi = true) (hsj : ∀ cs b, oj.op ≠ .select cs b) (hsi : ∀ cs b, oi.op ≠ .select cs b)
    (h : wpE P ops G R (oj :: oi :: r) a w) : wpE P ops G R (oi :: oj :: r) a w := by
  simp only [comm, Bool.and_eq_true, Bool.or_eq_true, beq_iff_eq] at hc
  obtain ⟨⟨hji, hij⟩, hk⟩ := hc
  obtain ⟨_, hne, _⟩ := Oper.apart_spec hij
  by_cases hwj : Region.wanted oj (yielded ops a.tmps) = true
  case neg =>
    -- j is passed over
    rw [wpE, if_neg hwj] at h
    have hs := same_put hji hsi a undef
    have hj2 : ∀ v, Region.wanted oj (yielded ops (a.put oi.dst v).tmps) = Region.wanted oj (yielded ops a.tmps) := fun v => (same_put hij hsj a v).2
    rw [wpE, hs.2] at h
    rw [wpE]
    split
    · rename_i hwi
      rw [if_pos hwi] at h
      split
      · rename_i hk0
        rw [if_pos hk0, hs.1] at h
        obtain ⟨v, h1, h2⟩ := h
        refine ⟨v, h1, ?_⟩
        rw [wpE, hj2, if_neg hwj, Act.put_comm a v undef hne]
        exact h2
      · rename_i hk0
        rw [if_neg hk0] at h
        split
        · rename_i hk1
          rw [if_pos hk1] at h
          obtain ⟨v, h1, h2⟩ := h
          refine ⟨v, fun w2 hb => by rw [← hs.1]; exact h1 w2 hb, ?_⟩
          rw [wpE, hj2, if_neg hwj, Act.put_comm a v undef hne]
          exact h2
        · rename_i hk1
          rw [if_neg hk1] at h
          refine wp_imp ?_ (wp_put hji hsi h)
          rintro a' w' ⟨hf, h1, h2⟩
          refine ⟨h1, ?_⟩
          rw [wpE, (same_fm hij hsj hf).2, if_neg hwj]
          exact h2
    · rename_i hwi
      rw [if_neg hwi] at h
      rw [wpE, hj2, if_neg hwj, Act.put_comm a undef undef hne]
      exact h
  case pos =>
    by_cases hwi : Region.wanted oi (yielded ops a.tmps) = true
    case neg =>
      -- i is passed over
      rw [wpE, if_neg hwi]
      have hs := same_put hij hsj a undef
      rw [wpE, hs.2, if_pos hwj, hs.1]
      rw [wpE, if_pos hwj] at h
      split
      · rename_i hk0
        rw [if_pos hk0] at h
        obtain ⟨v, h1, h2⟩ := h
        refine ⟨v, h1, ?_⟩
        rw [wpE, (same_put hji hsi a v).2, if_neg hwi] at h2
        rw [Act.put_comm a undef v hne]
        exact h2
      · rename_i hk0
        rw [if_neg hk0] at h
        split
        · rename_i hk1
          rw [if_pos hk1] at h
          obtain ⟨v, h1, h2⟩ := h
          refine ⟨v, fun w2 hb => by rw [hs.1]; exact h1 w2 hb, ?_⟩
          rw [wpE, (same_put hji hsi a v).2, if_neg hwi] at h2
          rw [Act.put_comm a undef v hne]
          exact h2
        · rename_i hk1
          rw [if_neg hk1] at h
          refine wp_imp ?_ (wp_putOut hij hsj h)
          rintro a' w' ⟨a1, hf, rfl, h1, h2⟩
          refine ⟨h1, ?_⟩
          rw [wpE, (same_fm hji hsi hf).2, if_neg hwi] at h2
          exact h2
    case pos =>
      rw [wpE, if_pos hwj] at h
      rw [wpE, if_pos hwi]
      by_cases hj0 : kindOf P oj = 0
      · rw [if_pos hj0] at h
        obtain ⟨v, hv, h2⟩ := h
        have hs := same_put hji hsi a v
        rw [wpE, hs.2, if_pos hwi] at h2
        have back : ∀ (a' : Act) (w' : World), Fm oi a a' → wpE P ops G R r (a'.put oj.dst v) w' → wpE P ops G R (oj :: r) a' w' := fun a' w' hf hx => by
          have hs' := same_fm hij hsj hf
          rw [wpE, hs'.2, if_pos hwj, if_pos hj0]
          exact ⟨v, fun w2 => by rw [hs'.1]; exact hv w2, hx⟩
        split
        · rename_i hk0
          rw [if_pos hk0, hs.1] at h2
          obtain ⟨u, h3, h4⟩ := h2
          exact ⟨u, h3, back _ _ ⟨a.defers, u, rfl⟩ (by rw [Act.put_comm a u v hne]; exact h4)⟩
        · rename_i hk0
          rw [if_neg hk0] at h2
          split
          · rename_i hk1
            rw [if_pos hk1] at h2
            obtain ⟨u, h3, h4⟩ := h2
            exact ⟨u, fun w2 hb => by rw [← hs.1]; exact h3 w2 hb, back _ _ ⟨a.defers, u, rfl⟩ (by rw [Act.put_comm a u v hne]; exact h4)⟩
          · rename_i hk1
            rw [if_neg hk1] at h2
            refine wp_imp ?_ (wp_put hji hsi h2)
            rintro a' w' ⟨hf, h3, h4⟩
            exact ⟨h3, back _ _ hf h4⟩
      · rw [if_neg hj0] at h
        by_cases hi0 : kindOf P oi = 0
        · rw [if_pos hi0]
          by_cases hj1 : kindOf P oj = 1
          · rw [if_pos hj1] at h
            obtain ⟨v, hv, h2⟩ := h
            have hs := same_put hji hsi a v
            rw [wpE, hs.2, if_pos hwi, if_pos hi0, hs.1] at h2
            obtain ⟨u, h3, h4⟩ := h2
            have hs' := same_put hij hsj a u
            refine ⟨u, h3, ?_⟩
            rw [wpE, hs'.2, if_pos hwj, if_neg hj0, if_pos hj1]
            exact ⟨v, fun w2 hb => by rw [hs'.1]; exact hv w2 hb, by rw [Act.put_comm a u v hne]; exact h4⟩
          · rw [if_neg hj1] at h
            have hf := wp_form hsj h
            obtain ⟨a1, w1, hf1, _, h1⟩ := wp_ex hf
            have hs1 := same_fm hji hsi hf1
            rw [wpE, hs1.2, if_pos hwi, if_pos hi0, hs1.1] at h1
            obtain ⟨u, h3, _⟩ := h1
            refine ⟨u, h3, ?_⟩
            have hs' := same_put hij hsj a u
            rw [wpE, hs'.2, if_pos hwj, if_neg hj0, if_neg hj1]
            refine wp_imp ?_ (wp_putOut hij hsj h)
            rintro a' w' ⟨a2, hf2, rfl, h4, h5⟩
            refine ⟨h4, ?_⟩
            have hs2 := same_fm hji hsi hf2
            rw [wpE, hs2.2, if_pos hwi, if_pos hi0, hs2.1] at h5
            obtain ⟨u', h6, h7⟩ := h5
            have e : u' = u := by
              have e1 := h6 w
              rw [h3 w] at e1
              injection e1 with e1 _
              injection e1 with e1
              exact e1.symm
            rw [e] at h7
            exact h7
        · rw [if_neg hi0]
          have hj1 : kindOf P oj = 1 := by
            rcases hk with (h' | h') | h'
            · exact absurd h' hj0
            · exact absurd h' hi0
            · exact h'.1
          rw [if_pos hj1] at h
          obtain ⟨v, hv, h2⟩ := h
          have hs := same_put hji hsi a v
          rw [wpE, hs.2, if_pos hwi, if_neg hi0] at h2
          split
          · rename_i hi1
            rw [if_pos hi1] at h2
            obtain ⟨u, h3, h4⟩ := h2
            have hs' := same_put hij hsj a u
            refine ⟨u, fun w2 hb => by rw [← hs.1]; exact h3 w2 hb, ?_⟩
            rw [wpE, hs'.2, if_pos hwj, if_neg hj0, if_pos hj1]
            exact ⟨v, fun w2 hb => by rw [hs'.1]; exact hv w2 hb, by rw [Act.put_comm a u v hne]; exact h4⟩
          · rename_i hi1
            rw [if_neg hi1] at h2
            have hG : G = true := by
              rcases hk with (h' | h') | h'
              · exact absurd h' hj0
              · exact absurd h' hi0
              · rcases h'.2 with h'' | h''
                · exact absurd h'' hi1
                · exact h''
            refine wp_imp ?_ (wp_put hji hsi h2)
            rintro a' w' ⟨hf, h3, h4⟩
            refine ⟨h3, ?_⟩
            have hs' := same_fm hij hsj hf
            rw [wpE, hs'.2, if_pos hwj, if_neg hj0, if_pos hj1]
            exact ⟨v, fun w2 hb => by rw [hs'.1]; exact hv w2 (bnx (h3 hG) hb), h4⟩

theorem head_ {i : Nat} {o : Oper} {r : List Oper} {a : Act} {w : World} {Q : Exit → Act → World → Prop} (hi : ops[i]? = some o) (h : wpE P ops G R (o :: r) a w) : wpOp P ops Q i (wpE P ops G R r) a w := by
  unfold wpOp
  simp only [hi]
  rw [wpE] at h
  split
  · rename_i hw
    rw [if_pos hw] at h
    refine .inl ?_
    split at h
    · obtain ⟨v, h1, h2⟩ := h
      rw [Oper.wp, h1 w]
      exact h2
    · split at h
      · obtain ⟨v, h1, h2⟩ := h
        rw [Oper.wp, h1 w (Below.refl _ _)]
        exact h2
      · exact wp_imp (fun _ _ hx => hx.2) h
  · rename_i hw
    rw [if_neg hw] at h
    exact h

/-- The operations of a list of places. -/
def lst (ops : Array Oper) (L : List Nat) : List Oper := L.filterMap fun i => ops[i]?
theorem lst_cons {i : Nat} {o : Oper} {L : List Nat} (h : ops[i]? = some o) : lst ops (i :: L) = o :: lst ops L := by simp [lst, h]

def commI (P : Program) (ops : Array Oper) (G : Bool) (j i : Nat) : Bool :=
  match ops[j]?, ops[i]? with
  | some oj, some oi => comm P ops G oj oi
  | _, _ => false
theorem commI_spec {j i : Nat} (h : commI P ops G j i = true) : ∃ oj oi, ops[j]? = some oj ∧ ops[i]? = some oi ∧ comm P ops G oj oi = true := by
  unfold commI at h
  split at h
  · rename_i oj oi h1 h2; exact ⟨oj, oi, h1, h2, h⟩
  · cases h

theorem move_ (hN : Region.noSelect ops = true) {i : Nat} {s : List Nat} : ∀ (p : List Nat), (∀ j ∈ p, commI P ops G j i = true) → ∀ a w, wpE P ops G R (lst ops (p ++ i :: s)) a w → wpE P ops G R (lst ops (i :: (p ++ s))) a w
  | [], _, _, _, h => h
  | j :: p, hp, a, w, h => by
    obtain ⟨oj, oi, h1, h2, hc⟩ := commI_spec (hp j List.mem_cons_self)
    have ih := move_ hN (s := s) p (fun k hk => hp k (List.mem_cons_of_mem _ hk))
    rw [List.cons_append, lst_cons h1] at h
    have h' := wpE_mono ih oj a w h
    rw [lst_cons h2] at h'
    rw [lst_cons h2, List.cons_append, lst_cons h1]
    exact swap_ hc (Region.noSelect_spec hN j oj · · h1) (Region.noSelect_spec hN i oi · · h2) h'

/-! ### What each operation waits for -/
def step (M : List Nat) (s : Nat) (e : Edge) : Nat := if Region.binds .any e then s ||| 2 ^ e.on ||| M.getD e.on 0 else s
def masks (ops : Array Oper) : List Nat := ops.toList.foldl (fun M o => M ++ [o.after.toList.foldl (step M) 0]) []
def okMasks (ops : Array Oper) (M : List Nat) : Bool :=
  (List.range ops.size).all fun i => match ops[i]? with
    | none => false
    | some o => (M.getD i 0 == o.after.toList.foldl (step M) 0) && o.after.toList.all fun e => !Region.binds .any e || decide (e.on < i)
theorem fold_spec (M : List Nat) (j : Nat) : ∀ (l : List Edge) (s : Nat), (l.foldl (step M) s).testBit j = true → s.testBit j = true ∨ ∃ e ∈ l, Region.binds .any e = true ∧ (e.on = j ∨ (M.getD e.on 0).testBit j = true)
  | [], s, h => .inl h
  | e :: l, s, h => by
    rw [List.foldl_cons] at h
    rcases fold_spec M j l _ h with h1 | ⟨e', he, h2⟩
    · unfold step at h1
      split at h1
      · rename_i hb
        rw [Nat.testBit_or, Nat.testBit_or, Bool.or_eq_true, Bool.or_eq_true] at h1
        rcases h1 with (h1 | h1) | h1
        · exact .inl h1
        · rw [Nat.testBit_two_pow] at h1
          exact .inr ⟨e, List.mem_cons_self, hb, .inl (by simpa using h1)⟩
        · exact .inr ⟨e, List.mem_cons_self, hb, .inr h1⟩
      · exact .inl h1
    · exact .inr ⟨e', List.mem_cons_of_mem _ he, h2⟩

/-- What is listed has all that it waits for listed. -/
def Closed (ops : Array Oper) (listed : Array Bool) : Prop := ∀ k o, ops[k]? = some o → listed.getD k true = true → ∀ e ∈ o.after, Region.binds .any e = true → listed.getD e.on false = true
theorem getD_tf {listed : Array Bool} {i : Nat} (h : listed.getD i false = true) : listed.getD i true = true := by
  rcases Nat.lt_or_ge i listed.size with h' | h'
  · simpa [h'] using h
  · simp [Array.getElem?_eq_none h'] at h
theorem dep_listed {M : List Nat} (hM : okMasks ops M = true) {listed : Array Bool} (hc : Closed ops listed) (n : Nat) : ∀ i, i ≤ n → (∀ o, ops[i]? = some o → ∀ e ∈ o.after, Region.binds .any e = true → listed.getD e.on false = true) → i < ops.size → ∀ j, (M.getD i 0).testBit j = true → listed.getD j false = true := by
  induction n with
  | zero =>
    intro i hi hr hlt j hb
    obtain rfl : i = 0 := by omega
    have h1 := List.all_eq_true.1 hM 0 (List.mem_range.2 hlt)
    cases ho : ops[0]? with
    | none => rw [ho] at h1; cases h1
    | some o =>
      rw [ho] at h1
      simp only [Bool.and_eq_true, beq_iff_eq] at h1
      rw [h1.1] at hb
      rcases fold_spec M j _ _ hb with h2 | ⟨e, he, hbd, h3⟩
      · simp at h2
      · have := List.all_eq_true.1 h1.2 e he
        simp [hbd] at this
  | succ n ih =>
    intro i hi hr hlt j hb
    have h1 := List.all_eq_true.1 hM i (List.mem_range.2 hlt)
    cases ho : ops[i]? with
    | none => rw [ho] at h1; cases h1
    | some o =>
      rw [ho] at h1
      simp only [Bool.and_eq_true, beq_iff_eq] at h1
      rw [h1.1] at hb
      rcases fold_spec M j _ _ hb with h2 | ⟨e, he, hbd, h3⟩
      · simp at h2
      · have hei : e.on < i := by have := List.all_eq_true.1 h1.2 e he; simpa [hbd] using this
        have hl := hr o ho e (by simpa using he) hbd
        rcases h3 with rfl | h3
        · exact hl
        · exact ih e.on (by omega) (fun o' ho' e' he' hb' => hc e.on o' ho' (getD_tf hl) e' he' hb') (by omega) j h3

theorem any_of (hN : Region.noSelect ops = true) {M : List Nat} (hM : okMasks ops M = true) {Q : Exit → Act → World → Prop} : ∀ (n : Nat) (L : List Nat) (listed : Array Bool) (a : Act) (w : World), L.length = n → listed.size = ops.size → (∀ i, i ∈ L ↔ i < ops.size ∧ listed.getD i true = false) →
    L.Pairwise (fun j i => i ≠ j ∧ ((M.getD i 0).testBit j = true ∨ commI P ops G j i = true)) → Closed ops listed → wpE P ops G (Q .normal) (lst ops L) a w → wpAny P .any ops Q n listed a w := by
  intro n
  induction n with
  | zero =>
    intro L listed a w hn hsz hL hp hc h
    obtain rfl : L = [] := List.eq_nil_of_length_eq_zero hn
    refine ⟨?_, h⟩
    cases hr : Region.ready .any ops listed with
    | nil => rfl
    | cons x xs =>
      have hx := mem_ready.1 (by rw [hr]; exact List.mem_cons_self : x ∈ Region.ready .any ops listed)
      obtain ⟨h0, o, ho, _⟩ := hx
      have := (hL x).2 ⟨(Array.getElem?_eq_some_iff.1 ho).1, h0⟩
      cases this
  | succ n ih =>
    intro L listed a w hn hsz hL hp hc h
    refine ⟨fun h0 => ?_, fun i hi => ?_⟩
    · -- something is always ready: the first of L
      exfalso
      have hfirst : ∀ m, ∀ i, i < m → i < ops.size → listed.getD i true = false → False := by
        intro m
        induction m with
        | zero => intro i hi; omega
        | succ m ihm =>
          intro i hi hlt hun
          by_cases hall : ∀ o, ops[i]? = some o → ∀ e ∈ o.after, Region.binds .any e = true → listed.getD e.on false = true
          · have : i ∈ Region.ready .any ops listed := mem_ready.2 ⟨hun, ops[i], Array.getElem?_eq_getElem hlt, hall _ (Array.getElem?_eq_getElem hlt)⟩
            rw [h0] at this
            cases this
          · have h1 := List.all_eq_true.1 hM i (List.mem_range.2 hlt)
            rw [Array.getElem?_eq_getElem hlt] at h1
            simp only [Bool.and_eq_true, beq_iff_eq] at h1
            apply hall
            intro o ho e he hb
            rw [Array.getElem?_eq_getElem hlt] at ho
            injection ho with ho
            subst ho
            have hei : e.on < i := by have := List.all_eq_true.1 h1.2 e (by simpa using he); simpa [hb] using this
            cases hge : listed.getD e.on true with
            | false => exact (ihm e.on (by omega) (by omega) hge).elim
            | true =>
              have : e.on < listed.size := by omega
              simpa [this] using hge
      cases L with
      | nil => simp at hn
      | cons x xs =>
        obtain ⟨hx1, hx2⟩ := (hL x).1 List.mem_cons_self
        exact hfirst (x + 1) x (by omega) hx1 hx2
    · obtain ⟨h0, o, ho, hall⟩ := mem_ready.1 hi
      have hlt : i < ops.size := (Array.getElem?_eq_some_iff.1 ho).1
      obtain ⟨p, s, rfl⟩ := List.append_of_mem ((hL i).2 ⟨hlt, h0⟩)
      have hpa := List.pairwise_append.1 hp
      have hps : (p ++ s).Pairwise (fun j i => i ≠ j ∧ ((M.getD i 0).testBit j = true ∨ commI P ops G j i = true)) :=
        hp.sublist ((List.Sublist.refl p).append (List.sublist_cons_self i s))
      have hcm : ∀ j ∈ p, commI P ops G j i = true := fun j hj => by
        rcases (hpa.2.2 j hj i List.mem_cons_self).2 with h1 | h1
        · have := dep_listed hM hc i i (Nat.le_refl _) (fun o' ho' => by rw [ho] at ho'; injection ho' with ho'; subst ho'; exact hall) hlt j h1
          have hun := ((hL j).1 (List.mem_append_left _ hj)).2
          rw [getD_tf this] at hun
          cases hun
        · exact h1
      have h' := move_ hN p hcm a w h
      rw [lst_cons ho] at h'
      refine wpOp_mono (fun a' w' hx => ih (p ++ s) (listed.setIfInBounds i true) a' w' ?_ (by simpa using hsz) ?_ hps ?_ hx) (head_ ho h')
      · simp at hn ⊢; omega
      · intro k
        by_cases hik : i = k
        · subst hik
          have hnp : i ∉ p := fun hm => (hpa.2.2 i hm i List.mem_cons_self).1 rfl
          have hns : i ∉ s := fun hm => ((List.pairwise_cons.1 hpa.2.1).1 i hm).1 rfl
          have hls : i < listed.size := by omega
          simp [hnp, hns, hls]
        · rw [getD_set_ne true hik, ← hL k]
          simp [Ne.symm hik]
      · intro k ok hk hl e he hb
        by_cases hik : i = k
        · subst hik
          rw [ho] at hk
          injection hk with hk
          subst hk
          exact getD_set_true (hall e he hb)
        · rw [getD_set_ne true hik] at hl
          exact getD_set_true (hc k ok hk hl e he hb)

def pairB (P : Program) (ops : Array Oper) (G : Bool) (M : List Nat) : List Nat → Bool
  | [] => true
  | j :: r => r.all (fun i => i != j && ((M.getD i 0).testBit j || commI P ops G j i)) && pairB P ops G M r
theorem pairB_spec {M : List Nat} : ∀ {L : List Nat}, pairB P ops G M L = true → L.Pairwise (fun j i => i ≠ j ∧ ((M.getD i 0).testBit j = true ∨ commI P ops G j i = true))
  | [], _ => List.Pairwise.nil
  | j :: r, h => by
    simp only [pairB, Bool.and_eq_true] at h
    refine List.Pairwise.cons (fun i hi => ?_) (pairB_spec h.2)
    have := List.all_eq_true.1 h.1 i hi
    simpa using this
/-- The order L serves for every order that the edges allow. -/
def chk (P : Program) (ops : Array Oper) (G : Bool) (L : List Nat) : Bool :=
  Region.noSelect ops && okMasks ops (masks ops) && pairB P ops G (masks ops) L && (List.range ops.size).all (fun i => L.contains i) && L.all (fun i => decide (i < ops.size)) && L.length == ops.size

theorem region_at {id : Nat} {l l0 : List Oper} {a : Act} {w : World} {Q : Exit → Act → World → Prop} (L : List Nat) (G : Bool) (hm : P.follows .mixedOrders = true) (hc : chk P l.toArray G L = true) (hl : lst l.toArray L = l0)
    (h : wpE P l.toArray G (Q .normal) l0 a w.drew) : (Code.region id l.toArray true).wp P Q a w := by
  subst hl
  simp only [chk, Bool.and_eq_true, beq_iff_eq] at hc
  obtain ⟨⟨⟨⟨⟨h1, h2⟩, h3⟩, h4⟩, h5⟩, h6⟩ := hc
  refine wp_region_any hm ?_
  rw [← h6]
  refine any_of h1 h2 _ L _ a _ rfl (by rw [Array.size_replicate]; exact h6) (fun i => ?_) (pairB_spec h3) (fun k o hk hl => ?_) h
  · constructor
    · intro hi
      have := List.all_eq_true.1 h5 i hi
      simp at this
      simp [h6, this]
    · rintro ⟨hi, _⟩
      have := List.all_eq_true.1 h4 i (List.mem_range.2 hi)
      simpa using this
  · obtain ⟨hk', _⟩ := Array.getElem?_eq_some_iff.1 hk
    rw [← h6] at hk'
    simp [hk'] at hl
theorem lst_all : ∀ (l : List Oper), lst l.toArray (List.range l.length) = l := by
  intro l
  apply List.ext_getElem?
  intro i
  have : lst l.toArray (List.range l.length) = (List.range l.length).filterMap (fun i => l[i]?) := by simp [lst]
  rw [this]
  have e : ∀ (k : Nat), k ≤ l.length → (List.range k).filterMap (fun i => l[i]?) = l.take k := by
    intro k
    induction k with
    | zero => intro _; simp
    | succ k ih =>
      intro hk
      rw [List.range_succ, List.filterMap_append, ih (by omega), List.take_add_one]
      simp [List.getElem?_eq_getElem (show k < l.length by omega)]
  rw [e _ (Nat.le_refl _), List.take_length]
/-- In the order of the text. -/
theorem region_ {id : Nat} {l : List Oper} {a : Act} {w : World} {Q : Exit → Act → World → Prop} (G : Bool) (hm : P.follows .mixedOrders = true) (hc : chk P l.toArray G (List.range l.length) = true)
    (h : wpE P l.toArray G (Q .normal) l a w.drew) : (Code.region id l.toArray true).wp P Q a w := region_at _ G hm hc (lst_all l) h

/-! ### The steps -/
def isX (o : Oper) : Bool :=
  match o.op with
  | .move _ | .assign _ | .pick .. | .binOp .. | .unOp .. | .slice .. | .indexAddr .. | .extract .. | .field .. | .fieldAddr .. | .makeInterface .. | .nilCheck _ | .index .. | .build .. | .convert .. | .load .. => false
  | .call c => match c.callee with
    | .builtin .len | .builtin .cap => false
    | _ => true
  | _ => true
theorem kind_of_not {o : Oper} (h : isX o = false) : kindOf P o = 0 ∨ kindOf P o = 1 := by
  obtain ⟨d, op, ty, pos, af, g⟩ := o
  cases op <;> simp only [isX, kindOf] at h ⊢ <;> first | exact .inl trivial | exact .inr trivial | cases h | skip
  case convert s d x => split <;> simp
  case call c =>
    obtain ⟨ce, ar, ts⟩ := c
    cases ce with
    | builtin b => cases b <;> simp at h ⊢
    | _ => simp at h
theorem kind_of_x {o : Oper} (h : isX o = true) : kindOf P o = 2 := by
  obtain ⟨d, op, ty, pos, af, g⟩ := o
  cases op <;> simp only [isX, kindOf] at h ⊢ <;> first | rfl | cases h | skip
  case call c =>
    obtain ⟨ce, ar, ts⟩ := c
    cases ce with
    | builtin b => cases b <;> simp at h ⊢
    | _ => simp
variable {r : List Oper} {o : Oper} {a : Act} {w : World}
theorem e_nil (h : R a w) : wpE P ops G R [] a w := h
theorem e_u (hw : Region.wanted o (yielded ops a.tmps) = false) (h : wpE P ops G R r (a.put o.dst undef) w) : wpE P ops G R (o :: r) a w := by
  rw [wpE, if_neg (by rw [hw]; simp)]
  exact h
theorem e_p {v : Value} (hk : isX o = false) (hw : Region.wanted o (yielded ops a.tmps) = true) (hy : ∀ w2, (execOp a.eval o).run P w2 = .ok (.value v) w2) (h : wpE P ops G R r (a.put o.dst v) w) : wpE P ops G R (o :: r) a w := by
  rw [wpE, if_pos hw]
  rcases kind_of_not (P := P) hk with h0 | h1
  · rw [if_pos h0]; exact ⟨v, hy, h⟩
  · rw [if_neg (by omega), if_pos h1]; exact ⟨v, fun w2 _ => hy w2, h⟩
theorem e_r {v : Value} (hk : kindOf P o = 1) (hw : Region.wanted o (yielded ops a.tmps) = true) (hy : Stays P o v a w) (h : wpE P ops G R r (a.put o.dst v) w) : wpE P ops G R (o :: r) a w := by
  rw [wpE, if_pos hw, if_neg (by omega), if_pos hk]
  exact ⟨v, hy, h⟩
/-- What is left behind an operation of whatever kind. -/
def Seg (P : Program) (ops : Array Oper) (G : Bool) (R : Act → World → Prop) (r : List Oper) (w : World) (e : Exit) (a' : Act) (w' : World) : Prop := e = .normal ∧ (G = true → Below w.heap.size w w') ∧ wpE P ops G R r a' w'
theorem Seg.go {a' : Act} {w' : World} (hb : G = true → Below w.heap.size w w') (h : wpE P ops G R r a' w') : Seg P ops G R r w .normal a' w' := ⟨rfl, hb, h⟩
theorem e_x (hk : isX o = true) (hw : Region.wanted o (yielded ops a.tmps) = true) (h : wpList P ops (Seg P ops G R r w) [o] a w) : wpE P ops G R (o :: r) a w := by
  have hk' := kind_of_x (P := P) hk
  rw [wpE, if_pos hw, if_neg (by omega), if_neg (by omega)]
  unfold wpList at h
  rw [if_pos hw] at h
  rcases h with h | ⟨_, _, _, h⟩
  · have hq : ∀ (rs : Result Next), o.upon P a (wpList P ops (Seg P ops G R r w) []) (Seg P ops G R r w) rs → o.upon P a (fun a' w' => (G = true → Below w.heap.size w w') ∧ wpE P ops G R r a' w') QF rs := by
      intro rs hh
      cases rs with
      | ok n w' =>
        cases n <;> simp only [Oper.upon] at hh ⊢
        case value u => exact hh.2
        case skip => exact hh.2
        case defer d => exact hh.2
        case enter f args => exact Calls.mono hh (fun e w'' he => by
            cases e with
            | returned v => exact he.2
            | panicked c => exact Exit.noConfusion he.1
            | outgrown => obtain ⟨_, _, he⟩ := he; exact Exit.noConfusion he.1)
        case row row args => exact Rows.mono hh (fun _ _ he => he.2)
      | halt x w' =>
        cases x <;> simp only [Oper.upon] at hh ⊢
        case panic u => exact Exit.noConfusion hh.1
    exact hq _ h
  · exact Exit.noConfusion h.1
/-- string(b) -/
theorem e_str {d : Option Tmp} {x : Operand} {src dst ty e : TypeId} {pos : String} {af : Array Edge} {g : Option (Nat × Bool)} {A : Option Addr} {n c : Nat} {l : List UInt8}
    (hs : P.underlying src = some (.slice e)) (he : P.underlying e = some (.int .u8)) (hd : P.underlying dst = some .string) (h : Rd w w.heap.size 1 A n c (bv l)) (hx : a.eval x = .slice A n c)
    (hw : Region.wanted ⟨d, .convert src dst x, ty, pos, af, g⟩ (yielded ops a.tmps) = true) (hk : wpE P ops G R r (a.put d (.string ⟨l.toArray⟩)) w) : wpE P ops G R (⟨d, .convert src dst x, ty, pos, af, g⟩ :: r) a w := by
  refine e_r (by simp [kindOf, hs, hd]) hw (fun w2 hb => ?_) hk
  unfold execOp
  simp only [hx]
  rw [run_bind_str hs he hd (h.up hb)]
/-- x = *p -/
theorem e_load {d : Option Tmp} {x : Operand} {t ty : TypeId} {pos : String} {af : Array Edge} {g : Option (Nat × Bool)} {ad : Addr} {v : Value} {ds : TypeDesc}
    (ht : P.underlying t = some ds) (hns : (match ds with | .struct _ => false | .array _ _ => false | _ => true) = true) (hc : w.cell? ad = some v) (hx : a.eval x = .pointer (some ad))
    (hw : Region.wanted ⟨d, .load t x, ty, pos, af, g⟩ (yielded ops a.tmps) = true) (hk : wpE P ops G R r (a.put d v) w) : wpE P ops G R (⟨d, .load t x, ty, pos, af, g⟩ :: r) a w := by
  refine e_r rfl hw (fun w2 hb => ?_) hk
  have hlt := World.block_lt_of_cell? w ad hc
  have hc2 : w2.cell? ad = some v := (hb.cell hlt).trans hc
  have ha : (isAgg t).run P w2 = .ok false w2 := by
    unfold isAgg
    rw [run_bind_of' (run_underlying ht w2)]
    cases ds <;> simp at hns <;> rfl
  unfold execOp
  simp only [hx]
  have hl : (Instr.loadAt t (.pointer (some ad))).run P w2 = .ok v w2 := by
    unfold Instr.loadAt loadVar
    simp only [Instr.sureAddr, Sem.run_bind, Sem.run_pure, Result.andThen_ok, ha]
    simp [load, Sem.run, hc2]
  simp only [Sem.run_bind, hl, Result.andThen_ok, Sem.run_pure]
end
end Ord
end Go.Proofs.Ytbepojjecdfjkaa
