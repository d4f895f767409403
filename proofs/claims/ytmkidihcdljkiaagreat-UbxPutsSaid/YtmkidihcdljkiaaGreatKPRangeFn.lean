/-
  A range over a function whose iterator keeps state of its own in cells: the law that the kit's 'SeqStops' family leaves out. And: what was walked in a plain region holds in a round too.
-/
import Derived.RangeFuncKeeps
import Derived.RangeFuncLeaves
import Derived.RangeFuncCalls
import Derived.OrdersIn
import Derived.Below
set_option linter.unusedSimpArgs false
set_option linter.unusedVariables false
namespace Go.Proofs.YtmkidihcdljkiaaGreat
open Go.RowKit

/-! ### What holds of a region holds of it in a round -/
section bridge
variable {P : Program} {ops : Array Oper} {Q : Exit → Act → World → Prop}
def noDefer (ops : Array Oper) : Bool := ops.all fun o => match o.op with | .defer _ => false | _ => true
theorem noDefer_spec {i : Nat} {o : Oper} (h : noDefer ops = true) (hi : ops[i]? = some o) : ∀ c, o.op ≠ .defer c := by
  intro c hc
  obtain ⟨hlt, he⟩ := Array.getElem?_eq_some_iff.1 hi
  have := Array.all_eq_true.1 h i hlt
  rw [he, hc] at this
  simp at this
theorem rows_wide {n l : Nat} {row : String} {args : Array Value} {w : World} {R : Value → World → Prop} (h : Rows P row args w R) : RowsIn (Fence.wide.inRound l) n P row args w R :=
  fun c cs _ => let ⟨v, w', r, s⟩ := h c cs; ⟨v, w', r, stepsIn_wide.2 s⟩
theorem upon_round {n l : Nat} {o : Oper} {a : Act} {K : Act → World → Prop} {r : Result Next} (h : o.upon P a K Q r) : o.uponIn (Fence.wide.inRound l) n P a K Q r := by
  cases r with
  | ok x w' =>
    cases x <;> simp only [Oper.upon, Oper.uponIn] at h ⊢ <;>
      first
        | exact h
        | exact ⟨fun hd => by simp [Fence.wide] at hd, (callsIn_wide.2 h).inRound l⟩
        | exact ⟨fun hd => by simp [Fence.wide] at hd, rows_wide h⟩
        | exact h.elim
  | halt x w' => cases x <;> simp only [Oper.upon, Oper.uponIn] at h ⊢ <;> exact h
theorem wp_round {n l : Nat} {o : Oper} {a : Act} {w : World} {K : Act → World → Prop} (hd : ∀ c, o.op ≠ .defer c) (h : o.wp P a w K Q) : o.wpIn (Fence.wide.inRound l) n P a w K Q := by
  refine ⟨fun f _ => trivial, ?_⟩
  rw [Oper.semAt_eq _ _ _ hd]
  exact upon_round h
theorem wpOp_round {n l i : Nat} {a : Act} {w : World} {K : Act → World → Prop} (hn : noDefer ops = true) (hQ : ¬ LetsOut Q) (h : wpOp P ops Q i K a w) : wpOpIn (Fence.wide.inRound l) n P ops Q i K a w := by
  unfold wpOp at h
  unfold wpOpIn
  cases ho : ops[i]? with
  | none => simpa only [ho] using h
  | some o =>
    simp only [ho] at h ⊢
    split
    · rename_i hw
      rw [if_pos hw] at h
      rcases h with h | h
      · exact wp_round (noDefer_spec hn ho) h
      · exact absurd h.2 hQ
    · rename_i hw
      rw [if_neg hw] at h
      exact ⟨fun f _ => trivial, h⟩
theorem any_round {n l : Nat} {md : Region.Mode} (hn : noDefer ops = true) (hQ : ¬ LetsOut Q) : ∀ (fuel : Nat) (listed : Array Bool) (a : Act) (w : World), wpAny P md ops Q fuel listed a w → wpAnyIn (Fence.wide.inRound l) n P md ops Q fuel listed a w
  | 0, _, _, _, h => h
  | fuel + 1, _, _, _, h => ⟨h.1, fun i hi => wpOpIn_mono (fun a' w' h' => any_round hn hQ fuel _ a' w' h') (wpOp_round hn hQ (h.2 i hi))⟩
end bridge

/-! ### The law -/
/-- Nothing has turned but what lies in U, and there is new memory. -/
structure Aw (U : Nat → Prop) (A B : World) : Prop where
  os : B.os = A.os
  tape : B.tape = A.tape
  output : B.output = A.output
  size : A.heap.size ≤ B.heap.size
  block : ∀ k, k < A.heap.size → ¬ U k → B.heap[k]? = A.heap[k]?
section
variable {U U' : Nat → Prop} {A B C : World}
theorem Aw.refl (U : Nat → Prop) (A : World) : Aw U A A := ⟨rfl, rfl, rfl, Nat.le_refl _, fun _ _ _ => rfl⟩
theorem Aw.trans (h : Aw U A B) (k : Aw U B C) : Aw U A C :=
  ⟨k.os.trans h.os, k.tape.trans h.tape, k.output.trans h.output, Nat.le_trans h.size k.size, fun i hi hu => (k.block i (Nat.lt_of_lt_of_le hi h.size) hu).trans (h.block i hi hu)⟩
theorem Aw.mono (h : Aw U A B) (hu : ∀ k, U k → U' k) : Aw U' A B := ⟨h.os, h.tape, h.output, h.size, fun i hi hn => h.block i hi (fun e => hn (hu i e))⟩
theorem Aw.drew (h : Aw U A B) : Aw U A B.drew := ⟨h.os, h.tape, h.output, h.size, h.block⟩
theorem Aw.alloc (h : Aw U A B) (o : Obj) : Aw U A (B.alloc o) := by
  refine ⟨h.os, h.tape, h.output, Nat.le_trans h.size (by simp), fun i hi hu => ?_⟩
  exact (heap_alloc_old B o i (Nat.lt_of_lt_of_le hi h.size)).trans (h.block i hi hu)
theorem Aw.put (h : Aw U A B) {r : Nat} (o : Obj) (hr : U r) : Aw U A (B.putObj r o) :=
  ⟨h.os, h.tape, h.output, by rw [World.putObj_size]; exact h.size, fun i hi hu => (World.putObj_heap_other (fun e => hu (by rw [e]; exact hr))).trans (h.block i hi hu)⟩
theorem Aw.set (h : Aw U A B) {p : Addr} (v : Value) (hr : U p.block) : Aw U A (B.setCell p v) :=
  ⟨h.os, h.tape, h.output, by simpa [World.setCell] using h.size, fun i hi hu => (Below.heap_setCell _ _ _ i (fun e => hu (by rw [e]; exact hr))).trans (h.block i hi hu)⟩
theorem Aw.of_below {n : Nat} (h : Below n A B) (hu : ∀ k, k < A.heap.size → ¬ U k → k < n) : Aw U A B := ⟨h.os, h.tape, h.output, h.size, fun i hi hn => h.block i (hu i hi hn)⟩
theorem Aw.keep (h : Aw U A B) {k : Nat} {o : Obj} (hk : A.heap[k]? = some o) (hu : ¬ U k) : B.heap[k]? = some o := by
  have hlt : k < A.heap.size := by
    rcases Nat.lt_or_ge k A.heap.size with h1 | h1
    · exact h1
    · rw [Array.getElem?_eq_none h1] at hk; cases hk
  exact (h.block k hlt hu).trans hk
end
/-- What lies in K is as it was. -/
def Keeps (K : Nat → Prop) (A B : World) : Prop := A.heap.size ≤ B.heap.size ∧ ∀ k o, K k → A.heap[k]? = some o → B.heap[k]? = some o
theorem Keeps.mono {K K' : Nat → Prop} {A B : World} (h : Keeps K A B) (hk : ∀ k, K' k → K k) : Keeps K' A B := ⟨h.1, fun k o hu ho => h.2 k o (hk k hu) ho⟩
theorem Aw.keeps {U K : Nat → Prop} {A B : World} (h : Aw U A B) (hk : ∀ k, K k → ¬ U k) : Keeps K A B := ⟨h.size, fun k o hu ho => h.keep ho (hk k hu)⟩

/-- An iterator g, bound to lb: it calls yield at each of xs, in that order; between two calls it turns only what lies in U (and lays new blocks), and wants what lies in K kept; W0: what it finds of the world when it is called. -/
def SeqW {α : Type} (P : Program) (n : Nat) (g : Nat) (lb : Array Value) (encs : α → Array Value) (K U : Nat → Prop) (xs : List α) (W0 : World → Prop) : Prop :=
  ∀ (l : Nat) (J Jx : List α → World → Prop) (W : World), W0 W → (∀ pre A B, J pre A → Aw U A B → J pre B) → (∀ pre A B, Jx pre A → Aw U A B → Jx pre B) →
    (∀ pre x W1, J pre W1 → (pre ++ [x]) <+: xs → YieldAt Fence.wide (n - 1) P l (encs x) W1 fun e W' =>
      (e = .returned (.bool true) ∧ J (pre ++ [x]) W' ∧ Keeps K W1 W') ∨ (e = .returned (.bool false) ∧ Jx (pre ++ [x]) W')) →
    J [] W →
    CallsIn Fence.wide n P g (#[.func (.yield l) #[] #[]] ++ lb) W fun e W' => (∃ v, e = .returned v) ∧ (J xs W' ∨ ∃ pre, pre <+: xs ∧ Jx pre W')

/-- How the body of a round may be left. -/
def postW {α : Type} (K : Nat → Prop) (D : Nat) (I : List α → World → Prop) (Ix : Code → List α → World → Prop) (xs : List α) (W : World) : Exit → Act → World → Prop
  | .normal, _, W' => Keeps (fun k => K k ∨ k = D ∨ k = D + 1) W W' ∧ I xs W'
  | .ret, _, W' => Keeps (fun k => k = D ∨ k = D + 1) W W' ∧ Ix .ret xs W'
  | .exit id, _, W' => Keeps (fun k => k = D ∨ k = D + 1) W W' ∧ Ix (.exit id) xs W'
  | .goto t, _, W' => Keeps (fun k => k = D ∨ k = D + 1) W W' ∧ Ix (.goto t) xs W'
  | .panic _, _, _ => False
  | .outgrown, _, _ => False
theorem rangeFunc_W {P : Program} {n : Nat} {α : Type} {g : Operand} {ps : Array Tmp} {assign body : Code} {Q : Exit → Act → World → Prop} {a : Act} {w : World}
    {gf : Nat} {lb : Array Value} (hg : a.eval g = .func (.func gf) #[] lb) (eg : ∀ args w, (callFunc gf args).run P w = .ok (.enter gf args) w)
    {encs : α → Array Value} {K U : Nat → Prop} {xs : List α} {W0 : World → Prop} (hseq : SeqW P (n - 1) gf lb encs K U xs W0) (hW0 : ∀ W, Aw (fun _ => False) w W → W0 W) (hps : ∀ x, (encs x).size = ps.size) (hU : ∀ k, U k → k < w.heap.size)
    (hK : ∀ k, K k → k < w.heap.size)
    (I : List α → World → Prop) (Ix : Code → List α → World → Prop) (hI : ∀ pre A B, I pre A → Aw (fun k => U k ∨ k = w.heap.size ∨ k = w.heap.size + 1) A B → I pre B) (hIx : ∀ c pre A B, Ix c pre A → Aw (fun k => U k ∨ k = w.heap.size ∨ k = w.heap.size + 1) A B → Ix c pre B)
    (h0 : I [] w) (a₁ : α → Act)
    (hassign : ∀ (l : Nat) (x : α) (W : World) (K : Act → World → Prop), K (a₁ x) W →
      assign.wpIn (Fence.wide.inRound l) (n - 1 - 1) P (Exit.then K (fun _ _ _ => False)) { tmps := (ps.zip (encs x)).foldl (fun t (p, v) => t.setIfInBounds p v) a.tmps, defers := [] } W)
    (hbody : ∀ (pre : List α) (x : α) (W : World), I pre W → (pre ++ [x]) <+: xs → w.heap.size + 2 ≤ W.heap.size → body.wpIn (Fence.wide.inRound (w.heap.size + 1)) (n - 1 - 1) P (postW K w.heap.size I Ix (pre ++ [x]) W) (a₁ x) W)
    (hdone : ∀ (W : World), I xs W → W.heap[w.heap.size]? = some (.deferred (some [])) → Q .normal { a with defers := { target := .collected w.heap.size, args := #[] } :: a.defers } W)
    (hstop : ∀ (c : Code) (pre : List α) (W : World), pre <+: xs → Ix c pre W → W.heap[w.heap.size]? = some (.deferred (some [])) → c.wpIn Fence.wide n P Q { a with defers := { target := .collected w.heap.size, args := #[] } :: a.defers } W) :
    (Code.rangeFunc g ps assign body).wpIn Fence.wide n P Q a w := by
  refine wpIn_rangeFunc ?_
  intro fn _
  rw [show Fence.wide.round = none from rfl]
  obtain ⟨rec, hrec⟩ : ∃ rec : LoopState → Option Code → Loop, rec = fun st pe => { state := st, pending := pe, fn, tmps := a.tmps, params := ps, assign, body, defers := w.heap.size } := ⟨_, rfl⟩
  obtain ⟨W1, hW1⟩ : ∃ W1, (w.alloc (.deferred (some []))).alloc (.loop (rec .ready none)) = W1 := ⟨_, rfl⟩
  have hL1 : W1.heap[w.heap.size + 1]? = some (.loop (rec .ready none)) := by
    rw [← hW1]; have := World.alloc_heap_new (w.alloc (.deferred (some []))) (.loop (rec .ready none)); rwa [World.size_alloc] at this
  have hK1 : W1.heap[w.heap.size]? = some (.deferred (some [])) := by
    rw [← hW1]; exact (Below.heap_alloc _ _ _ (by simp)).trans (World.alloc_heap_new w _)
  have hA1 : ∀ V : Nat → Prop, Aw V w W1 := fun V => by rw [← hW1]; exact ((Aw.refl V w).alloc _).alloc _
  have hI1 : I [] W1 := hI _ _ _ h0 (hA1 _)
  have hUD : ¬ U w.heap.size := fun h => absurd (hU _ h) (Nat.lt_irrefl _)
  have hUL : ¬ U (w.heap.size + 1) := fun h => absurd (hU _ h) (by omega)
  refine ⟨w.heap.size + 1, [{ target := .collected w.heap.size, args := #[] }], W1, { target := .fn (.func gf) lb, args := #[.func (.yield (w.heap.size + 1)) #[] #[]] }, W1, gf,
    #[.func (.yield (w.heap.size + 1)) #[] #[]] ++ lb, W1, ?_, ?_, ?_, ?_, ?_, ?_⟩
  · rw [← hW1, hrec]; exact run_enterLoop_outer _ _ _ _ _
  · simp only [resolve, hg]
    simp [go_sem]
  · intro f' hf'; exact trivial
  · simp [invoke, go_sem, eg]
  · intro hd; simp [Fence.wide] at hd
  · refine (hseq (w.heap.size + 1)
      (fun pre W => I pre W ∧ W.heap[w.heap.size + 1]? = some (.loop (rec .ready none)) ∧ W.heap[w.heap.size]? = some (.deferred (some [])))
      (fun pre W => ∃ c, Ix c pre W ∧ W.heap[w.heap.size + 1]? = some (.loop (rec .done (some c))) ∧ W.heap[w.heap.size]? = some (.deferred (some [])))
      W1 (hW0 _ (hA1 _))
      (fun pre A B hs ha => ⟨hI _ _ _ hs.1 (ha.mono fun k hk => .inl hk), ha.keep hs.2.1 hUL, ha.keep hs.2.2 hUD⟩)
      (fun pre A B hs ha => by
        obtain ⟨c, hc, hl, hk⟩ := hs
        exact ⟨c, hIx _ _ _ _ hc (ha.mono fun k hk => .inl hk), ha.keep hl hUL, ha.keep hk hUD⟩)
      ?_ ⟨hI1, hL1, hK1⟩).mono ?_
    · rintro pre x W ⟨hi, hl, hk⟩ hpre
      have hlt : w.heap.size + 1 < W.heap.size := (Array.getElem?_eq_some_iff.1 hl).1
      have hy := run_yield (P := P) (args := encs x) hl (by rw [hrec]; exact hps x)
      rw [hrec] at hy
      refine ⟨fn, _, assign, body, hy, roundIn_of_wpIn trivial (hassign _ x W _ ⟨_, run_beginRound hl (by rw [hrec]), ?_⟩)⟩
      obtain ⟨W2, hW2⟩ : ∃ W2, W2 = W.putObj (w.heap.size + 1) (.loop { rec .ready none with state := .busy }) := ⟨_, rfl⟩
      rw [← hW2]
      have hl2 : W2.heap[w.heap.size + 1]? = some (.loop { rec .ready none with state := .busy }) := by rw [hW2]; exact World.putObj_heap_same hlt
      have hk2 : W2.heap[w.heap.size]? = some (.deferred (some [])) := by rw [hW2]; exact (World.putObj_heap_other (by omega)).trans hk
      have ha2 : Aw (fun k => k = w.heap.size + 1) W W2 := by rw [hW2]; exact (Aw.refl _ W).put _ rfl
      refine wpIn_mono (hbody pre x _ (hI _ _ _ hi (ha2.mono fun k hk => .inr (.inr hk))) hpre (by have := ha2.size; omega)) ?_
      have fin : ∀ (jump : Option Code) (W3 : World), Keeps (fun k => k = w.heap.size ∨ k = w.heap.size + 1) W2 W3 →
          (Instr.endRound (w.heap.size + 1) jump).run P W3 = .ok (.bool jump.isNone) (W3.putObj (w.heap.size + 1) (.loop (rec (if jump.isNone then .ready else .done) jump))) ∧
          (W3.putObj (w.heap.size + 1) (.loop (rec (if jump.isNone then .ready else .done) jump))).heap[w.heap.size + 1]? = some (.loop (rec (if jump.isNone then .ready else .done) jump)) ∧
          (W3.putObj (w.heap.size + 1) (.loop (rec (if jump.isNone then .ready else .done) jump))).heap[w.heap.size]? = some (.deferred (some [])) := fun jump W3 hk3 => by
        have hl3 := hk3.2 _ _ (.inr rfl) hl2
        have := run_endRound (P := P) jump hl3
        rw [hrec] at this ⊢
        exact ⟨this, World.putObj_heap_same (Array.getElem?_eq_some_iff.1 hl3).1, (World.putObj_heap_other (by omega)).trans (hk3.2 _ _ (.inl rfl) hk2)⟩
      have aw3 : ∀ (W3 : World) (o : Obj), Aw (fun k => U k ∨ k = w.heap.size ∨ k = w.heap.size + 1) W3 (W3.putObj (w.heap.size + 1) o) := fun W3 o => (Aw.refl _ W3).put o (.inr (.inr rfl))
      rintro e a3 W3 hp
      cases e with
      | normal =>
        obtain ⟨hk3, hi3⟩ := hp
        obtain ⟨hr, hl4, hk4⟩ := fin none W3 (hk3.mono fun k hk => .inr hk)
        refine ⟨_, _, hr, .inl ⟨rfl, ⟨hI _ _ _ hi3 (aw3 W3 _), hl4, hk4⟩, ?_, fun k o hu ho => ?_⟩⟩
        · rw [World.putObj_size]; exact Nat.le_trans ha2.size hk3.1
        · have hne : k ≠ w.heap.size + 1 := fun e => by have := hK k hu; omega
          exact (World.putObj_heap_other hne).trans (hk3.2 k o (.inl hu) (ha2.keep ho hne))
      | ret =>
        obtain ⟨hk3, hi3⟩ := hp
        obtain ⟨hr, hl4, hk4⟩ := fin (some .ret) W3 hk3
        exact ⟨_, _, hr, .inr ⟨rfl, .ret, hIx _ _ _ _ hi3 (aw3 W3 _), hl4, hk4⟩⟩
      | exit id =>
        obtain ⟨hk3, hi3⟩ := hp
        obtain ⟨hr, hl4, hk4⟩ := fin (some (.exit id)) W3 hk3
        exact ⟨_, _, hr, .inr ⟨rfl, .exit id, hIx _ _ _ _ hi3 (aw3 W3 _), hl4, hk4⟩⟩
      | goto t =>
        obtain ⟨hk3, hi3⟩ := hp
        obtain ⟨hr, hl4, hk4⟩ := fin (some (.goto t)) W3 hk3
        exact ⟨_, _, hr, .inr ⟨rfl, .goto t, hIx _ _ _ _ hi3 (aw3 W3 _), hl4, hk4⟩⟩
      | panic ch => exact hp.elim
      | outgrown => exact hp.elim
    · have aw3 : ∀ (W3 : World) (o : Obj), Aw (fun k => U k ∨ k = w.heap.size ∨ k = w.heap.size + 1) W3 (W3.putObj (w.heap.size + 1) o) := fun W3 o => (Aw.refl _ W3).put o (.inr (.inr rfl))
      rintro e W2 ⟨⟨v, rfl⟩, (⟨hi, hl, hk⟩ | ⟨pre, hSp, c, hi, hl, hk⟩)⟩
      · exact ⟨none, _, by have := run_endLoop (P := P) hl (by rw [hrec]; simp); rw [hrec] at this; exact this, hdone _ (hI _ _ _ hi (aw3 W2 _)) ((World.putObj_heap_other (by omega)).trans hk)⟩
      · exact ⟨some c, _, by have := run_endLoop (P := P) hl (by rw [hrec]; simp); rw [hrec] at this; exact this, hstop c pre _ hSp (hIx _ _ _ _ hi (aw3 W2 _)) ((World.putObj_heap_other (by omega)).trans hk)⟩

end Go.Proofs.YtmkidihcdljkiaaGreat
