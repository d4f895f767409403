/-
  As RangeR2; a round's body is told that the loop's own blocks are no cells.
-/
import Derived.Test.YtplgcfjcdjlnbaaKGB
set_option linter.unusedSimpArgs false
set_option linter.unusedVariables false
namespace Go.Proofs.Ytplgcfjcdjlnbaa
open Go.RowKit

theorem rangeFunc_R3 {P : Program} {n : Nat} {α : Type} {g : Operand} {ps : Array Tmp} {assign body : Code} {Q : Exit → Act → World → Prop} {a : Act} {w : World}
    {gf : Nat} {lb : Array Value} (hg : a.eval g = .func (.func gf) #[] lb) (eg : ∀ args w, (callFunc gf args).run P w = .ok (.enter gf args) w)
    {E : α → Array Value → World → Prop} {K U : Nat → Prop} {xs : List α} {W0 : World → Prop} (hseq : SeqR P (n - 1) gf lb E K U xs W0) (hW0 : ∀ W, Aw (fun _ => False) w W → w.heap.size + 2 ≤ W.heap.size → W0 W) (hps : ∀ x vs W, E x vs W → vs.size = ps.size) {F : α → Act → World → Prop} (hF : ∀ x a A B, F x a A → (∃ o, A.heap[w.heap.size]? = some (.deferred o)) → (∃ o, A.heap[w.heap.size + 1]? = some (.loop o)) → Aw (fun k => k = w.heap.size ∨ k = w.heap.size + 1) A B → F x a B) (hU : ∀ k, U k → k < w.heap.size)
    (hK : ∀ k, K k → k < w.heap.size)
    (I : List α → World → Prop) (Ix : Code → List α → World → Prop) (hI : ∀ pre A B, I pre A → Aw (fun k => U k ∨ k = w.heap.size ∨ k = w.heap.size + 1) A B → I pre B) (hIx : ∀ c pre A B, Ix c pre A → Aw (fun k => U k ∨ k = w.heap.size ∨ k = w.heap.size + 1) A B → Ix c pre B)
    (h0 : I [] w)
    (hassign : ∀ (l : Nat) (x : α) (vs : Array Value) (W : World) (K : Act → World → Prop), E x vs W → (∀ a W', Aw (fun _ => False) W W' → F x a W' → K a W') →
      assign.wpIn (Fence.wide.inRound l) (n - 1 - 1) P (Exit.then K (fun _ _ _ => False)) { tmps := (ps.zip vs).foldl (fun t (p, v) => t.setIfInBounds p v) a.tmps, defers := [] } W)
    (hbody : ∀ (pre : List α) (x : α) (a : Act) (W : World), I pre W → F x a W → (pre ++ [x]) <+: xs → w.heap.size + 2 ≤ W.heap.size → (∃ o, W.heap[w.heap.size]? = some (.deferred o)) → (∃ o, W.heap[w.heap.size + 1]? = some (.loop o)) → body.wpIn (Fence.wide.inRound (w.heap.size + 1)) (n - 1 - 1) P (postW K w.heap.size I Ix (pre ++ [x]) W) a W)
    (hdone : ∀ (W : World), I xs W → W.heap[w.heap.size]? = some (.deferred (some [])) → Q .normal { a with defers := { target := .collected w.heap.size, args := #[] } :: a.defers } W)
    (hstop : ∀ (c : Code) (pre : List α) (W : World), pre <+: xs → Ix c pre W → W.heap[w.heap.size]? = some (.deferred (some [])) → c.wpIn Fence.wide n P Q { a with defers := { target := .collected w.heap.size, args := #[] } :: a.defers } W) :
    (Code.rangeFunc g ps assign body).wpIn Fence.wide n P Q a w := by
  refine wpIn_rangeFunc ?_
  intro fn _
  rw [show Fence.wide.round = none from rfl]
  obtain ⟨rec, hrec⟩ : ∃ rec : LoopState → Option Code → Loop, rec = fun st pe => { state := st, pending := pe, fn, tmps := a.tmps, params := ps, assign, body, defers := w.heap.size } := ⟨_, rfl⟩
  obtain ⟨W1, hW1⟩ : ∃ W1, (w.alloc (.deferred (some []))).alloc (.loop (rec .ready none)) = W1 := ⟨_, rfl⟩
  have hL1 : W1.heap[w.heap.size + 1]? = some (.loop (rec .ready none)) := by
    rw [← hW1]; have := World.alloc_heap_new (w.alloc (.deferred (some []))) (.loop (rec .ready none)); rwa [World.size_alloc] at this
  have hK1 : W1.heap[w.heap.size]? = some (.deferred (some [])) := by
    rw [← hW1]; exact (Below.heap_alloc _ _ _ (by simp)).trans (World.alloc_heap_new w _)
  have hA1 : ∀ V : Nat → Prop, Aw V w W1 := fun V => by rw [← hW1]; exact ((Aw.refl V w).alloc _).alloc _
  have hI1 : I [] W1 := hI _ _ _ h0 (hA1 _)
  have hUD : ¬ U w.heap.size := fun h => absurd (hU _ h) (Nat.lt_irrefl _)
  have hUL : ¬ U (w.heap.size + 1) := fun h => absurd (hU _ h) (by omega)
  refine ⟨w.heap.size + 1, [{ target := .collected w.heap.size, args := #[] }], W1, { target := .fn (.func gf) lb, args := #[.func (.yield (w.heap.size + 1)) #[] #[]] }, W1, gf,
    #[.func (.yield (w.heap.size + 1)) #[] #[]] ++ lb, W1, ?_, ?_, ?_, ?_, ?_, ?_⟩
  · rw [← hW1, hrec]; exact run_enterLoop_outer _ _ _ _ _
  · simp only [resolve, hg]
    simp [go_sem]
  · intro f' hf'; exact trivial
  · simp [invoke, go_sem, eg]
  · intro hd; simp [Fence.wide] at hd
  · refine (hseq (w.heap.size + 1)
      (fun pre W => I pre W ∧ W.heap[w.heap.size + 1]? = some (.loop (rec .ready none)) ∧ W.heap[w.heap.size]? = some (.deferred (some [])))
      (fun pre W => ∃ c, Ix c pre W ∧ W.heap[w.heap.size + 1]? = some (.loop (rec .done (some c))) ∧ W.heap[w.heap.size]? = some (.deferred (some [])))
      W1 (hW0 _ (hA1 _) (by have := (Array.getElem?_eq_some_iff.1 hL1).1; omega))
      (fun pre A B hs ha => ⟨hI _ _ _ hs.1 (ha.mono fun k hk => .inl hk), ha.keep hs.2.1 hUL, ha.keep hs.2.2 hUD⟩)
      (fun pre A B hs ha => by
        obtain ⟨c, hc, hl, hk⟩ := hs
        exact ⟨c, hIx _ _ _ _ hc (ha.mono fun k hk => .inl hk), ha.keep hl hUL, ha.keep hk hUD⟩)
      ?_ ⟨hI1, hL1, hK1⟩).mono ?_
    · rintro pre x vs W ⟨hi, hl, hk⟩ hpre hex
      have hlt : w.heap.size + 1 < W.heap.size := (Array.getElem?_eq_some_iff.1 hl).1
      have hy := run_yield (P := P) (args := vs) hl (by rw [hrec]; exact hps x vs W hex)
      rw [hrec] at hy
      refine ⟨fn, _, assign, body, hy, roundIn_of_wpIn trivial (hassign _ x vs W _ hex (fun a1 Wa hwa hfa => ⟨_, run_beginRound (hwa.keep hl (fun h => h)) (by rw [hrec]), ?_⟩))⟩
      have hla := hwa.keep hl (fun h => h)
      have hka := hwa.keep hk (fun h => h)
      have hlta : w.heap.size + 1 < Wa.heap.size := Nat.lt_of_lt_of_le hlt hwa.size
      obtain ⟨W2, hW2⟩ : ∃ W2, W2 = Wa.putObj (w.heap.size + 1) (.loop { rec .ready none with state := .busy }) := ⟨_, rfl⟩
      rw [← hW2]
      have hl2 : W2.heap[w.heap.size + 1]? = some (.loop { rec .ready none with state := .busy }) := by rw [hW2]; exact World.putObj_heap_same hlta
      have hk2 : W2.heap[w.heap.size]? = some (.deferred (some [])) := by rw [hW2]; exact (World.putObj_heap_other (by omega)).trans hka
      have ha2a : Aw (fun k => k = w.heap.size + 1) Wa W2 := by rw [hW2]; exact (Aw.refl _ Wa).put _ rfl
      have ha2 : Aw (fun k => k = w.heap.size + 1) W W2 := (hwa.mono (fun k h => h.elim)).trans ha2a
      refine wpIn_mono (hbody pre x a1 _ (hI _ _ _ hi (ha2.mono fun k hk => .inr (.inr hk))) (hF _ _ _ _ hfa ⟨_, hka⟩ ⟨_, hla⟩ (ha2a.mono fun k hk => .inr hk)) hpre (by have := ha2.size; omega) ⟨_, hk2⟩ ⟨_, hl2⟩) ?_
      have fin : ∀ (jump : Option Code) (W3 : World), Keeps (fun k => k = w.heap.size ∨ k = w.heap.size + 1) W2 W3 →
          (Instr.endRound (w.heap.size + 1) jump).run P W3 = .ok (.bool jump.isNone) (W3.putObj (w.heap.size + 1) (.loop (rec (if jump.isNone then .ready else .done) jump))) ∧
          (W3.putObj (w.heap.size + 1) (.loop (rec (if jump.isNone then .ready else .done) jump))).heap[w.heap.size + 1]? = some (.loop (rec (if jump.isNone then .ready else .done) jump)) ∧
          (W3.putObj (w.heap.size + 1) (.loop (rec (if jump.isNone then .ready else .done) jump))).heap[w.heap.size]? = some (.deferred (some [])) := fun jump W3 hk3 => by
        have hl3 := hk3.2 _ _ (.inr rfl) hl2
        have := run_endRound (P := P) jump hl3
        rw [hrec] at this ⊢
        exact ⟨this, World.putObj_heap_same (Array.getElem?_eq_some_iff.1 hl3).1, (World.putObj_heap_other (by omega)).trans (hk3.2 _ _ (.inl rfl) hk2)⟩
      have aw3 : ∀ (W3 : World) (o : Obj), Aw (fun k => U k ∨ k = w.heap.size ∨ k = w.heap.size + 1) W3 (W3.putObj (w.heap.size + 1) o) := fun W3 o => (Aw.refl _ W3).put o (.inr (.inr rfl))
      rintro e a3 W3 hp
      cases e with
      | normal =>
        obtain ⟨hk3, hi3⟩ := hp
        obtain ⟨hr, hl4, hk4⟩ := fin none W3 (hk3.mono fun k hk => .inr hk)
        refine ⟨_, _, hr, .inl ⟨rfl, ⟨hI _ _ _ hi3 (aw3 W3 _), hl4, hk4⟩, ?_, fun k o hu ho => ?_⟩⟩
        · rw [World.putObj_size]; exact Nat.le_trans ha2.size hk3.1
        · have hne : k ≠ w.heap.size + 1 := fun e => by have := hK k hu; omega
          exact (World.putObj_heap_other hne).trans (hk3.2 k o (.inl hu) (ha2.keep ho hne))
      | ret =>
        obtain ⟨hk3, hi3⟩ := hp
        obtain ⟨hr, hl4, hk4⟩ := fin (some .ret) W3 hk3
        exact ⟨_, _, hr, .inr ⟨rfl, .ret, hIx _ _ _ _ hi3 (aw3 W3 _), hl4, hk4⟩⟩
      | exit id =>
        obtain ⟨hk3, hi3⟩ := hp
        obtain ⟨hr, hl4, hk4⟩ := fin (some (.exit id)) W3 hk3
        exact ⟨_, _, hr, .inr ⟨rfl, .exit id, hIx _ _ _ _ hi3 (aw3 W3 _), hl4, hk4⟩⟩
      | goto t =>
        obtain ⟨hk3, hi3⟩ := hp
        obtain ⟨hr, hl4, hk4⟩ := fin (some (.goto t)) W3 hk3
        exact ⟨_, _, hr, .inr ⟨rfl, .goto t, hIx _ _ _ _ hi3 (aw3 W3 _), hl4, hk4⟩⟩
      | panic ch => exact hp.elim
      | outgrown => exact hp.elim
    · have aw3 : ∀ (W3 : World) (o : Obj), Aw (fun k => U k ∨ k = w.heap.size ∨ k = w.heap.size + 1) W3 (W3.putObj (w.heap.size + 1) o) := fun W3 o => (Aw.refl _ W3).put o (.inr (.inr rfl))
      rintro e W2 ⟨⟨v, rfl⟩, (⟨hi, hl, hk⟩ | ⟨pre, hSp, c, hi, hl, hk⟩)⟩
      · exact ⟨none, _, by have := run_endLoop (P := P) hl (by rw [hrec]; simp); rw [hrec] at this; exact this, hdone _ (hI _ _ _ hi (aw3 W2 _)) ((World.putObj_heap_other (by omega)).trans hk)⟩
      · exact ⟨some c, _, by have := run_endLoop (P := P) hl (by rw [hrec]; simp); rw [hrec] at this; exact this, hstop c pre _ hSp (hIx _ _ _ _ hi (aw3 W2 _)) ((World.putObj_heap_other (by omega)).trans hk)⟩

end Go.Proofs.Ytplgcfjcdjlnbaa
