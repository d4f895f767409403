/-
  The plain law of a stable order by size, the greatest first (insertion).
-/
import Derived.Test.YtonejdjhdjckjaaGreatRowR
set_option linter.unusedSimpArgs false
set_option linter.unusedVariables false
namespace Go.Proofs.YtonejdjhdjckjaaGreat
open Go.RowKit

section
variable {α : Type} {β : Type} (sz : α → Int)
/-- x laid behind the last one that is not less; the list is told from its end. -/
def insB (x : α) : List α → List α
  | [] => [x]
  | y :: r => if sz y < sz x then y :: insB x r else x :: y :: r
def stb (l : List α) : List α := (l.foldl (fun r x => insB sz x r) []).reverse
theorem snoc_ind {p : List α → Prop} (h0 : p []) (hs : ∀ l x, p l → p (l ++ [x])) : ∀ l, p l := fun l => by
  have : ∀ r : List α, p r.reverse := fun r => by
    induction r with
    | nil => exact h0
    | cons x r ih => rw [List.reverse_cons]; exact hs _ _ ih
  have h := this l.reverse
  rwa [List.reverse_reverse] at h
theorem stb_nil : stb sz [] = [] := rfl
theorem stb_snoc (l : List α) (x : α) : stb sz (l ++ [x]) = (insB sz x (stb sz l).reverse).reverse := by
  unfold stb
  rw [List.foldl_append, List.reverse_reverse]
  rfl
theorem insB_at {x : α} : ∀ {s p : List α}, (∀ y ∈ s, sz y < sz x) → (p = [] ∨ ∃ y r, p = y :: r ∧ ¬ sz y < sz x) → insB sz x (s ++ p) = s ++ x :: p
  | [], p, _, hp => by
    rcases hp with rfl | ⟨y, r, rfl, h⟩
    · rfl
    · show insB sz x (y :: r) = _
      unfold insB
      rw [if_neg h]; rfl
  | y :: s, p, hs, hp => by
    show insB sz x (y :: (s ++ p)) = _
    unfold insB
    rw [if_pos (hs y List.mem_cons_self), insB_at (fun z hz => hs z (List.mem_cons_of_mem _ hz)) hp]
    rfl
/-- The step of the order: so many were passed. -/
theorem stb_at {l p s : List α} {x : α} (h : stb sz l = p ++ s) (hs : ∀ y ∈ s, sz y < sz x) (hp : p = [] ∨ ∃ r y, p = r ++ [y] ∧ ¬ sz y < sz x) : stb sz (l ++ [x]) = p ++ x :: s := by
  rw [stb_snoc, h, List.reverse_append, insB_at sz (s := s.reverse) (p := p.reverse) (fun y hy => hs y (List.mem_reverse.1 hy)) (by
    rcases hp with rfl | ⟨r, y, rfl, h9⟩
    · exact .inl rfl
    · exact .inr ⟨y, r.reverse, by simp, h9⟩)]
  simp
theorem insB_len (x : α) : ∀ r : List α, (insB sz x r).length = r.length + 1
  | [] => rfl
  | y :: r => by
    unfold insB
    split
    · simp [insB_len x r]
    · rfl
theorem stb_len : ∀ l : List α, (stb sz l).length = l.length := snoc_ind (p := fun l => (stb sz l).length = l.length) rfl fun l x ih => by
  rw [stb_snoc, List.length_reverse, insB_len, List.length_reverse, ih, List.length_append]; rfl
theorem insB_mem {x z : α} : ∀ {r : List α}, z ∈ insB sz x r ↔ z = x ∨ z ∈ r
  | [] => by simp [insB]
  | y :: r => by
    unfold insB
    split
    · simp only [List.mem_cons, insB_mem]
      constructor
      · rintro (h | h | h)
        · exact .inr (.inl h)
        · exact .inl h
        · exact .inr (.inr h)
      · rintro (h | h | h)
        · exact .inr (.inl h)
        · exact .inl h
        · exact .inr (.inr h)
    · simp
theorem stb_mem {z : α} : ∀ l : List α, z ∈ stb sz l ↔ z ∈ l := snoc_ind (p := fun l => z ∈ stb sz l ↔ z ∈ l) (by simp [stb]) fun l x ih => by
  rw [stb_snoc, List.mem_reverse, insB_mem, List.mem_reverse, ih, List.mem_append, List.mem_singleton]
  exact or_comm
/-- Those of one size. -/
def byS (n : Int) (l : List α) : List α := l.filter fun y => sz y == n
theorem byS_ins (n : Int) (x : α) : ∀ r : List α, byS sz n (insB sz x r) = if sz x = n then x :: byS sz n r else byS sz n r
  | [] => by
    unfold insB byS
    by_cases h : sz x = n
    · rw [if_pos h, List.filter_cons_of_pos (by simp [h])]
    · rw [if_neg h, List.filter_cons_of_neg (by simp [h])]
  | y :: r => by
    have ih := byS_ins n x r
    unfold insB
    by_cases hl : sz y < sz x
    · rw [if_pos hl]
      unfold byS at ih ⊢
      by_cases hy : sz y = n
      · have hx : ¬ sz x = n := by omega
        rw [if_neg hx] at ih ⊢
        rw [List.filter_cons_of_pos (by simp [hy]), List.filter_cons_of_pos (by simp [hy]), ih]
      · rw [List.filter_cons_of_neg (by simp [hy]), List.filter_cons_of_neg (by simp [hy]), ih]
    · rw [if_neg hl]
      unfold byS
      by_cases h : sz x = n
      · rw [if_pos h, List.filter_cons_of_pos (by simp [h])]
      · rw [if_neg h, List.filter_cons_of_neg (by simp [h])]
theorem byS_snoc (n : Int) (l : List α) (x : α) : byS sz n (l ++ [x]) = if sz x = n then byS sz n l ++ [x] else byS sz n l := by
  unfold byS
  rw [List.filter_append]
  by_cases h : sz x = n
  · rw [if_pos h, List.filter_cons_of_pos (by simp [h])]; rfl
  · rw [if_neg h, List.filter_cons_of_neg (by simp [h])]; simp
/-- Those of one size keep their order. -/
theorem byS_stb (n : Int) : ∀ l : List α, byS sz n (stb sz l) = byS sz n l := snoc_ind (p := fun l => byS sz n (stb sz l) = byS sz n l) rfl fun l x ih => by
  have hr : ∀ r : List α, byS sz n r.reverse = (byS sz n r).reverse := fun r => by unfold byS; rw [List.filter_reverse]
  rw [stb_snoc, hr, byS_ins, byS_snoc, ← ih, hr]
  split
  · rw [List.reverse_cons, List.reverse_reverse]
  · rw [List.reverse_reverse]
/-- None is greater than one ahead of it. -/
theorem insB_sorted {x : α} : ∀ {r : List α}, r.Pairwise (fun a b => sz a ≤ sz b) → (insB sz x r).Pairwise (fun a b => sz a ≤ sz b)
  | [], _ => by simp [insB]
  | y :: r, h => by
    have h1 := List.pairwise_cons.1 h
    unfold insB
    by_cases hl : sz y < sz x
    · rw [if_pos hl]
      refine List.pairwise_cons.2 ⟨fun z hz => ?_, insB_sorted h1.2⟩
      rcases (insB_mem sz).1 hz with rfl | hz
      · omega
      · exact h1.1 z hz
    · rw [if_neg hl]
      refine List.pairwise_cons.2 ⟨fun z hz => ?_, h⟩
      rcases List.mem_cons.1 hz with rfl | hz
      · omega
      · have := h1.1 z hz; omega
theorem stb_sorted : ∀ l : List α, (stb sz l).Pairwise (fun a b => sz b ≤ sz a) := snoc_ind (p := fun l => (stb sz l).Pairwise (fun a b => sz b ≤ sz a)) (by simp [stb]) fun l x ih => by
  rw [stb_snoc, List.pairwise_reverse]
  refine insB_sorted sz ?_
  rw [List.pairwise_reverse]
  exact ih
/-- Of these four sizes: the greatest first, and so on. -/
theorem stb_four : ∀ l : List α, (∀ y ∈ l, sz y = 8 ∨ sz y = 4 ∨ sz y = 2 ∨ sz y = 1) → stb sz l = byS sz 8 l ++ (byS sz 4 l ++ (byS sz 2 l ++ byS sz 1 l)) := by
  refine snoc_ind (p := fun l => (∀ y ∈ l, sz y = 8 ∨ sz y = 4 ∨ sz y = 2 ∨ sz y = 1) → stb sz l = _) (fun _ => rfl) fun l x ih hl => ?_
  have hl0 := ih (fun y hy => hl y (List.mem_append.2 (.inl hy)))
  have hb : ∀ (n : Int) (y : α), y ∈ byS sz n l → sz y = n := fun n y hy => by
    have := (List.mem_filter.1 hy).2
    simpa using this
  have hlast : ∀ (p : List α) (m : Int), (∀ y ∈ p, m ≤ sz y) → sz x ≤ m → (p = [] ∨ ∃ r y, p = r ++ [y] ∧ ¬ sz y < sz x) := fun p m hp hm => by
    rcases List.eq_nil_or_concat p with rfl | ⟨r, y, rfl⟩
    · exact .inl rfl
    · refine .inr ⟨r, y, by simp, ?_⟩
      have := hp y (by simp)
      omega
  simp only [byS_snoc]
  rcases hl x (by simp) with h | h | h | h
  · rw [if_pos h, if_neg (by omega), if_neg (by omega), if_neg (by omega)]
    rw [stb_at sz (p := byS sz 8 l) (s := byS sz 4 l ++ (byS sz 2 l ++ byS sz 1 l)) hl0 (fun y hy => by
      simp only [List.mem_append] at hy
      rcases hy with hy | hy | hy
      · rw [hb 4 y hy, h]; decide
      · rw [hb 2 y hy, h]; decide
      · rw [hb 1 y hy, h]; decide) (hlast _ 8 (fun y hy => by rw [hb 8 y hy]; omega) (by omega))]
    simp
  · rw [if_neg (by omega), if_pos h, if_neg (by omega), if_neg (by omega)]
    rw [stb_at sz (p := byS sz 8 l ++ byS sz 4 l) (s := byS sz 2 l ++ byS sz 1 l) (by rw [hl0]; simp) (fun y hy => by
      simp only [List.mem_append] at hy
      rcases hy with hy | hy
      · rw [hb 2 y hy, h]; decide
      · rw [hb 1 y hy, h]; decide) (hlast _ 4 (fun y hy => by
        simp only [List.mem_append] at hy
        rcases hy with hy | hy
        · rw [hb 8 y hy]; decide
        · rw [hb 4 y hy]; omega) (by omega))]
    simp
  · rw [if_neg (by omega), if_neg (by omega), if_pos h, if_neg (by omega)]
    rw [stb_at sz (p := byS sz 8 l ++ (byS sz 4 l ++ byS sz 2 l)) (s := byS sz 1 l) (by rw [hl0]; simp) (fun y hy => by
      rw [hb 1 y hy, h]; decide) (hlast _ 2 (fun y hy => by
        simp only [List.mem_append] at hy
        rcases hy with hy | hy | hy
        · rw [hb 8 y hy]; decide
        · rw [hb 4 y hy]; decide
        · rw [hb 2 y hy]; omega) (by omega))]
    simp
  · rw [if_neg (by omega), if_neg (by omega), if_neg (by omega), if_pos h]
    rw [stb_at sz (p := byS sz 8 l ++ (byS sz 4 l ++ (byS sz 2 l ++ byS sz 1 l))) (s := []) (by rw [hl0]; simp) (fun y hy => by cases hy) (hlast _ 1 (fun y hy => by
        simp only [List.mem_append] at hy
        rcases hy with hy | hy | hy | hy
        · rw [hb 8 y hy]; decide
        · rw [hb 4 y hy]; decide
        · rw [hb 2 y hy]; decide
        · rw [hb 1 y hy]; omega) (by omega))]
    simp
end
section
variable {α : Type} {β : Type}
theorem insB_map (sz : α → Int) (f : β → α) (x : β) : ∀ r : List β, (insB (fun b => sz (f b)) x r).map f = insB sz (f x) (r.map f)
  | [] => rfl
  | y :: r => by
    have ih := insB_map sz f x r
    show (insB (fun b => sz (f b)) x (y :: r)).map f = insB sz (f x) (f y :: r.map f)
    unfold insB
    split
    · rw [List.map_cons, ih]
    · rfl
theorem stb_map (sz : α → Int) (f : β → α) : ∀ l : List β, (stb (fun b => sz (f b)) l).map f = stb sz (l.map f) := snoc_ind (p := fun l => (stb (fun b => sz (f b)) l).map f = stb sz (l.map f)) rfl fun l x ih => by
  rw [stb_snoc, List.map_reverse, insB_map, List.map_reverse, ih, List.map_append, List.map_cons, List.map_nil, stb_snoc]
/-- Each one spread into some of its size: it is the same whether they are ordered before or after. -/
theorem stb_flat (sz : α → Int) (sz' : β → Int) (f : α → List β) (l : List α) (h : ∀ y ∈ l, sz y = 8 ∨ sz y = 4 ∨ sz y = 2 ∨ sz y = 1) (hf : ∀ y ∈ l, ∀ z ∈ f y, sz' z = sz y) : stb sz' (l.flatMap f) = (stb sz l).flatMap f := by
  have hfm : ∀ n (l : List α), (∀ y ∈ l, ∀ z ∈ f y, sz' z = sz y) → byS sz' n (l.flatMap f) = (byS sz n l).flatMap f := fun n l => by
    induction l with
    | nil => intro _; rfl
    | cons y l ih =>
      intro hf
      have ih := ih (fun y hy => hf y (List.mem_cons_of_mem _ hy))
      have hy := hf y List.mem_cons_self
      unfold byS at ih ⊢
      rw [List.flatMap_cons, List.filter_append, ih]
      by_cases hn : sz y = n
      · rw [List.filter_cons_of_pos (by simp [hn]), List.flatMap_cons, List.filter_eq_self.2 (fun z hz => by simp [hy z hz, hn])]
      · rw [List.filter_cons_of_neg (by simp [hn]), List.filter_eq_nil_iff.2 (fun z hz => by simp [hy z hz, hn])]; rfl
  rw [stb_four sz l h, stb_four sz' _ (fun z hz => by
    obtain ⟨y, hy, hz⟩ := List.mem_flatMap.1 hz
    rw [hf y hy z hz]
    exact h y hy), hfm 8 l hf, hfm 4 l hf, hfm 2 l hf, hfm 1 l hf]
  simp
end

end Go.Proofs.YtonejdjhdjckjaaGreat
