/-
  A region that draws its order, where operations that no edge binds do NOT commute (two that lay memory): one walk for each order of those.
-/
import Derived.Test.YtonejdjhdjckjaaGreatOrder
set_option linter.unusedSimpArgs false
set_option linter.unusedVariables false
namespace Go.Proofs.YtonejdjhdjckjaaGreat
open Go.RowKit
namespace Ord
section
variable {P : Program} {ops : Array Oper} {G : Cfg}

theorem ready_ne {M : List Nat} (hM : okMasks ops M = true) {listed : Array Bool} (hsz : listed.size = ops.size) {i : Nat} (hlt : i < ops.size) (hun : listed.getD i true = false) : Region.ready .any ops listed ≠ [] := by
  intro h0
  have hfirst : ∀ m, ∀ i, i < m → i < ops.size → listed.getD i true = false → False := by
    intro m
    induction m with
    | zero => intro i hi; omega
    | succ m ihm =>
      intro i hi hlt hun
      by_cases hall : ∀ o, ops[i]? = some o → ∀ e ∈ o.after, Region.binds .any e = true → listed.getD e.on false = true
      · have : i ∈ Region.ready .any ops listed := mem_ready.2 ⟨hun, ops[i], Array.getElem?_eq_getElem hlt, hall _ (Array.getElem?_eq_getElem hlt)⟩
        rw [h0] at this
        cases this
      · have h1 := List.all_eq_true.1 hM i (List.mem_range.2 hlt)
        rw [Array.getElem?_eq_getElem hlt] at h1
        simp only [Bool.and_eq_true, beq_iff_eq] at h1
        apply hall
        intro o ho e he hb
        rw [Array.getElem?_eq_getElem hlt] at ho
        injection ho with ho
        subst ho
        have hei : e.on < i := by have := List.all_eq_true.1 h1.2 e (by simpa using he); simpa [hb] using this
        cases hge : listed.getD e.on true with
        | false => exact (ihm e.on (by omega) (by omega) hge).elim
        | true =>
          have : e.on < listed.size := by omega
          simpa [this] using hge
  exact hfirst (i + 1) i (by omega) hlt hun

/-- A schedule's order: nothing comes ahead of what it waits for. -/
def Valid (M : List Nat) (s : List Nat) : Prop := s.Pairwise fun x y => x ≠ y ∧ (M.getD x 0).testBit y = false
theorem lin_valid {M : List Nat} (hM : okMasks ops M = true) : ∀ (n t : Nat) (listed : Array Bool) (L : List Nat), L.length = n → listed.size = ops.size → (∀ i, i ∈ L ↔ i < ops.size ∧ listed.getD i true = false) → L.Pairwise (· ≠ ·) → Closed ops listed →
    (∀ i, i ∈ Region.linearise.go .any ops n t listed [] ↔ i ∈ L) ∧ Valid M (Region.linearise.go .any ops n t listed []) := by
  intro n
  induction n with
  | zero =>
    intro t listed L hn hsz hL hp hc
    obtain rfl : L = [] := List.eq_nil_of_length_eq_zero hn
    simp [Region.linearise.go, Valid]
  | succ n ih =>
    intro t listed L hn hsz hL hp hc
    have hne : Region.ready .any ops listed ≠ [] := by
      cases L with
      | nil => simp at hn
      | cons x xs =>
        obtain ⟨h1, h2⟩ := (hL x).1 List.mem_cons_self
        exact ready_ne hM hsz h1 h2
    have hlen : 0 < (Region.ready .any ops listed).length := List.length_pos_iff.2 hne
    simp only [Region.linearise.go]
    change (∀ i, i ∈ (match (Region.ready .any ops listed)[t % (Region.ready .any ops listed).length]? with
      | some i => Region.linearise.go .any ops n (t / (Region.ready .any ops listed).length) (listed.setIfInBounds i true) [i]
      | none => [].reverse) ↔ i ∈ L) ∧ Valid M (match (Region.ready .any ops listed)[t % (Region.ready .any ops listed).length]? with
      | some i => Region.linearise.go .any ops n (t / (Region.ready .any ops listed).length) (listed.setIfInBounds i true) [i]
      | none => [].reverse)
    have hlt' : t % (Region.ready .any ops listed).length < (Region.ready .any ops listed).length := Nat.mod_lt _ hlen
    rw [List.getElem?_eq_getElem hlt']
    have hi : (Region.ready .any ops listed)[t % (Region.ready .any ops listed).length] ∈ Region.ready .any ops listed := List.getElem_mem _
    generalize (Region.ready .any ops listed)[t % (Region.ready .any ops listed).length] = i at *
    simp only
    rw [linearise_go_acc, List.reverse_singleton, List.singleton_append]
    obtain ⟨h0, o, ho, hall⟩ := mem_ready.1 hi
    have hlt : i < ops.size := (Array.getElem?_eq_some_iff.1 ho).1
    obtain ⟨p, s, rfl⟩ := List.append_of_mem ((hL i).2 ⟨hlt, h0⟩)
    have hpa := List.pairwise_append.1 hp
    have hps : (p ++ s).Pairwise (· ≠ ·) := hp.sublist ((List.Sublist.refl p).append (List.sublist_cons_self i s))
    have hnp : i ∉ p := fun hm => (hpa.2.2 i hm i List.mem_cons_self) rfl
    have hns : i ∉ s := fun hm => ((List.pairwise_cons.1 hpa.2.1).1 i hm) rfl
    obtain ⟨ih1, ih2⟩ := ih (t / (Region.ready .any ops listed).length) (listed.setIfInBounds i true) (p ++ s) (by simp at hn ⊢; omega) (by simpa using hsz) (by
      intro k
      by_cases hik : i = k
      · subst hik
        have hls : i < listed.size := by omega
        simp [hnp, hns, hls]
      · rw [getD_set_ne true hik, ← hL k]
        simp [Ne.symm hik]) hps (by
      intro k ok hk hl e he hb
      by_cases hik : i = k
      · subst hik
        rw [ho] at hk
        injection hk with hk
        subst hk
        exact getD_set_true (hall e he hb)
      · rw [getD_set_ne true hik] at hl
        exact getD_set_true (hc k ok hk hl e he hb))
    refine ⟨fun k => ?_, List.pairwise_cons.2 ⟨fun y hy => ?_, ih2⟩⟩
    · rw [List.mem_cons, ih1 k]
      simp only [List.mem_append, List.mem_cons]
      constructor
      · rintro (h | h | h)
        · exact .inr (.inl h)
        · exact .inl h
        · exact .inr (.inr h)
      · rintro (h | h | h)
        · exact .inr (.inl h)
        · exact .inl h
        · exact .inr (.inr h)
    · have hy' := (ih1 y).1 hy
      refine ⟨fun e => ?_, ?_⟩
      · subst e
        rcases List.mem_append.1 hy' with h | h
        · exact hnp h
        · exact hns h
      · cases hb : (M.getD i 0).testBit y with
        | false => rfl
        | true =>
          have h1 := dep_listed hM hc i i (Nat.le_refl _) (fun o' ho' => by rw [ho] at ho'; injection ho' with ho'; subst ho'; exact hall) hlt y hb
          have h2 := ((hL y).1 (by
            rcases List.mem_append.1 hy' with h | h
            · exact List.mem_append_left _ h
            · exact List.mem_append_right _ (List.mem_cons_of_mem _ h))).2
          rw [getD_tf h1] at h2
          cases h2

/-- i comes ahead of j in s. -/
def Ahead : List Nat → Nat → Nat → Prop
  | [], _, _ => False
  | x :: s, i, j => (x = i ∧ j ∈ s) ∨ Ahead s i j
theorem ahead_mem : ∀ {s : List Nat} {i j : Nat}, Ahead s i j → i ∈ s ∧ j ∈ s
  | x :: s, i, j, h => by
    rcases h with ⟨rfl, h⟩ | h
    · exact ⟨List.mem_cons_self, List.mem_cons_of_mem _ h⟩
    · obtain ⟨h1, h2⟩ := ahead_mem h
      exact ⟨List.mem_cons_of_mem _ h1, List.mem_cons_of_mem _ h2⟩
theorem ops_of (hN : Region.noSelect ops = true) {Q : Exit → Act → World → Prop} : ∀ (s L : List Nat) (a : Act) (w : World), (∀ i, i ∈ s ↔ i ∈ L) → s.Pairwise (· ≠ ·) → L.Pairwise (fun j i => j ≠ i ∧ (Ahead s i j → commI P ops G.G G.F j i = true)) → (∀ i ∈ s, i < ops.size) → G.S w →
    wpE P ops G (Q .normal) (lst ops L) a w → wpOps P ops Q s a w
  | [], L, a, w, hm, hs, hp, hsz, hS, h => by
    obtain rfl : L = [] := by
      cases L with
      | nil => rfl
      | cons x xs => exact absurd ((hm x).2 List.mem_cons_self) (by simp)
    exact h
  | x :: s, L, a, w, hm, hs, hp, hsz, hS, h => by
    obtain ⟨p, q, rfl⟩ := List.append_of_mem ((hm x).1 List.mem_cons_self)
    have hpa := List.pairwise_append.1 hp
    have hnp : x ∉ p := fun hm => (hpa.2.2 x hm x List.mem_cons_self).1 rfl
    have hnq : x ∉ q := fun hm => ((List.pairwise_cons.1 hpa.2.1).1 x hm).1 rfl
    have hxs : ∀ y ∈ s, x ≠ y := (List.pairwise_cons.1 hs).1
    have hcm : ∀ j ∈ p, commI P ops G.G G.F j x = true := fun j hj => (hpa.2.2 j hj x List.mem_cons_self).2 (.inl ⟨rfl, by
      have := (hm j).2 (List.mem_append_left _ hj)
      rcases List.mem_cons.1 this with rfl | h
      · exact absurd hj hnp
      · exact h⟩)
    have hlt : x < ops.size := hsz x List.mem_cons_self
    have ho : ops[x]? = some ops[x] := Array.getElem?_eq_getElem hlt
    have h' := move_ hN p hcm a w hS h
    rw [lst_cons ho] at h'
    rw [wpOps_cons]
    refine wpOp_mono (fun a' w' hx => ops_of hN s (p ++ q) a' w' (fun i => ?_) (List.pairwise_cons.1 hs).2 ?_ (fun i hi => hsz i (List.mem_cons_of_mem _ hi)) hx.1 hx.2) (head_ ho hS h')
    · constructor
      · intro hi
        have := (hm i).1 (List.mem_cons_of_mem _ hi)
        have hne := hxs i hi
        simp only [List.mem_append, List.mem_cons] at this ⊢
        rcases this with h | h | h
        · exact .inl h
        · exact absurd h.symm hne
        · exact .inr h
      · intro hi
        have h1 : i ∈ x :: s := (hm i).2 (by
          simp only [List.mem_append, List.mem_cons] at hi ⊢
          rcases hi with h | h
          · exact .inl h
          · exact .inr (.inr h))
        rcases List.mem_cons.1 h1 with rfl | h2
        · rcases List.mem_append.1 hi with h | h
          · exact absurd h hnp
          · exact absurd h hnq
        · exact h2
    · exact (hp.sublist ((List.Sublist.refl p).append (List.sublist_cons_self x q))).imp fun h => ⟨h.1, fun ha => h.2 (.inr ha)⟩

def before : List Nat → Nat → Nat → Bool
  | [], _, _ => false
  | x :: r, j, i => if x == j then r.contains i else before r j i
theorem pairwise_before : ∀ {L : List Nat}, L.Pairwise (· ≠ ·) → L.Pairwise (fun j i => before L j i = true)
  | [], _ => List.Pairwise.nil
  | x :: r, h => by
    obtain ⟨h1, h2⟩ := List.pairwise_cons.1 h
    refine List.Pairwise.cons (fun i hi => by simp [before, hi]) ?_
    refine List.Pairwise.imp_of_mem (fun {j i} hj hi h => ?_) (pairwise_before h2)
    have : (x == j) = false := by simpa using h1 j hj
    simp [before, this, h]

/-- Whatever order the operations X come in, one of Ls serves. -/
def cov (P : Program) (ops : Array Oper) (G : Bool) (F : List Tmp) (M : List Nat) : Nat → List Nat → List (List Nat) → Bool
  | 0, _, Ls => !Ls.isEmpty
  | n + 1, rem, Ls => !Ls.isEmpty && rem.all fun x => (rem.any fun y => y != x && (M.getD x 0).testBit y) || cov P ops G F M n (rem.filter fun y => y != x) (Ls.filter fun L => rem.all fun j => j == x || !before L j x || commI P ops G F j x)
theorem cov_spec {b : Bool} {F : List Tmp} {M : List Nat} : ∀ (s : List Nat) (n : Nat) (rem : List Nat) (Ls : List (List Nat)), cov P ops b F M n rem Ls = true → rem.length ≤ n → (∀ i ∈ rem, i ∈ s) → Valid M s →
    ∃ L ∈ Ls, ∀ j i, j ∈ rem → i ∈ rem → Ahead s i j → before L j i = true → commI P ops b F j i = true := by
  intro s
  induction s with
  | nil =>
    intro n rem Ls hc hn hm hv
    obtain rfl : rem = [] := List.eq_nil_iff_forall_not_mem.2 fun i hi => absurd (hm i hi) (by simp)
    have : Ls.isEmpty = false := by
      cases n <;> simp [cov] at hc <;> simpa using hc
    cases Ls with
    | nil => cases this
    | cons L r => exact ⟨L, List.mem_cons_self, fun j i hj => absurd hj (by simp)⟩
  | cons x s ih =>
    intro n rem Ls hc hn hm hv
    obtain ⟨hv1, hv2⟩ := List.pairwise_cons.1 hv
    by_cases hx : x ∈ rem
    · cases n with
      | zero =>
        obtain rfl : rem = [] := List.eq_nil_of_length_eq_zero (by omega)
        cases hx
      | succ n =>
        simp only [cov, Bool.and_eq_true] at hc
        have h1 := List.all_eq_true.1 hc.2 x hx
        rw [Bool.or_eq_true] at h1
        rcases h1 with h1 | h1
        · exfalso
          obtain ⟨y, hy, hxy⟩ := List.any_eq_true.1 h1
          simp only [Bool.and_eq_true, bne_iff_ne] at hxy
          rcases List.mem_cons.1 (hm y hy) with rfl | h2
          · exact hxy.1 rfl
          · rw [(hv1 y h2).2] at hxy
            exact Bool.noConfusion hxy.2
        · have hlen : (rem.filter fun y => y != x).length ≤ n := by
            have : (rem.filter fun y => y != x).length < rem.length := by
              rw [List.length_filter_lt_length_iff_exists]
              exact ⟨x, hx, by simp⟩
            omega
          obtain ⟨L, hL, hp⟩ := ih n _ _ h1 hlen (fun i hi => by
            obtain ⟨hi1, hi2⟩ := List.mem_filter.1 hi
            rcases List.mem_cons.1 (hm i hi1) with rfl | h2
            · simp at hi2
            · exact h2) hv2
          obtain ⟨hL1, hL2⟩ := List.mem_filter.1 hL
          refine ⟨L, hL1, fun j i hj hi ha hb => ?_⟩
          have hnx : ∀ y ∈ s, y ≠ x := fun y hy e => (hv1 y hy).1 e.symm
          rcases ha with ⟨rfl, hjs⟩ | ha
          · have := List.all_eq_true.1 hL2 j hj
            have hjx := hnx j hjs
            simpa [hb, hjx] using this
          · obtain ⟨ha1, ha2⟩ := ahead_mem ha
            exact hp j i (List.mem_filter.2 ⟨hj, by simpa using hnx j ha2⟩) (List.mem_filter.2 ⟨hi, by simpa using hnx i ha1⟩) ha hb
    · obtain ⟨L, hL, hp⟩ := ih n rem Ls hc hn (fun i hi => by
        rcases List.mem_cons.1 (hm i hi) with rfl | h2
        · exact absurd hi hx
        · exact h2) hv2
      refine ⟨L, hL, fun j i hj hi ha hb => hp j i hj hi ?_ hb⟩
      rcases ha with ⟨rfl, _⟩ | ha
      · exact absurd hi hx
      · exact ha

def pairM (P : Program) (ops : Array Oper) (G : Bool) (F : List Tmp) (M X : List Nat) : List Nat → Bool
  | [] => true
  | j :: r => r.all (fun i => i != j && ((M.getD i 0).testBit j || commI P ops G F j i || (X.contains j && X.contains i))) && pairM P ops G F M X r
theorem pairM_spec {b : Bool} {F : List Tmp} {M X : List Nat} : ∀ {L : List Nat}, pairM P ops b F M X L = true → L.Pairwise (fun j i => i ≠ j ∧ ((M.getD i 0).testBit j = true ∨ commI P ops b F j i = true ∨ (j ∈ X ∧ i ∈ X)))
  | [], _ => List.Pairwise.nil
  | j :: r, h => by
    simp only [pairM, Bool.and_eq_true] at h
    refine List.Pairwise.cons (fun i hi => ?_) (pairM_spec h.2)
    have := List.all_eq_true.1 h.1 i hi
    simp only [Bool.and_eq_true, bne_iff_ne, Bool.or_eq_true, List.contains_iff_mem] at this
    exact ⟨this.1, by rcases this.2 with (h | h) | h <;> first | exact .inl h | exact .inr (.inl h) | exact .inr (.inr h)⟩
/-- The orders Ls serve for every order that the edges allow; X: the operations that do not commute. -/
def chkM (P : Program) (ops : Array Oper) (G : Bool) (F : List Tmp) (X : List Nat) (Ls : List (List Nat)) : Bool :=
  Region.noSelect ops && okMasks ops (masks ops) && X.all (fun i => decide (i < ops.size)) && cov P ops G F (masks ops) X.length X Ls &&
    Ls.all fun L => pairM P ops G F (masks ops) X L && (List.range ops.size).all (fun i => L.contains i) && L.all (fun i => decide (i < ops.size)) && L.length == ops.size
theorem valid_not {M : List Nat} : ∀ {s : List Nat}, Valid M s → ∀ {i j : Nat}, Ahead s i j → (M.getD i 0).testBit j = false
  | x :: s, h, i, j, ha => by
    obtain ⟨h1, h2⟩ := List.pairwise_cons.1 h
    rcases ha with ⟨rfl, hj⟩ | ha
    · exact (h1 j hj).2
    · exact valid_not h2 ha
theorem region_m {id : Nat} {l : List Oper} {a : Act} {w : World} {Q : Exit → Act → World → Prop} (X : List Nat) (Ls : List (List Nat)) (S : World → Prop) (G : Bool) (F : List Tmp) (hm : P.follows .mixedOrders = true) (hc : chkM P l.toArray G F X Ls = true) (hS : S w.drew)
    (h : ∀ L ∈ Ls, wpE P l.toArray ⟨S, G, F⟩ (Q .normal) (lst l.toArray L) a w.drew) : (Code.region id l.toArray true).wp P Q a w := by
  simp only [chkM, Bool.and_eq_true] at hc
  obtain ⟨⟨⟨⟨h1, h2⟩, h3⟩, h4⟩, h5⟩ := hc
  refine wp_region_draw fun t => ?_
  simp only [Region.schedule, hm, Bool.true_or, if_true]
  have hall : ∀ L ∈ Ls, L.Pairwise (· ≠ ·) ∧ (∀ i, i ∈ L ↔ i < l.toArray.size) ∧ L.length = l.toArray.size ∧ L.Pairwise (fun j i => i ≠ j ∧ (((masks l.toArray).getD i 0).testBit j = true ∨ commI P l.toArray G F j i = true ∨ (j ∈ X ∧ i ∈ X))) := by
    intro L hL
    have := List.all_eq_true.1 h5 L hL
    simp only [Bool.and_eq_true, beq_iff_eq] at this
    obtain ⟨⟨⟨g1, g2⟩, g3⟩, g4⟩ := this
    have hp := pairM_spec g1
    refine ⟨hp.imp fun h => Ne.symm h.1, fun i => ⟨fun hi => by simpa using List.all_eq_true.1 g3 i hi, fun hi => by simpa using List.all_eq_true.1 g2 i (List.mem_range.2 hi)⟩, g4, hp⟩
  have hne : ∃ L0, L0 ∈ Ls := by
    have : Ls.isEmpty = false := by
      cases hX : X.length <;> rw [hX] at h4 <;> simp [cov] at h4 <;> simp [h4]
    cases Ls with
    | nil => cases this
    | cons L r => exact ⟨L, List.mem_cons_self⟩
  obtain ⟨L0, hL0⟩ := hne
  obtain ⟨e1, e2, e3, _⟩ := hall L0 hL0
  have hlin := lin_valid (ops := l.toArray) h2 l.toArray.size t (Array.replicate l.toArray.size false) L0 e3 (by simp) (fun i => by
    rw [e2 i]
    constructor
    · intro hi
      refine ⟨hi, ?_⟩
      simp at hi
      simp [hi]
    · exact fun hi => hi.1) e1 (fun k o hk hl => by
      obtain ⟨hk', _⟩ := Array.getElem?_eq_some_iff.1 hk
      simp at hk'
      simp [hk'] at hl)
  change wpOps P l.toArray Q (Region.linearise.go .any l.toArray l.toArray.size t (Array.replicate l.toArray.size false) []) a w.drew
  generalize Region.linearise.go .any l.toArray l.toArray.size t (Array.replicate l.toArray.size false) [] = s at *
  obtain ⟨hmem, hv⟩ := hlin
  obtain ⟨L, hL, hp⟩ := cov_spec s X.length X Ls h4 (Nat.le_refl _) (fun i hi => (hmem i).2 ((e2 i).2 (by simpa using List.all_eq_true.1 h3 i hi))) hv
  obtain ⟨f1, f2, f3, f4⟩ := hall L hL
  refine ops_of (G := ⟨S, G, F⟩) h1 s L a _ (fun i => by rw [hmem i, e2 i, f2 i]) (hv.imp fun h => h.1) ?_ (fun i hi => (e2 i).1 ((hmem i).1 hi)) hS (h L hL)
  have hb := pairwise_before f1
  refine (f4.and hb).imp fun {j i} h => ⟨Ne.symm h.1.1, fun ha => ?_⟩
  rcases h.1.2 with g | g | ⟨g1, g2⟩
  · rw [valid_not hv ha] at g; cases g
  · exact g
  · exact hp j i g1 g2 ha h.2
end
end Ord
end Go.Proofs.YtonejdjhdjckjaaGreat
