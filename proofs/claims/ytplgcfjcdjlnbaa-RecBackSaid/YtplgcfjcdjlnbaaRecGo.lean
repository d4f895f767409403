/-
  How a record is taken by what changed, place by place: the plain law of the loop.
-/
import Derived.Test.YtplgcfjcdjlnbaaRecLaw
set_option linter.unusedSimpArgs false
set_option linter.unusedVariables false
namespace Go.Proofs.Ytplgcfjcdjlnbaa
open Go.RowKit NumLaw

/-- The mask, and the bytes behind it. -/
def tkM (b : List UInt8) : Nat := (varT (b.drop (varT b).2.1)).1
def tkK (b : List UInt8) : Nat := (varT b).2.1 + (varT (b.drop (varT b).2.1)).2.1
/-- The first i numbers are pre, and kk bytes are read. -/
def TkG (t : Nat) (V : List Int) (b : List UInt8) (i : Nat) (pre : List Int) (kk : Nat) : Prop :=
  kk ≤ b.length ∧ pre.length = i ∧ (∀ x ∈ pre, in32 x) ∧
  recTE V b = (tdL (V.drop i) (tkM b / 2 ^ i) (b.drop kk)).2.2 ∧
  ((tdL (V.drop i) (tkM b / 2 ^ i) (b.drop kk)).2.2 = 0 → recTt t V b = (t + (varT b).1) % 4294967296 ∧ recTV V b = pre ++ (tdL (V.drop i) (tkM b / 2 ^ i) (b.drop kk)).1 ∧ recTn V b = kk + (tdL (V.drop i) (tkM b / 2 ^ i) (b.drop kk)).2.1)
/-- The error of one place. -/
def byF (q : Nat × Nat × Nat) (x : Int) : Nat := if q.2.2 = 0 then if zagV q.1 = 0 ∨ x + zagV q.1 < -2147483648 ∨ 2147483647 < x + zagV q.1 then 5 else 0 else q.2.2
theorem recTE_1 {V : List Int} {b : List UInt8} (h : (varT b).2.2 ≠ 0) : recTE V b = (varT b).2.2 := by unfold recTE; rw [if_neg h]
theorem recTE_2 {V : List Int} {b : List UInt8} (h : (varT b).2.2 = 0) (h2 : 4294967295 < (varT b).1) : recTE V b = 5 := by unfold recTE; rw [if_pos h, if_pos h2]
theorem recTE_3 {V : List Int} {b : List UInt8} (h : (varT b).2.2 = 0) (h2 : ¬ 4294967295 < (varT b).1) (h3 : (varT (b.drop (varT b).2.1)).2.2 ≠ 0) : recTE V b = (varT (b.drop (varT b).2.1)).2.2 := by
  unfold recTE; rw [if_pos h, if_neg h2, if_neg h3]
theorem recTE_4 {V : List Int} {b : List UInt8} (h : (varT b).2.2 = 0) (h2 : ¬ 4294967295 < (varT b).1) (h3 : (varT (b.drop (varT b).2.1)).2.2 = 0) (h4 : 4095 < tkM b) : recTE V b = 5 := by
  unfold recTE; rw [if_pos h, if_neg h2, if_pos h3]; unfold tkM at h4; rw [if_pos h4]
theorem recT_bad {t : Nat} {V : List Int} {b : List UInt8} (h : recTE V b ≠ 0) : recTt t V b = 0 ∧ recTV V b = List.replicate 12 0 ∧ recTn V b = 0 := by
  unfold recTt recTV recTn
  rw [if_neg h, if_neg h, if_neg h]
  exact ⟨rfl, rfl, rfl⟩
theorem tkK_le {b : List UInt8} (h : (varT b).2.2 = 0) (h3 : (varT (b.drop (varT b).2.1)).2.2 = 0) : tkK b ≤ b.length := by
  have h1 := (varT_back h).2.1
  have h2 := (varT_back h3).2.1
  rw [List.length_drop] at h2
  unfold tkK
  omega
theorem tk_start {t : Nat} {V : List Int} {b : List UInt8} (h : (varT b).2.2 = 0) (h2 : ¬ 4294967295 < (varT b).1) (h3 : (varT (b.drop (varT b).2.1)).2.2 = 0) (h4 : ¬ 4095 < tkM b) : TkG t V b 0 [] (tkK b) := by
  have e : recTE V b = (tdL V (tkM b) (b.drop (tkK b))).2.2 := by
    unfold recTE
    rw [if_pos h, if_neg h2, if_pos h3]
    unfold tkM at h4
    rw [if_neg h4, List.drop_drop]
    rfl
  refine ⟨tkK_le h h3, rfl, by simp, ?_, fun h5 => ?_⟩
  · rw [Nat.pow_zero, Nat.div_one, List.drop_zero]; exact e
  · rw [Nat.pow_zero, Nat.div_one, List.drop_zero] at h5 ⊢
    have h0 : recTE V b = 0 := e.trans h5
    unfold recTt recTV recTn
    rw [if_pos h0, if_pos h0, if_pos h0, List.drop_drop]
    exact ⟨rfl, rfl, rfl⟩
theorem tk_half (m i : Nat) : m / 2 ^ i / 2 = m / 2 ^ (i + 1) := by rw [Nat.pow_succ, Nat.div_div_eq_div_mul]
theorem tk_skip {t : Nat} {V : List Int} {b : List UInt8} {i : Nat} {pre : List Int} {kk : Nat} {x : Int} (h : TkG t V b i pre kk) (hx : V[i]? = some x) (h32 : in32 x) (hm : ¬ tkM b / 2 ^ i % 2 = 1) : TkG t V b (i + 1) (pre ++ [x]) kk := by
  obtain ⟨a1, a2, a3, a4, a5⟩ := h
  have hd : V.drop i = x :: V.drop (i + 1) := by
    have hi := (List.getElem?_eq_some_iff.1 hx).1
    rw [List.drop_eq_getElem_cons hi, (List.getElem?_eq_some_iff.1 hx).2]
  rw [hd, tdL_skip hm, tk_half] at a4 a5
  unfold TkG
  generalize tdL (V.drop (i + 1)) (tkM b / 2 ^ (i + 1)) (b.drop kk) = r at *
  refine ⟨a1, by simp [a2], fun y hy => ?_, ?_, fun h5 => ?_⟩
  · rcases List.mem_append.1 hy with hy | hy
    · exact a3 y hy
    · simp at hy; subst hy; exact h32
  · split at a4
    · rename_i h0; rw [h0]; exact a4
    · exact a4
  · rw [if_pos h5] at a5
    obtain ⟨b1, b2, b3⟩ := a5 rfl
    exact ⟨b1, by rw [b2]; simp, b3⟩
theorem tk_one {t : Nat} {V : List Int} {b : List UInt8} {i : Nat} {pre : List Int} {kk : Nat} {x : Int} (h : TkG t V b i pre kk) (hx : V[i]? = some x) (hm : tkM b / 2 ^ i % 2 = 1) (hb : byF (varT (b.drop kk)) x = 0) : TkG t V b (i + 1) (pre ++ [x + zagV (varT (b.drop kk)).1]) (kk + (varT (b.drop kk)).2.1) := by
  obtain ⟨a1, a2, a3, a4, a5⟩ := h
  have hd : V.drop i = x :: V.drop (i + 1) := by
    have hi := (List.getElem?_eq_some_iff.1 hx).1
    rw [List.drop_eq_getElem_cons hi, (List.getElem?_eq_some_iff.1 hx).2]
  unfold byF at hb
  split at hb
  · rename_i h2
    split at hb
    · cases hb
    · rename_i h3
      rw [hd, tdL_one hm h2 h3, tk_half, List.drop_drop] at a4 a5
      have hl := (varT_back h2).2.1
      rw [List.length_drop] at hl
      unfold TkG
      generalize tdL (V.drop (i + 1)) (tkM b / 2 ^ (i + 1)) (b.drop (kk + (varT (b.drop kk)).2.1)) = r at *
      refine ⟨by omega, by simp [a2], fun y hy => ?_, ?_, fun h5 => ?_⟩
      · rcases List.mem_append.1 hy with hy | hy
        · exact a3 y hy
        · simp at hy; subst hy; unfold in32; omega
      · split at a4
        · rename_i h0; rw [h0]; exact a4
        · exact a4
      · rw [if_pos h5] at a5
        obtain ⟨b1, b2, b3⟩ := a5 rfl
        exact ⟨b1, by rw [b2]; simp, by rw [b3]; simp only; omega⟩
  · rename_i h2; exact absurd hb h2
theorem tk_bad {t : Nat} {V : List Int} {b : List UInt8} {i : Nat} {pre : List Int} {kk : Nat} {x : Int} (h : TkG t V b i pre kk) (hx : V[i]? = some x) (hm : tkM b / 2 ^ i % 2 = 1) (hb : byF (varT (b.drop kk)) x ≠ 0) : recTE V b = byF (varT (b.drop kk)) x := by
  obtain ⟨a1, a2, a3, a4, a5⟩ := h
  have hd : V.drop i = x :: V.drop (i + 1) := by
    have hi := (List.getElem?_eq_some_iff.1 hx).1
    rw [List.drop_eq_getElem_cons hi, (List.getElem?_eq_some_iff.1 hx).2]
  rw [a4, hd]
  unfold byF at hb ⊢
  split at hb
  · rename_i h2
    rw [if_pos h2]
    split at hb
    · rename_i h3; rw [if_pos h3, tdL_rng hm h2 h3]
    · exact absurd rfl hb
  · rename_i h2
    rw [if_neg h2, tdL_err hm h2]
theorem tk_done {t : Nat} {V : List Int} {b : List UInt8} {pre : List Int} {kk : Nat} (h : TkG t V b 12 pre kk) (hV : V.length = 12) :
    recTE V b = 0 ∧ recTt t V b = (t + (varT b).1) % 4294967296 ∧ recTV V b = pre ∧ recTn V b = kk := by
  obtain ⟨a1, a2, a3, a4, a5⟩ := h
  have hd : V.drop 12 = [] := List.drop_eq_nil_of_le (by omega)
  rw [hd] at a4 a5
  obtain ⟨b1, b2, b3⟩ := a5 rfl
  exact ⟨a4, b1, by rw [b2]; simp [tdL], b3⟩

end Go.Proofs.Ytplgcfjcdjlnbaa
