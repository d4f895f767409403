/-
  The plain law of layer 34: a record by what changed, there and back.
-/
import Derived.Test.YtplgcfjcdjlnbaaVaryLaw
set_option linter.unusedSimpArgs false
set_option linter.unusedVariables false
namespace Go.Proofs.Ytplgcfjcdjlnbaa
open Go.RowKit NumLaw

def in32 (x : Int) : Prop := -2147483648 ≤ x ∧ x ≤ 2147483647
/-- The record's bytes, whole. -/
def recK (t : Nat) (V : List Int) : List UInt8 := bytesN 4 t ++ V.flatMap fun x => bytesN 4 (un x)
/-- By how much the numbers change, and which do. -/
def chL : List (Int × Int) → List Int
  | [] => []
  | p :: l => if p.1 = p.2 then chL l else (p.2 - p.1) :: chL l
def mkL : List (Int × Int) → Nat
  | [] => 0
  | p :: l => (if p.1 = p.2 then 0 else 1) + 2 * mkL l
def laterN (a b : Nat) : Nat := (b + 4294967296 - a) % 4294967296
def chB (l : List (Int × Int)) : List UInt8 := (chL l).flatMap fun d => varB (zigV d)
def recD (t : Nat) (V : List Int) (t' : Nat) (V' : List Int) : List UInt8 := varB (laterN t t') ++ (varB (mkL (V.zip V')) ++ chB (V.zip V'))
/-- The numbers of bytes: the numbers, how many bytes, the error. -/
def tdL : List Int → Nat → List UInt8 → List Int × Nat × Nat
  | [], _, _ => ([], 0, 0)
  | x :: l, m, b => if m % 2 = 1 then
      if (varT b).2.2 = 0 then
        if zagV (varT b).1 = 0 ∨ x + zagV (varT b).1 < -2147483648 ∨ 2147483647 < x + zagV (varT b).1 then ([], 0, 5) else
        if (tdL l (m / 2) (b.drop (varT b).2.1)).2.2 = 0 then ((x + zagV (varT b).1) :: (tdL l (m / 2) (b.drop (varT b).2.1)).1, (varT b).2.1 + (tdL l (m / 2) (b.drop (varT b).2.1)).2.1, 0) else ([], 0, (tdL l (m / 2) (b.drop (varT b).2.1)).2.2)
      else ([], 0, (varT b).2.2)
    else if (tdL l (m / 2) b).2.2 = 0 then (x :: (tdL l (m / 2) b).1, (tdL l (m / 2) b).2.1, 0) else ([], 0, (tdL l (m / 2) b).2.2)
/-- The error of bytes, by what changed. -/
def recTE (V : List Int) (b : List UInt8) : Nat :=
  if (varT b).2.2 = 0 then if 4294967295 < (varT b).1 then 5 else
    if (varT (b.drop (varT b).2.1)).2.2 = 0 then if 4095 < (varT (b.drop (varT b).2.1)).1 then 5 else
      (tdL V (varT (b.drop (varT b).2.1)).1 ((b.drop (varT b).2.1).drop (varT (b.drop (varT b).2.1)).2.1)).2.2
    else (varT (b.drop (varT b).2.1)).2.2
  else (varT b).2.2
def recTt (t : Nat) (V : List Int) (b : List UInt8) : Nat := if recTE V b = 0 then (t + (varT b).1) % 4294967296 else 0
def recTV (V : List Int) (b : List UInt8) : List Int :=
  if recTE V b = 0 then (tdL V (varT (b.drop (varT b).2.1)).1 ((b.drop (varT b).2.1).drop (varT (b.drop (varT b).2.1)).2.1)).1 else List.replicate 12 0
def recTn (V : List Int) (b : List UInt8) : Nat :=
  if recTE V b = 0 then (varT b).2.1 + (varT (b.drop (varT b).2.1)).2.1 + (tdL V (varT (b.drop (varT b).2.1)).1 ((b.drop (varT b).2.1).drop (varT (b.drop (varT b).2.1)).2.1)).2.1 else 0

theorem tdL_skip {x : Int} {l : List Int} {m : Nat} {b : List UInt8} (h : ¬ m % 2 = 1) : tdL (x :: l) m b = if (tdL l (m / 2) b).2.2 = 0 then (x :: (tdL l (m / 2) b).1, (tdL l (m / 2) b).2.1, 0) else ([], 0, (tdL l (m / 2) b).2.2) := by
  conv => lhs; unfold tdL
  rw [if_neg h]
theorem tdL_err {x : Int} {l : List Int} {m : Nat} {b : List UInt8} (h : m % 2 = 1) (h2 : (varT b).2.2 ≠ 0) : tdL (x :: l) m b = ([], 0, (varT b).2.2) := by
  conv => lhs; unfold tdL
  rw [if_pos h, if_neg h2]
theorem tdL_rng {x : Int} {l : List Int} {m : Nat} {b : List UInt8} (h : m % 2 = 1) (h2 : (varT b).2.2 = 0) (h3 : zagV (varT b).1 = 0 ∨ x + zagV (varT b).1 < -2147483648 ∨ 2147483647 < x + zagV (varT b).1) : tdL (x :: l) m b = ([], 0, 5) := by
  conv => lhs; unfold tdL
  rw [if_pos h, if_pos h2, if_pos h3]
theorem tdL_one {x : Int} {l : List Int} {m : Nat} {b : List UInt8} (h : m % 2 = 1) (h2 : (varT b).2.2 = 0) (h3 : ¬ (zagV (varT b).1 = 0 ∨ x + zagV (varT b).1 < -2147483648 ∨ 2147483647 < x + zagV (varT b).1)) :
    tdL (x :: l) m b = if (tdL l (m / 2) (b.drop (varT b).2.1)).2.2 = 0 then ((x + zagV (varT b).1) :: (tdL l (m / 2) (b.drop (varT b).2.1)).1, (varT b).2.1 + (tdL l (m / 2) (b.drop (varT b).2.1)).2.1, 0) else ([], 0, (tdL l (m / 2) (b.drop (varT b).2.1)).2.2) := by
  conv => lhs; unfold tdL
  rw [if_pos h, if_pos h2, if_neg h3]
theorem tdL_there : ∀ (V V' : List Int) (R : List UInt8), V.length = V'.length → (∀ x ∈ V, in32 x) → (∀ x ∈ V', in32 x) → tdL V (mkL (V.zip V')) (chB (V.zip V') ++ R) = (V', (chB (V.zip V')).length, 0)
  | [], [], R, _, _, _ => rfl
  | [], y :: V', R, h, _, _ => by simp at h
  | x :: V, [], R, h, _, _ => by simp at h
  | x :: V, y :: V', R, h, hx, hy => by
    have ih := tdL_there V V' R (by simpa using h) (fun z hz => hx z (List.mem_cons_of_mem _ hz)) (fun z hz => hy z (List.mem_cons_of_mem _ hz))
    have h1 := hx x List.mem_cons_self
    have h2 := hy y List.mem_cons_self
    unfold in32 at h1 h2
    by_cases e : x = y
    · subst e
      have em : mkL ((x :: V).zip (x :: V')) = 2 * mkL (V.zip V') := by
        show (if x = x then 0 else 1) + 2 * mkL (V.zip V') = _
        rw [if_pos rfl, Nat.zero_add]
      have ec : chB ((x :: V).zip (x :: V')) = chB (V.zip V') := by
        unfold chB
        show List.flatMap _ (if x = x then _ else _) = _
        rw [if_pos rfl]
        rfl
      rw [em, ec, tdL_skip (by omega), Nat.mul_div_cancel_left _ (by omega), ih, if_pos rfl]
    · have em : mkL ((x :: V).zip (y :: V')) = 1 + 2 * mkL (V.zip V') := by
        show (if x = y then 0 else 1) + 2 * mkL (V.zip V') = _
        rw [if_neg e]
      have ec : chB ((x :: V).zip (y :: V')) = varB (zigV (y - x)) ++ chB (V.zip V') := by
        unfold chB
        show List.flatMap _ (if x = y then _ else _) = _
        rw [if_neg e]
        rfl
      have hv := varT_there (zigV (y - x)) (chB (V.zip V') ++ R) (zig_lt (by omega))
      rw [em, ec, List.append_assoc, tdL_one (by omega) (by rw [hv]) (by rw [hv, zag_zig]; omega), hv, zag_zig]
      simp only
      rw [show (1 + 2 * mkL (V.zip V')) / 2 = mkL (V.zip V') by omega, List.drop_append_of_le_length (Nat.le_refl _), List.drop_length, List.nil_append, ih, if_pos rfl, List.length_append]
      simp only [Prod.mk.injEq, List.cons.injEq, and_true]
      omega
theorem mkL_lt : ∀ (l : List (Int × Int)), mkL l < 2 ^ l.length
  | [] => by simp [mkL]
  | p :: l => by
    have := mkL_lt l
    unfold mkL
    rw [List.length_cons, Nat.pow_succ]
    split <;> omega
theorem tdL_back : ∀ (V : List Int) (m : Nat) (b : List UInt8), m < 2 ^ V.length → (∀ x ∈ V, in32 x) → (tdL V m b).2.2 = 0 →
    mkL (V.zip (tdL V m b).1) = m ∧ chB (V.zip (tdL V m b).1) = b.take (tdL V m b).2.1 ∧ (tdL V m b).2.1 ≤ b.length ∧ (tdL V m b).1.length = V.length ∧ ∀ x ∈ (tdL V m b).1, in32 x
  | [], m, b, hm, _, _ => by
    simp at hm
    subst hm
    simp [tdL, mkL, chB, chL]
  | x :: V, m, b, hm, hx, h => by
    have h1 := hx x List.mem_cons_self
    have hx' : ∀ z ∈ V, in32 z := fun z hz => hx z (List.mem_cons_of_mem _ hz)
    rw [List.length_cons, Nat.pow_succ] at hm
    by_cases hb : m % 2 = 1
    · by_cases h2 : (varT b).2.2 = 0
      · by_cases h3 : zagV (varT b).1 = 0 ∨ x + zagV (varT b).1 < -2147483648 ∨ 2147483647 < x + zagV (varT b).1
        · rw [tdL_rng hb h2 h3] at h; simp at h
        · rw [tdL_one hb h2 h3] at h ⊢
          by_cases h4 : (tdL V (m / 2) (b.drop (varT b).2.1)).2.2 = 0
          · rw [if_pos h4]
            obtain ⟨a1, a2, a3, a4, a5⟩ := tdL_back V (m / 2) _ (by omega) hx' h4
            obtain ⟨v1, v2, v3, v4⟩ := varT_back h2
            generalize tdL V (m / 2) (b.drop (varT b).2.1) = q at *
            generalize (varT b).2.1 = n at *
            have hzz : zigV (zagV (varT b).1) = (varT b).1 := zig_zag _
            generalize (varT b).1 = u at *
            refine ⟨?_, ?_, ?_, by simp [a4], ?_⟩
            · show (if x = x + zagV u then 0 else 1) + 2 * mkL (V.zip q.1) = m
              rw [if_neg (by omega), a1]
              omega
            · have ec : chB ((x :: V).zip ((x + zagV u) :: q.1)) = varB (zigV (x + zagV u - x)) ++ chB (V.zip q.1) := by
                unfold chB
                show List.flatMap _ (if x = x + zagV u then _ else _) = _
                rw [if_neg (by omega)]
                rfl
              show chB ((x :: V).zip ((x + zagV u) :: q.1)) = b.take (n + q.2.1)
              rw [ec, show x + zagV u - x = zagV u by omega, hzz, a2, ← v1, List.take_add]
            · rw [List.length_drop] at a3
              show n + q.2.1 ≤ b.length
              omega
            · intro z hz
              rcases List.mem_cons.1 hz with rfl | hz
              · unfold in32; omega
              · exact a5 z hz
          · rw [if_neg h4] at h; exact absurd h h4
      · rw [tdL_err hb h2] at h; exact absurd h h2
    · rw [tdL_skip hb] at h ⊢
      by_cases h4 : (tdL V (m / 2) b).2.2 = 0
      · rw [if_pos h4]
        obtain ⟨a1, a2, a3, a4, a5⟩ := tdL_back V (m / 2) b (by omega) hx' h4
        generalize tdL V (m / 2) b = q at *
        refine ⟨?_, ?_, a3, by simp [a4], ?_⟩
        · show (if x = x then 0 else 1) + 2 * mkL (V.zip q.1) = m
          rw [if_pos rfl, a1]
          omega
        · have ec : chB ((x :: V).zip (x :: q.1)) = chB (V.zip q.1) := by
            unfold chB
            show List.flatMap _ (if x = x then _ else _) = _
            rw [if_pos rfl]
            rfl
          show chB ((x :: V).zip (x :: q.1)) = b.take q.2.1
          rw [ec, a2]
        · intro z hz
          rcases List.mem_cons.1 hz with rfl | hz
          · exact h1
          · exact a5 z hz
      · rw [if_neg h4] at h; exact absurd h h4
theorem later_back {a b : Nat} (ha : a < 4294967296) (hb : b < 4294967296) : (a + laterN a b) % 4294967296 = b := by unfold laterN; omega
theorem later_there {a d : Nat} (ha : a < 4294967296) (hd : d < 4294967296) : laterN a ((a + d) % 4294967296) = d := by unfold laterN; omega
theorem later_lt (a b : Nat) : laterN a b < 4294967296 := by unfold laterN; omega
/-- What is laid is taken, whatever stands behind it. -/
theorem rec_there {t t' : Nat} {V V' : List Int} (R : List UInt8) (ht : t < 4294967296) (ht' : t' < 4294967296) (hl : V.length = 12) (hl' : V'.length = 12) (hV : ∀ x ∈ V, in32 x) (hV' : ∀ x ∈ V', in32 x) :
    recTE V (recD t V t' V' ++ R) = 0 ∧ recTt t V (recD t V t' V' ++ R) = t' ∧ recTV V (recD t V t' V' ++ R) = V' ∧ recTn V (recD t V t' V' ++ R) = (recD t V t' V').length := by
  have hk := mkL_lt (V.zip V')
  have hzl : (V.zip V').length = 12 := by rw [List.length_zip, hl, hl']; rfl
  rw [hzl] at hk
  have hk : mkL (V.zip V') < 4096 := hk
  have e0 : recD t V t' V' ++ R = varB (laterN t t') ++ (varB (mkL (V.zip V')) ++ (chB (V.zip V') ++ R)) := by unfold recD; simp [List.append_assoc]
  have l0 : (recD t V t' V').length = (varB (laterN t t')).length + ((varB (mkL (V.zip V'))).length + (chB (V.zip V')).length) := by unfold recD; rw [List.length_append, List.length_append]
  have hlt := later_lt t t'
  have v1 := varT_there (laterN t t') (varB (mkL (V.zip V')) ++ (chB (V.zip V') ++ R)) (by omega)
  have v2 := varT_there (mkL (V.zip V')) (chB (V.zip V') ++ R) (by omega)
  have v3 := tdL_there V V' R (by omega) hV hV'
  have d1 : (varB (laterN t t') ++ (varB (mkL (V.zip V')) ++ (chB (V.zip V') ++ R))).drop (varB (laterN t t')).length = varB (mkL (V.zip V')) ++ (chB (V.zip V') ++ R) := by
    rw [List.drop_append_of_le_length (Nat.le_refl _), List.drop_length, List.nil_append]
  have d2 : (varB (mkL (V.zip V')) ++ (chB (V.zip V') ++ R)).drop (varB (mkL (V.zip V'))).length = chB (V.zip V') ++ R := by
    rw [List.drop_append_of_le_length (Nat.le_refl _), List.drop_length, List.nil_append]
  have hE : recTE V (recD t V t' V' ++ R) = 0 := by
    unfold recTE
    rw [e0, v1]
    simp only [if_true]
    rw [if_neg (by omega), d1, v2]
    simp only [if_true]
    rw [if_neg (by omega), d2, v3]
  refine ⟨hE, ?_, ?_, ?_⟩
  · unfold recTt
    rw [if_pos hE, e0, v1]
    exact later_back ht ht'
  · unfold recTV
    rw [if_pos hE, e0, v1]
    simp only
    rw [d1, v2]
    simp only
    rw [d2, v3]
  · unfold recTn
    rw [if_pos hE, e0, v1]
    simp only
    rw [d1, v2]
    simp only
    rw [d2, v3, l0]
    simp only
    omega
/-- What is taken, laid, is those bytes. -/
theorem rec_back {t : Nat} {V : List Int} {b : List UInt8} (ht : t < 4294967296) (hl : V.length = 12) (hV : ∀ x ∈ V, in32 x) (h : recTE V b = 0) :
    recD t V (recTt t V b) (recTV V b) = b.take (recTn V b) ∧ recTn V b ≤ b.length ∧ 2 ≤ recTn V b ∧ (recTV V b).length = 12 ∧ (∀ x ∈ recTV V b, in32 x) ∧ recTt t V b < 4294967296 := by
  have et : recTt t V b = (t + (varT b).1) % 4294967296 := by unfold recTt; rw [if_pos h]
  have eV : recTV V b = (tdL V (varT (b.drop (varT b).2.1)).1 ((b.drop (varT b).2.1).drop (varT (b.drop (varT b).2.1)).2.1)).1 := by unfold recTV; rw [if_pos h]
  have en : recTn V b = (varT b).2.1 + (varT (b.drop (varT b).2.1)).2.1 + (tdL V (varT (b.drop (varT b).2.1)).1 ((b.drop (varT b).2.1).drop (varT (b.drop (varT b).2.1)).2.1)).2.1 := by unfold recTn; rw [if_pos h]
  rw [et, eV, en]
  clear et eV en
  unfold recTE at h
  split at h
  · rename_i h1
    split at h
    · cases h
    · rename_i h2
      split at h
      · rename_i h3
        split at h
        · cases h
        · rename_i h4
          obtain ⟨p1, p2, p3, p4⟩ := varT_back h1
          obtain ⟨q1, q2, q3, q4⟩ := varT_back h3
          obtain ⟨a1, a2, a3, a4, a5⟩ := tdL_back V _ _ (by rw [hl]; show _ < 4096; omega) hV h
          generalize (varT b).2.1 = n1 at *
          generalize (varT b).1 = u1 at *
          generalize hb1 : b.drop n1 = b1 at *
          generalize (varT b1).2.1 = n2 at *
          generalize (varT b1).1 = u2 at *
          generalize hb2 : b1.drop n2 = b2 at *
          generalize tdL V u2 b2 = q at *
          have k1 : b1.length = b.length - n1 := by rw [← hb1, List.length_drop]
          have k2 : b2.length = b1.length - n2 := by rw [← hb2, List.length_drop]
          refine ⟨?_, by omega, by omega, a4.trans hl, a5, by omega⟩
          unfold recD
          rw [later_there ht (by omega), a1, a2, ← p1, ← q1, show n1 + n2 + q.2.1 = n1 + (n2 + q.2.1) by omega, List.take_add, hb1, List.take_add, hb2]
      · rename_i h3; exact absurd h h3
  · rename_i h1; exact absurd h h1
/-- How many bytes. -/
theorem varN_short (k : Nat) : ∀ (j u : Nat), u < 128 ^ (j + 1) → (varN k u).length ≤ j + 1 := by
  induction k with
  | zero => intro j u _; show 1 ≤ _; omega
  | succ k ih =>
    intro j u h
    by_cases hu : u < 128
    · rw [varN_small hu]; show 1 ≤ _; omega
    · rw [varN_big hu, List.length_cons]
      cases j with
      | zero => rw [Nat.zero_add, Nat.pow_one] at h; exact absurd h hu
      | succ j =>
        have := ih j (u / 128) (by rw [Nat.pow_succ] at h; exact Nat.div_lt_of_lt_mul (by rw [Nat.mul_comm]; exact h))
        omega
theorem varB_short {u : Nat} (j : Nat) (h : u < 128 ^ (j + 1)) : (varB u).length ≤ j + 1 := varN_short 9 j u h
theorem varB_pos (u : Nat) : 1 ≤ (varB u).length := (varN_len 9 u).1
theorem chB_len : ∀ (l : List (Int × Int)), (∀ p ∈ l, in32 p.1 ∧ in32 p.2) → (chB l).length ≤ 5 * l.length
  | [], _ => by simp [chB, chL]
  | p :: l, h => by
    have ih := chB_len l (fun q hq => h q (List.mem_cons_of_mem _ hq))
    obtain ⟨h1, h2⟩ := h p List.mem_cons_self
    unfold in32 at h1 h2
    by_cases e : p.1 = p.2
    · have ec : chB (p :: l) = chB l := by
        unfold chB
        show List.flatMap _ (if p.1 = p.2 then _ else _) = _
        rw [if_pos e]
      rw [ec, List.length_cons]
      omega
    · have ec : chB (p :: l) = varB (zigV (p.2 - p.1)) ++ chB l := by
        unfold chB
        show List.flatMap _ (if p.1 = p.2 then _ else _) = _
        rw [if_neg e]
        rfl
      have := varB_short (u := zigV (p.2 - p.1)) 4 (by
        show _ < 34359738368
        unfold zigV
        split <;> omega)
      rw [ec, List.length_append, List.length_cons]
      omega
theorem recD_len {t t' : Nat} {V V' : List Int} (hl : V.length = 12) (hl' : V'.length = 12) (hV : ∀ x ∈ V, in32 x) (hV' : ∀ x ∈ V', in32 x) : 2 ≤ (recD t V t' V').length ∧ (recD t V t' V').length ≤ 67 := by
  have hk := mkL_lt (V.zip V')
  have hzl : (V.zip V').length = 12 := by rw [List.length_zip, hl, hl']; rfl
  rw [hzl] at hk
  have hk : mkL (V.zip V') < 4096 := hk
  have hlt := later_lt t t'
  have a1 := varB_short (u := laterN t t') 4 (by show _ < 34359738368; omega)
  have a2 := varB_short (u := mkL (V.zip V')) 1 (by show _ < 16384; omega)
  have a3 := chB_len (V.zip V') (fun p hp => ⟨hV _ (List.of_mem_zip hp).1, hV' _ (List.of_mem_zip hp).2⟩)
  have b1 := varB_pos (laterN t t')
  have b2 := varB_pos (mkL (V.zip V'))
  unfold recD
  rw [List.length_append, List.length_append]
  omega
theorem mkL_same : ∀ (V : List Int), mkL (V.zip V) = 0 ∧ chL (V.zip V) = []
  | [] => ⟨rfl, rfl⟩
  | x :: V => by
    obtain ⟨h1, h2⟩ := mkL_same V
    constructor
    · show (if x = x then 0 else 1) + 2 * mkL (V.zip V) = 0
      rw [if_pos rfl, h1]
    · show (if x = x then chL (V.zip V) else _) = []
      rw [if_pos rfl, h2]
theorem recD_two {t d : Nat} {V : List Int} (ht : t < 4294967296) (hd : d < 128) : (recD t V ((t + d) % 4294967296) V).length = 2 := by
  obtain ⟨h1, h2⟩ := mkL_same V
  unfold recD chB
  rw [later_there ht (by omega), h1, h2]
  unfold varB
  rw [varN_small hd, varN_small (by omega)]
  rfl

end Go.Proofs.Ytplgcfjcdjlnbaa
