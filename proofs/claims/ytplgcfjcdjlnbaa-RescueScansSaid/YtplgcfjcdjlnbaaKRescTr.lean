/-
  Plain laws of RescueTrue, RescueScans, RescueFound: which pages are bad; the places that Scan finds; the numbers that are missing.
-/
import Derived.Test.YtplgcfjcdjlnbaaKRescBs
set_option linter.unusedSimpArgs false
set_option linter.unusedVariables false
namespace Go.Proofs.Ytplgcfjcdjlnbaa
open Go.RowKit NumLaw CrcLaw

/-- The bad pages of so many from a page on. -/
def bdS (l : List UInt8) : Nat → Nat → List Nat
  | _, 0 => []
  | i, m + 1 => if goodR (pgR l i) i then bdS l (i + 1) m else i :: bdS l (i + 1) m
theorem bdS_ge {l : List UInt8} : ∀ (m i : Nat), ∀ x ∈ bdS l i m, i ≤ x
  | 0, i, x, h => by cases h
  | m + 1, i, x, h => by
    unfold bdS at h
    split at h
    · have := bdS_ge m (i + 1) x h; omega
    · rcases List.mem_cons.1 h with rfl | h
      · exact Nat.le_refl _
      · have := bdS_ge m (i + 1) x h; omega
theorem readS_bd {l : List UInt8} : ∀ (m i : Nat), (readS l (i + m)).2 = (readS l i).2 ++ bdS l i m
  | 0, i => by simp [bdS]
  | m + 1, i => by
    have ih := readS_bd (l := l) m (i + 1)
    rw [show i + (m + 1) = i + 1 + m by omega, ih]
    by_cases hg : goodR (pgR l i) i
    · rw [readS_good hg, bdS, if_pos hg]
    · rw [readS_bad hg, bdS, if_neg hg, List.append_assoc]; rfl
/-- At a page: is it the next bad one? -/
theorem bad_here {l : List UInt8} {N i : Nat} (hi : i < N) (hg : ¬ goodR (pgR l i) i) : (readS l N).2[(readS l i).2.length]? = some i := by
  obtain ⟨m, rfl⟩ : ∃ m, N = i + (m + 1) := ⟨N - i - 1, by omega⟩
  rw [readS_bd, List.getElem?_append_right (Nat.le_refl _), Nat.sub_self]
  unfold bdS
  rw [if_neg hg]
  rfl
theorem good_here {l : List UInt8} {N i k : Nat} (hi : i < N) (hg : goodR (pgR l i) i) (h : (readS l N).2[(readS l i).2.length]? = some k) : k ≠ i := by
  obtain ⟨m, rfl⟩ : ∃ m, N = i + (m + 1) := ⟨N - i - 1, by omega⟩
  rw [readS_bd, List.getElem?_append_right (Nat.le_refl _), Nat.sub_self] at h
  unfold bdS at h
  rw [if_pos hg] at h
  have := bdS_ge m (i + 1) k (List.mem_of_getElem? h)
  omega
theorem bads_le {l : List UInt8} {N i : Nat} (hi : i ≤ N) : (readS l i).2.length ≤ (readS l N).2.length := by
  obtain ⟨m, rfl⟩ : ∃ m, N = i + m := ⟨N - i, by omega⟩
  rw [readS_bd, List.length_append]
  omega

theorem pgP_pgR (l : List UInt8) (i : Nat) : pgP l (256 * i) = pgR l i := rfl
/-- The places of the blocks that are found, from a place on. -/
def scnP (l : List UInt8) : Nat → Nat → List Nat
  | 0, _ => []
  | f + 1, p => if p + 256 ≤ l.length then (if blkE (pgP l p) = 0 then p :: scnP l f (p + 256) else scnP l f (p + 1)) else []
theorem scnP_end {l : List UInt8} {f p : Nat} (h : ¬ p + 256 ≤ l.length) : scnP l f p = [] := by
  cases f with
  | zero => rfl
  | succ f => unfold scnP; rw [if_neg h]
/-- As long as there is fuel enough, it is the same how much. -/
theorem scnP_step {l : List UInt8} {f p : Nat} (h : p + 256 ≤ l.length) (hf : l.length < f + p) : ∃ f', f = f' + 1 ∧ scnP l f p = if blkE (pgP l p) = 0 then p :: scnP l f' (p + 256) else scnP l f' (p + 1) := by
  obtain ⟨f', rfl⟩ : ∃ j, f = j + 1 := ⟨f - 1, by omega⟩
  refine ⟨f', rfl, ?_⟩
  rw [scnP, if_pos h]
theorem scnP_fuel {l : List UInt8} : ∀ (f f' p : Nat), l.length < f + p → l.length < f' + p → scnP l f p = scnP l f' p
  | 0, f', p, h, h' => by rw [scnP_end (by omega), scnP_end (by omega)]
  | f + 1, 0, p, h, h' => by rw [scnP_end (by omega), scnP_end (by omega)]
  | f + 1, f' + 1, p, h, h' => by
    unfold scnP
    rw [scnP_fuel f f' (p + 256) (by omega) (by omega), scnP_fuel f f' (p + 1) (by omega) (by omega)]
def scnAll (l : List UInt8) : List Nat := scnP l (l.length + 1) 0

theorem pgP_pre {b s : List UInt8} {j : Nat} : pgP (b ++ s) (b.length + j) = pgP s j := by
  unfold pgP
  rw [List.drop_append, List.drop_eq_nil_of_le (by omega), List.nil_append, Nat.add_sub_cancel_left]
/-- Behind bytes of which none is 76 the blocks are found. -/
theorem scn_pre {b s : List UInt8} (hb : ∀ x ∈ b, x ≠ 76) : ∀ (k f : Nat), k ≤ b.length → (b ++ s).length < f + (b.length - k) → scnP (b ++ s) f (b.length - k) = scnP (b ++ s) ((b ++ s).length + 1) b.length
  | 0, f, _, hf => by
    rw [Nat.sub_zero] at hf ⊢
    exact scnP_fuel _ _ _ hf (by omega)
  | k + 1, f, hk, hf => by
    by_cases h : (b.length - (k + 1)) + 256 ≤ (b ++ s).length
    · obtain ⟨f', rfl, h2⟩ := scnP_step h hf
      have hp : b.length - (k + 1) < b.length := by omega
      have hne : ¬ blkE (pgP (b ++ s) (b.length - (k + 1))) = 0 := by
        refine blk_mark (s := pgP (b ++ s) (b.length - (k + 1))) ?_
        unfold pgP
        rw [List.getD_eq_getElem?_getD, List.getElem?_take_of_lt (by omega), List.getElem?_drop, Nat.add_zero, List.getElem?_append_left hp, List.getElem?_eq_getElem hp]
        intro h76
        exact hb _ (List.getElem_mem hp) (UInt8.toNat_inj.1 h76)
      rw [h2, if_neg hne, show b.length - (k + 1) + 1 = b.length - k by omega, scn_pre hb k f' (by omega) (by omega)]
    · rw [scnP_end h, scnP_end (by omega)]
theorem scn_cat {ev : Nat} {Bs : List (List En)} {b : List UInt8} (h : BsOK ev 0 Bs) (hn : Bs.length < 4294967296) : ∀ (m i f : Nat), i + m = Bs.length → (b ++ catB 0 Bs).length < f + (b.length + 256 * i) → scnP (b ++ catB 0 Bs) f (b.length + 256 * i) = (List.range' i m).map (fun j => b.length + 256 * j)
  | 0, i, f, hi, hf => by
    have hl := catB_len Bs 0 0 h (by omega)
    rw [scnP_end (by rw [List.length_append]; omega)]
    rfl
  | m + 1, i, f, hi, hf => by
    have hl := catB_len Bs 0 0 h (by omega)
    obtain ⟨L, hL⟩ : ∃ L, Bs[i]? = some L := ⟨_, List.getElem?_eq_getElem (by omega)⟩
    have hat := catB_at Bs 0 i 0 L h (by omega) hL
    rw [Nat.zero_add] at hat
    obtain ⟨q1, q2, _⟩ := BsOK_at Bs 0 i L h hL
    obtain ⟨t1, t2, t3, _⟩ := blk_there (no := i) (show i < 4294967296 by omega) q1.1 (logQ_put q1 q2)
    have hle : b.length + 256 * i + 256 ≤ (b ++ catB 0 Bs).length := by rw [List.length_append]; omega
    obtain ⟨f', rfl, h2⟩ := scnP_step hle hf
    have hpg : pgP (b ++ catB 0 Bs) (b.length + 256 * i) = putB i L := by rw [pgP_pre]; exact hat
    rw [h2, hpg, if_pos t1, show b.length + 256 * i + 256 = b.length + 256 * (i + 1) by omega, scn_cat h hn m (i + 1) f' (by omega) (by omega), List.range'_succ, List.map_cons]
/-- All blocks of a log are found. -/
theorem scn_all {ev : Nat} {Bs : List (List En)} {b : List UInt8} (hb : ∀ x ∈ b, x ≠ 76) (h : BsOK ev 0 Bs) (hn : Bs.length < 4294967296) : scnAll (b ++ catB 0 Bs) = (List.range' 0 Bs.length).map (fun j => b.length + 256 * j) := by
  unfold scnAll
  have h1 := scn_pre (s := catB 0 Bs) hb b.length ((b ++ catB 0 Bs).length + 1) (Nat.le_refl _) (by omega)
  rw [Nat.sub_self] at h1
  have h2 := scn_cat (b := b) h hn Bs.length 0 ((b ++ catB 0 Bs).length + 1) (by omega) (by omega)
  simp only [Nat.mul_zero, Nat.add_zero] at h2
  rw [h1, h2]

/-- How many numbers are missing, among so many of a list. -/
def gapD (a b : Nat) : Nat := b - a - 1
def gapS (N : List Nat) : Nat → Nat
  | 0 => 0
  | 1 => 0
  | k + 2 => gapS N (k + 1) + gapD (N.getD k 0) (N.getD (k + 1) 0)
theorem gapS_zero {N : List Nat} (h : ∀ i, i < N.length → N.getD i 0 = i) : ∀ k, k ≤ N.length → gapS N k = 0
  | 0, _ => rfl
  | 1, _ => rfl
  | k + 2, hk => by
    unfold gapS
    rw [gapS_zero h (k + 1) (by omega), h k (by omega), h (k + 1) (by omega)]
    unfold gapD
    omega
theorem gapS_le {N : List Nat} (h : ∀ x ∈ N, x < 4294967296) : ∀ k, k ≤ N.length → gapS N k ≤ 4294967296 * k
  | 0, _ => Nat.zero_le _
  | 1, _ => Nat.zero_le _
  | k + 2, hk => by
    unfold gapS
    have := gapS_le h (k + 1) (by omega)
    have h2 := h _ (List.getElem_mem (show k + 1 < N.length by omega))
    have h3 : N.getD (k + 1) 0 = N[k + 1] := by rw [List.getD_eq_getElem?_getD, List.getElem?_eq_getElem (by omega)]; rfl
    rw [h3]
    unfold gapD
    omega

end Go.Proofs.Ytplgcfjcdjlnbaa
