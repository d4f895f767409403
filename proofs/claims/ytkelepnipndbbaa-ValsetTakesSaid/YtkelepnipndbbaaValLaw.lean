/-
  The plain law of layer 20: pairs of keys and values there and back.
-/
import Derived.Test.YtkelepnipndbbaaCells
import Derived.Test.YtkelepnipndbbaaFldRow
set_option linter.unusedSimpArgs false
set_option linter.unusedVariables false
namespace Go.Proofs.Ytkelepnipndbbaa
open Go.RowKit NumLaw

def vhF : List FieldV := [⟨1, false, 0, 0⟩, ⟨1, false, 0, 7⟩, ⟨2, false, 0, 0⟩]
theorem vhF_b : FB vhF := by intro f hf; simp [vhF] at hf; rcases hf with rfl | rfl | rfl <;> simp
theorem vhF_right : rightL vhF = true := by decide
theorem vhF_sum : sumL vhF = 4 := by decide
/-- The number in a key's bits; 0: it is no key. -/
def kdN (k : Int) : Nat := if k < 0 ∨ 2147483647 < k then 0 else if 5 < k / 268435456 then 0 else (k / 268435456).toNat
def szT : List Nat := [0, 1, 1, 2, 4, 8]
def msT : List Nat := [0, 1, 255, 65535, 4294967295, 9223372036854775807]
def szN (k : Int) : Nat := szT.getD (kdN k) 0
def msN (k : Int) : Nat := msT.getD (kdN k) 0
theorem kdN_le (k : Int) : kdN k ≤ 5 := by unfold kdN; split <;> (try split) <;> omega
theorem kd_cases (k : Int) : kdN k = 0 ∨ kdN k = 1 ∨ kdN k = 2 ∨ kdN k = 3 ∨ kdN k = 4 ∨ kdN k = 5 := by have := kdN_le k; omega
theorem kd_in {k : Int} (h : kdN k ≠ 0) : 0 ≤ k ∧ k ≤ 2147483647 := by
  unfold kdN at h
  split at h
  · exact absurd rfl h
  · omega
theorem sz_in {k : Int} (h : szN k ≠ 0) : 0 ≤ k ∧ k ≤ 2147483647 := kd_in (fun e => h (by unfold szN; rw [e]; rfl))
theorem sz_le (k : Int) : szN k ≤ 8 := by unfold szN; rcases kd_cases k with h | h | h | h | h | h <;> rw [h] <;> decide
theorem ms_lt (k : Int) : msN k < 256 ^ szN k := by unfold msN szN; rcases kd_cases k with h | h | h | h | h | h <;> rw [h] <;> decide
theorem ms_le (k : Int) : msN k ≤ 9223372036854775807 := by unfold msN; rcases kd_cases k with h | h | h | h | h | h <;> rw [h] <;> decide
def valEL : List (Int × Int) → Nat
  | [] => 0
  | p :: l => if szN p.1 = 0 then 6 else if p.2 < 0 ∨ (msN p.1 : Int) < p.2 then 5 else valEL l
def prB (p : Int × Int) : List UInt8 := bytesN 4 p.1.toNat ++ bytesN (szN p.1) p.2.toNat
def vhV (t : Int) : List Int := [0, t, 0]
def valE (t : Int) (l : List (Int × Int)) : Nat := if 32 < l.length then 7 else if shE vhF (vhV t) = 0 then valEL l else shE vhF (vhV t)
def valB (t : Int) (l : List (Int × Int)) : List UInt8 := shP vhF (vhV t) ++ l.flatMap prB
def valP (t : Int) (l : List (Int × Int)) : List UInt8 := if valE t l = 0 then valB t l else []
/-- The pairs of bytes, m of them at most. -/
def valTL : Nat → List UInt8 → Nat × List (Int × Int)
  | 0, r => if r.length = 0 then (0, []) else (7, [])
  | m + 1, r => if r.length = 0 then (0, []) else if r.length < 4 then (2, []) else
      if szN (num (r.take 4)) = 0 then (6, []) else if r.length < 4 + szN (num (r.take 4)) then (2, []) else
      if msN (num (r.take 4)) < num ((r.drop 4).take (szN (num (r.take 4)))) then (5, []) else
      ((valTL m ((r.drop 4).drop (szN (num (r.take 4))))).1, ((num (r.take 4) : Int), (num ((r.drop 4).take (szN (num (r.take 4)))) : Int)) :: (valTL m ((r.drop 4).drop (szN (num (r.take 4))))).2)
def valTE (b : List UInt8) : Nat := if b.length < 4 then 2 else if shTE vhF (b.take 4) = 0 then (valTL 32 (b.drop 4)).1 else shTE vhF (b.take 4)
def valTt (b : List UInt8) : Int := if valTE b = 0 then (shT vhF (b.take 4)).getD 1 0 else 0
def valTl (b : List UInt8) : List (Int × Int) := if valTE b = 0 then (valTL 32 (b.drop 4)).2 else []

theorem valTL_nil (m : Nat) (r : List UInt8) (h : r.length = 0) : valTL m r = (0, []) := by
  cases m <;> (unfold valTL; rw [if_pos h])
theorem valEL_one {p : Int × Int} {l : List (Int × Int)} (h : valEL (p :: l) = 0) : szN p.1 ≠ 0 ∧ 0 ≤ p.2 ∧ p.2 ≤ msN p.1 ∧ valEL l = 0 := by
  unfold valEL at h
  split at h
  · cases h
  · split at h
    · cases h
    · exact ⟨by assumption, by omega, by omega, h⟩
theorem valEL_cons {p : Int × Int} {l : List (Int × Int)} (h1 : szN p.1 ≠ 0) (h2 : 0 ≤ p.2) (h3 : p.2 ≤ msN p.1) : valEL (p :: l) = valEL l := by
  show (if _ then _ else _) = _
  rw [if_neg h1, if_neg (by omega)]
theorem prB_parts {p : Int × Int} (R : List UInt8) (h1 : szN p.1 ≠ 0) (h2 : 0 ≤ p.2) (h3 : p.2 ≤ msN p.1) :
    (num ((prB p ++ R).take 4) : Int) = p.1 ∧ (num (((prB p ++ R).drop 4).take (szN p.1)) : Int) = p.2 ∧ ((prB p ++ R).drop 4).drop (szN p.1) = R ∧ (prB p ++ R).length = 4 + szN p.1 + R.length := by
  have hk := sz_in h1
  have hm := ms_lt p.1
  have l1 : (bytesN 4 p.1.toNat).length = 4 := bytesN_len _ _
  have l2 : (bytesN (szN p.1) p.2.toNat).length = szN p.1 := bytesN_len _ _
  have e0 : (prB p ++ R).take 4 = bytesN 4 p.1.toNat := by
    unfold prB
    rw [List.append_assoc, List.take_append_of_le_length (by omega), List.take_of_length_le (by omega)]
  have e1 : (prB p ++ R).drop 4 = bytesN (szN p.1) p.2.toNat ++ R := by
    unfold prB
    rw [List.append_assoc, List.drop_append_of_le_length (by omega), List.drop_of_length_le (by omega), List.nil_append]
  rw [e0, e1]
  refine ⟨?_, ?_, ?_, ?_⟩
  · rw [num_bytesN, Nat.mod_eq_of_lt (by omega)]; omega
  · rw [List.take_append_of_le_length (by omega), List.take_of_length_le (by omega), num_bytesN, Nat.mod_eq_of_lt (by omega)]; omega
  · rw [List.drop_append_of_le_length (by omega), List.drop_of_length_le (by omega), List.nil_append]
  · unfold prB; rw [List.length_append, List.length_append, l1, l2]
theorem valTL_step {m : Nat} {r : List UInt8} {k v : Int} {R : List UInt8} (hk : (num (r.take 4) : Int) = k) (h4 : 4 + szN k ≤ r.length) (hv : (num ((r.drop 4).take (szN k)) : Int) = v) (hR : (r.drop 4).drop (szN k) = R) (h1 : szN k ≠ 0) (h3 : v ≤ msN k) :
    valTL (m + 1) r = ((valTL m R).1, (k, v) :: (valTL m R).2) := by
  subst hk hv hR
  show (if _ then _ else _) = _
  rw [if_neg (by omega), if_neg (by omega), if_neg h1, if_neg (by omega), if_neg (by omega)]
theorem valTL_there : ∀ (l : List (Int × Int)) (m : Nat), l.length ≤ m → valEL l = 0 → valTL m (l.flatMap prB) = (0, l)
  | [], m, _, _ => valTL_nil m _ rfl
  | p :: l, 0, h, _ => absurd h (by simp)
  | p :: l, m + 1, h, hz => by
    obtain ⟨h1, h2, h3, h4⟩ := valEL_one hz
    obtain ⟨e1, e2, e3, e4⟩ := prB_parts (l.flatMap prB) h1 h2 h3
    rw [List.flatMap_cons, valTL_step e1 (by omega) e2 e3 h1 h3, valTL_there l m (by simpa using h) h4]
theorem valTL_back : ∀ (m : Nat) (r : List UInt8), (valTL m r).1 = 0 → valEL (valTL m r).2 = 0 ∧ (valTL m r).2.flatMap prB = r ∧ (valTL m r).2.length ≤ m
  | 0, r, h => by
    unfold valTL at h ⊢
    split at h
    · rename_i h0
      rw [if_pos h0]
      exact ⟨rfl, (List.eq_nil_of_length_eq_zero h0).symm, Nat.le_refl _⟩
    · cases h
  | m + 1, r, h => by
    by_cases h0 : r.length = 0
    · rw [valTL_nil _ _ h0]
      exact ⟨rfl, (List.eq_nil_of_length_eq_zero h0).symm, Nat.zero_le _⟩
    unfold valTL at h
    rw [if_neg h0] at h
    split at h
    · cases h
    · split at h
      · cases h
      · split at h
        · cases h
        · split at h
          · cases h
          · rename_i h4 h1 h5 h3
            rw [valTL_step rfl (by omega) rfl rfl h1 (by omega)]
            obtain ⟨a, b, c⟩ := valTL_back m _ h
            refine ⟨?_, ?_, by simpa using c⟩
            · rw [valEL_cons h1 (by simp) (by simp; omega)]
              exact a
            · rw [List.flatMap_cons, b]
              unfold prB
              simp only [Int.toNat_natCast]
              have l1 : (r.take 4).length = 4 := by rw [List.length_take]; omega
              have l2 : ((r.drop 4).take (szN (num (r.take 4)))).length = szN (num (r.take 4)) := by rw [List.length_take, List.length_drop]; omega
              have b1 := bytesN_num (r.take 4)
              have b2 := bytesN_num ((r.drop 4).take (szN (num (r.take 4))))
              rw [l1] at b1
              rw [l2] at b2
              rw [b1, b2, List.append_assoc, List.take_append_drop, List.take_append_drop]
theorem valE_zero {t : Int} {l : List (Int × Int)} (h : valE t l = 0) : l.length ≤ 32 ∧ shE vhF (vhV t) = 0 ∧ valEL l = 0 := by
  unfold valE at h
  split at h
  · cases h
  · split at h
    · exact ⟨by omega, by assumption, h⟩
    · exact absurd h (by assumption)
theorem vhP_len {t : Int} (h : shE vhF (vhV t) = 0) : (shP vhF (vhV t)).length = 4 := by
  rw [(shape_there h).2.2]; unfold widthL; rw [if_pos vhF_right, vhF_sum]
/-- What is put is taken. -/
theorem val_there {t : Int} {l : List (Int × Int)} (h : valE t l = 0) : valTE (valP t l) = 0 ∧ valTt (valP t l) = t ∧ valTl (valP t l) = l := by
  obtain ⟨h32, hh, hs⟩ := valE_zero h
  have hP : valP t l = valB t l := by unfold valP; rw [if_pos h]
  have l1 := vhP_len hh
  have e1 : (valB t l).take 4 = shP vhF (vhV t) := by unfold valB; rw [List.take_append_of_le_length (by omega), List.take_of_length_le (by omega)]
  have e2 : (valB t l).drop 4 = l.flatMap prB := by unfold valB; rw [List.drop_append_of_le_length (by omega), List.drop_of_length_le (by omega), List.nil_append]
  have l3 : 4 ≤ (valB t l).length := by unfold valB; rw [List.length_append, l1]; omega
  obtain ⟨t1, t2, _⟩ := shape_there hh
  have hE : valTE (valB t l) = 0 := by
    unfold valTE
    rw [if_neg (by omega), e1, if_pos t1, e2, valTL_there l 32 h32 hs]
  rw [hP]
  refine ⟨hE, ?_, ?_⟩
  · unfold valTt; rw [if_pos hE, e1, t2]; rfl
  · unfold valTl; rw [if_pos hE, e2, valTL_there l 32 h32 hs]
theorem vheadT {b : List UInt8} (h : shTE vhF b = 0) : ∃ t : Int, shT vhF b = [0, t, 0] ∧ 0 ≤ t ∧ t ≤ 7 := by
  obtain ⟨h1, h2, h3⟩ := shape_back h
  have hl : (shT vhF b).length = 3 := h3
  generalize shT vhF b = v at *
  match v, hl with
  | [a0, a1, a2], _ =>
    have hin : inAll vhF [a0, a1, a2] = true := by
      unfold shE at h1
      split at h1
      · split at h1
        · assumption
        · cases h1
      · cases h1
    simp [inAll, vhF, inF] at hin
    obtain ⟨⟨p1, p2⟩, ⟨p3, p4⟩, p5, p6⟩ := hin
    obtain rfl : a0 = 0 := by omega
    obtain rfl : a2 = 0 := by omega
    exact ⟨a1, rfl, p3, p4⟩
/-- What is taken, put, is those bytes. -/
theorem val_back {b : List UInt8} (h : valTE b = 0) : valE (valTt b) (valTl b) = 0 ∧ valP (valTt b) (valTl b) = b := by
  have et : valTt b = (shT vhF (b.take 4)).getD 1 0 := by unfold valTt; rw [if_pos h]
  have el : valTl b = (valTL 32 (b.drop 4)).2 := by unfold valTl; rw [if_pos h]
  unfold valTE at h
  split at h
  · cases h
  · split at h
    · rename_i h8 hh
      obtain ⟨a1, a2, a3⟩ := valTL_back _ _ h
      obtain ⟨t, hv, _⟩ := vheadT hh
      obtain ⟨t1, t2, _⟩ := shape_back hh
      have hhd : vhV (valTt b) = shT vhF (b.take 4) := by
        rw [et, hv]
        rfl
      have hE : valE (valTt b) (valTl b) = 0 := by
        unfold valE
        rw [if_neg (by rw [el]; omega), hhd, if_pos t1, el]
        exact a1
      refine ⟨hE, ?_⟩
      unfold valP
      rw [if_pos hE]
      unfold valB
      rw [hhd, t2, el, a2, List.take_append_drop]
    · exact absurd h (by assumption)
theorem valP_none {t : Int} {l : List (Int × Int)} (h : valE t l ≠ 0) : valP t l = [] := by unfold valP; rw [if_neg h]
theorem valT_none {b : List UInt8} (h : valTE b ≠ 0) : valTt b = 0 ∧ valTl b = [] := ⟨by unfold valTt; rw [if_neg h], by unfold valTl; rw [if_neg h]⟩
/-- A key's value. -/
def getV (key : Int) (l : List (Int × Int)) : Int × Bool := l.foldl (fun a p => if p.1 = key then (p.2, true) else a) (0, false)
theorem getV_snoc (key : Int) (l : List (Int × Int)) (p : Int × Int) : getV key (l ++ [p]) = if p.1 = key then (p.2, true) else getV key l := by unfold getV; rw [List.foldl_append]; rfl
/-- What stands behind place k does not have the key. -/
theorem getV_late (key : Int) (l : List (Int × Int)) : ∀ k, k ≤ l.length → (∀ j p, k ≤ j → l[j]? = some p → p.1 ≠ key) → getV key (l.take k) = getV key l := by
  intro k hk h
  induction hn : l.length - k generalizing k with
  | zero => rw [List.take_of_length_le (by omega)]
  | succ n ih =>
    have hlt : k < l.length := by omega
    have := ih (k + 1) (by omega) (fun j p hj hp => h j p (by omega) hp) (by omega)
    rw [← this, List.take_add_one, List.getElem?_eq_getElem hlt]
    show _ = getV key (l.take k ++ [l[k]])
    rw [getV_snoc, if_neg (h k _ (Nat.le_refl _) (List.getElem?_eq_getElem hlt))]

end Go.Proofs.Ytkelepnipndbbaa
