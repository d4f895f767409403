/-
  A whole record is taken as it was laid: the plain law.
-/
import Derived.Test.YtplgcfjcdjlnbaaRec11
set_option linter.unusedSimpArgs false
set_option linter.unusedVariables false
namespace Go.Proofs.Ytplgcfjcdjlnbaa
open Go.RowKit NumLaw

theorem sgn_un34 (i : Int) (h : in32 i) : sgn 4 (un i % 256 ^ 4) = i := by
  unfold in32 at h
  unfold sgn un
  simp
  split <;> omega
theorem drop4 (u : Nat) (L : List UInt8) : (bytesN 4 u ++ L).drop 4 = L := by
  rw [List.drop_append_of_le_length (by rw [bytesN_len]; exact Nat.le_refl _), List.drop_eq_nil_of_le (by rw [bytesN_len]; exact Nat.le_refl _), List.nil_append]
theorem flat4 : ∀ (V : List Int) (i : Nat) (x : Int) (R : List UInt8), V[i]? = some x → (((V.flatMap fun x => bytesN 4 (un x)) ++ R).drop (4 * i)).take 4 = bytesN 4 (un x)
  | [], i, x, R, h => by simp at h
  | y :: V, 0, x, R, h => by
    simp at h
    subst h
    rw [Nat.mul_zero, List.drop_zero, List.flatMap_cons, List.append_assoc, List.take_append_of_le_length (by rw [bytesN_len]; exact Nat.le_refl _), List.take_of_length_le (by rw [bytesN_len]; exact Nat.le_refl _)]
  | y :: V, i + 1, x, R, h => by
    have ih := flat4 V i x R (by simpa using h)
    rw [List.flatMap_cons, List.append_assoc, show 4 * (i + 1) = 4 + 4 * i by omega, ← List.drop_drop, drop4]
    exact ih
theorem key_there {t : Nat} {V : List Int} (R : List UInt8) (ht : t < 4294967296) (hV : V.length = 12) (h32 : ∀ x ∈ V, in32 x) :
    keT (recK t V ++ R) = t ∧ keV (recK t V ++ R) = V ∧ keN (recK t V ++ R) = 52 ∧ keE (recK t V ++ R) = 0 := by
  have hl : ¬ (recK t V ++ R).length < 52 := by rw [List.length_append, recK_len t V hV]; omega
  have e : recK t V ++ R = bytesN 4 t ++ ((V.flatMap fun x => bytesN 4 (un x)) ++ R) := by unfold recK; rw [List.append_assoc]
  refine ⟨?_, ?_, ?_, ?_⟩
  · unfold keT
    rw [if_neg hl, e, List.take_append_of_le_length (by rw [bytesN_len]; exact Nat.le_refl _), List.take_of_length_le (by rw [bytesN_len]; exact Nat.le_refl _), num_bytesN]
    exact Nat.mod_eq_of_lt ht
  · unfold keV
    rw [if_neg hl]
    apply List.ext_getElem?
    intro i
    by_cases hi : i < 12
    · obtain ⟨x, hx⟩ : ∃ x, V[i]? = some x := ⟨V[i]'(by omega), List.getElem?_eq_getElem _⟩
      rw [kvs_at _ hi, hx]
      unfold kvAt
      rw [e, ← List.drop_drop, drop4, flat4 V i x R hx, num_bytesN]
      exact congrArg some (sgn_un34 x (h32 x (List.mem_of_getElem? hx)))
    · rw [List.getElem?_eq_none (by rw [kvs_len]; omega), List.getElem?_eq_none (by omega)]
  · unfold keN; rw [if_neg hl]
  · unfold keE; rw [if_neg hl]

end Go.Proofs.Ytplgcfjcdjlnbaa
