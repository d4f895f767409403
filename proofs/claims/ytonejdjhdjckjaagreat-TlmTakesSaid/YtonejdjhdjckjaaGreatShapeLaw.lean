/-
  The plain law of shapes: there and back.
-/
import Derived.Test.YtonejdjhdjckjaaGreatShape7
set_option linter.unusedSimpArgs false
set_option linter.unusedVariables false
namespace Go.Proofs.YtonejdjhdjckjaaGreat
open Go.RowKit NumLaw

theorem sgn_back (k : Nat) (i : Int) (h1 : 1 ≤ k) (h8 : k ≤ 8) (hlo : -(128 * 256 ^ (k - 1)) ≤ i) (hhi : i < 128 * 256 ^ (k - 1)) : sgn k (un i % 256 ^ k) = i := by
  unfold sgn un
  rcases (by omega : k = 1 ∨ k = 2 ∨ k = 3 ∨ k = 4 ∨ k = 5 ∨ k = 6 ∨ k = 7 ∨ k = 8) with rfl | rfl | rfl | rfl | rfl | rfl | rfl | rfl
  all_goals
    simp at hlo hhi ⊢
    split <;> omega
theorem un_sgn (k m : Nat) (h1 : 1 ≤ k) (h8 : k ≤ 8) (hm : m < 256 ^ k) : un (sgn k m) % 256 ^ k = m := by
  unfold sgn un
  rcases (by omega : k = 1 ∨ k = 2 ∨ k = 3 ∨ k = 4 ∨ k = 5 ∨ k = 6 ∨ k = 7 ∨ k = 8) with rfl | rfl | rfl | rfl | rfl | rfl | rfl | rfl
  all_goals
    simp at hm ⊢
    split <;> omega
theorem un_sg64 (m : Nat) (h : m < 18446744073709551616) : un (sg64 m) = m := by
  unfold un sg64
  split <;> omega
theorem bytesN_congr {n u v : Nat} (h : u % 256 ^ n = v % 256 ^ n) : bytesN n u = bytesN n v :=
  num_inj (by rw [bytesN_len, bytesN_len]) (by rw [num_bytesN, num_bytesN, h])
theorem pow_le8 {n : Nat} (h : n ≤ 8) : 256 ^ n ≤ 18446744073709551616 := by
  have := Nat.pow_le_pow_right (n := 256) (by omega) h
  have h4 : (256 : Nat) ^ 8 = 18446744073709551616 := by decide
  omega
/-- A number in range comes back. -/
theorem field_back {f : FieldV} {x : Int} (hr : rightF f = true) (hx : inF f x = true) : fieldV f (bytesN f.size.toNat (un x)) = x := by
  obtain ⟨h1, h8, hs, hu⟩ := in_fits hr hx
  unfold fieldV
  rw [num_bytesN]
  cases hg : f.sg with
  | true =>
    simp only [if_true]
    have := hs hg
    unfold fI at this
    obtain ⟨_, _, h3, h4⟩ := of_decide_eq_true this
    exact sgn_back _ _ (by omega) (by omega) h3 h4
  | false =>
    simp only [Bool.false_eq_true, if_false]
    obtain ⟨hfu, hx0⟩ := hu hg
    unfold fU at hfu
    obtain ⟨_, _, h3⟩ := of_decide_eq_true hfu
    rw [Nat.mod_eq_of_lt h3]
    have hhi : x ≤ 9223372036854775807 := by
      have hx := of_decide_eq_true hx
      obtain ⟨size, sg, lo, hi⟩ := f
      unfold rightF at hr
      simp only [Bool.and_eq_true, decide_eq_true_eq] at hr
      have h4 := of_decide_eq_true hr.2
      unfold anyF at h4
      rw [if_pos hr.1.1.1] at h4
      simp only at hg hx h4
      subst hg
      simp only [Bool.false_eq_true, if_false] at h4
      rcases fits_cases hr.1.1.1 with rfl | rfl | rfl | rfl | rfl | rfl | rfl | rfl
      all_goals
        simp at h4
        omega
    unfold sg64 un
    split <;> omega
/-- A field's bytes come back. -/
theorem bytes_back {f : FieldV} {b : List UInt8} (hr : rightF f = true) (hb : b.length = f.size.toNat) : bytesN f.size.toNat (un (fieldV f b)) = b := by
  have hs := right_fits hr
  have hm := num_lt b
  have key : bytesN f.size.toNat (un (fieldV f b)) = bytesN b.length (num b) := by
    rw [hb]
    rw [hb] at hm
    refine bytesN_congr ?_
    rw [Nat.mod_eq_of_lt hm]
    unfold fieldV
    cases f.sg with
    | true => simp only [if_true]; exact un_sgn _ _ (by omega) (by omega) hm
    | false =>
      simp only [Bool.false_eq_true, if_false]
      rw [un_sg64 _ (Nat.lt_of_lt_of_le hm (pow_le8 (by omega))), Nat.mod_eq_of_lt hm]
  rw [key, bytesN_num]
theorem put_take : ∀ (l : List FieldV) (vs : List Int), rightL l = true → vs.length = l.length → inAll l vs = true → takeV l (shB l vs) = vs ∧ (shB l vs).length = sumL l
  | [], vs, _, hl, _ => by
    obtain rfl : vs = [] := List.eq_nil_of_length_eq_zero (by simpa using hl)
    exact ⟨rfl, rfl⟩
  | f :: l, [], _, hl, _ => by simp at hl
  | f :: l, x :: vs, hr, hl, hi => by
    have hr' : rightF f = true ∧ rightL l = true := by simpa [rightL] using hr
    have hi' : inF f x = true ∧ inAll l vs = true := by simpa [inAll] using hi
    obtain ⟨h1, h2⟩ := put_take l vs hr'.2 (by simpa using hl) hi'.2
    have e : shB (f :: l) (x :: vs) = bytesN f.size.toNat (un x) ++ shB l vs := by simp [shB]
    rw [e, sumL_cons]
    refine ⟨?_, by rw [List.length_append, bytesN_len, h2]⟩
    have t1 : (bytesN f.size.toNat (un x) ++ shB l vs).take f.size.toNat = bytesN f.size.toNat (un x) := by
      rw [List.take_append_of_le_length (by rw [bytesN_len]; exact Nat.le_refl _), List.take_of_length_le (by rw [bytesN_len]; exact Nat.le_refl _)]
    have t2 : (bytesN f.size.toNat (un x) ++ shB l vs).drop f.size.toNat = shB l vs := by
      have : (bytesN f.size.toNat (un x)).length = f.size.toNat := bytesN_len _ _
      rw [List.drop_append_of_le_length (by omega), List.drop_of_length_le (by omega)]; rfl
    show fieldV f _ :: takeV l _ = _
    rw [t1, t2, field_back hr'.1 hi'.1, h1]
theorem take_put : ∀ (l : List FieldV) (b : List UInt8), rightL l = true → b.length = sumL l → shB l (takeV l b) = b
  | [], b, _, hl => by
    obtain rfl : b = [] := List.eq_nil_of_length_eq_zero (by simpa [sumL] using hl)
    rfl
  | f :: l, b, hr, hl => by
    have hr' : rightF f = true ∧ rightL l = true := by simpa [rightL] using hr
    rw [sumL_cons] at hl
    have h2 := take_put l (b.drop f.size.toNat) hr'.2 (by rw [List.length_drop]; omega)
    have e : shB (f :: l) (takeV (f :: l) b) = bytesN f.size.toNat (un (fieldV f (b.take f.size.toNat))) ++ shB l (takeV l (b.drop f.size.toNat)) := by simp [shB, takeV]
    rw [e, h2, bytes_back hr'.1 (by rw [List.length_take]; omega), List.take_append_drop]
/-- What is put is taken. -/
theorem shape_there {l : List FieldV} {vs : List Int} (h : shE l vs = 0) : shTE l (shP l vs) = 0 ∧ shT l (shP l vs) = vs ∧ (shP l vs).length = widthL l := by
  have hP : shP l vs = shB l vs := by unfold shP; rw [if_pos h]
  unfold shE at h
  split at h
  · rename_i h1
    split at h
    · rename_i h2
      obtain ⟨e1, e2⟩ := put_take l vs h1.1 h1.2 h2
      have hE : shTE l (shB l vs) = 0 := by
        unfold shTE
        rw [if_pos h1.1, if_neg (by omega), if_neg (by omega), e1, if_pos h2]
      rw [hP]
      exact ⟨hE, by unfold shT; rw [if_pos hE, e1], by rw [e2]; unfold widthL; rw [if_pos h1.1]⟩
    · cases h
  · cases h
/-- What is taken, put, is those bytes. -/
theorem shape_back {l : List FieldV} {b : List UInt8} (h : shTE l b = 0) : shE l (shT l b) = 0 ∧ shP l (shT l b) = b ∧ (shT l b).length = l.length := by
  have hT : shT l b = takeV l b := by unfold shT; rw [if_pos h]
  rw [hT]
  unfold shTE at h
  split at h
  · rename_i h1
    split at h
    · cases h
    · split at h
      · cases h
      · split at h
        · rename_i h2 h3 h4
          have hE : shE l (takeV l b) = 0 := by unfold shE; rw [if_pos ⟨h1, takeV_len l b⟩, if_pos h4]
          exact ⟨hE, by unfold shP; rw [if_pos hE, take_put l b h1 (by omega)], takeV_len l b⟩
        · cases h
  · cases h
theorem sgn_bounds (k m : Nat) (h1 : 1 ≤ k) (h8 : k ≤ 8) (hm : m < 256 ^ k) : -9223372036854775808 ≤ sgn k m ∧ sgn k m ≤ 9223372036854775807 := by
  unfold sgn
  rcases (by omega : k = 1 ∨ k = 2 ∨ k = 3 ∨ k = 4 ∨ k = 5 ∨ k = 6 ∨ k = 7 ∨ k = 8) with rfl | rfl | rfl | rfl | rfl | rfl | rfl | rfl
  all_goals
    simp at hm ⊢
    split <;> omega
theorem inAll_bounds {l : List FieldV} {vs : List Int} (hl : ∀ f ∈ l, (-9223372036854775808 ≤ f.lo ∧ f.lo ≤ 9223372036854775807) ∧ (-9223372036854775808 ≤ f.hi ∧ f.hi ≤ 9223372036854775807)) (hlen : vs.length = l.length) (h : inAll l vs = true) : ∀ x ∈ vs, -9223372036854775808 ≤ x ∧ x ≤ 9223372036854775807 := by
  intro x hx
  obtain ⟨k, hk⟩ := List.mem_iff_getElem?.1 hx
  have hkl : k < l.length := by have := (List.getElem?_eq_some_iff.1 hk).1; omega
  have hf : l[k]? = some l[k] := List.getElem?_eq_getElem hkl
  have hm : (l[k], x) ∈ l.zip vs := List.mem_of_getElem? (i := k) (by rw [List.getElem?_zip_eq_some]; exact ⟨hf, hk⟩)
  have := List.all_eq_true.1 h _ hm
  have := of_decide_eq_true this
  have hb := hl _ (List.getElem_mem hkl)
  simp only at this
  omega

end Go.Proofs.YtonejdjhdjckjaaGreat
