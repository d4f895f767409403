/-
  The plain law of layer 17: satellites there and back.
-/
import Derived.Test.YtkelepnipndbbaaCells
import Derived.Test.YtkelepnipndbbaaFldRow
set_option linter.unusedSimpArgs false
set_option linter.unusedVariables false
namespace Go.Proofs.Ytkelepnipndbbaa
open Go.RowKit NumLaw

def headF : List FieldV := [⟨4, false, 0, 604799999⟩, ⟨1, false, 1, 1⟩, ⟨1, false, 0, 64⟩, ⟨2, false, 0, 0⟩]
def satF : List FieldV := [⟨1, false, 0, 7⟩, ⟨1, false, 0, 255⟩, ⟨1, false, 0, 63⟩, ⟨1, true, -90, 90⟩, ⟨2, true, 0, 360⟩, ⟨2, true, -32768, 32767⟩, ⟨4, false, 0, 4294967295⟩]
theorem headF_b : FB headF := by intro f hf; simp [headF] at hf; rcases hf with rfl | rfl | rfl | rfl <;> simp
theorem satF_b : FB satF := by intro f hf; simp [satF] at hf; rcases hf with rfl | rfl | rfl | rfl | rfl | rfl | rfl <;> simp
theorem headF_right : rightL headF = true := by decide
theorem satF_right : rightL satF = true := by decide
theorem headF_sum : sumL headF = 8 := by decide
theorem satF_sum : sumL satF = 12 := by decide
/-- The head's numbers. -/
def hdV (t : Int) (l : List (List Int)) : List Int := [t, 1, l.length, 0]
def satsEL : List (List Int) → Nat
  | [] => 0
  | s :: l => if shE satF s = 0 then satsEL l else shE satF s
def satsE (t : Int) (l : List (List Int)) : Nat := if 64 < l.length then 7 else if shE headF (hdV t l) = 0 then satsEL l else shE headF (hdV t l)
def satsB (t : Int) (l : List (List Int)) : List UInt8 := shP headF (hdV t l) ++ l.flatMap (shP satF)
def satsP (t : Int) (l : List (List Int)) : List UInt8 := if satsE t l = 0 then satsB t l else []
/-- The satellites that bytes begin with, n of them. -/
def satsTL : Nat → List UInt8 → Nat × List (List Int)
  | 0, _ => (0, [])
  | n + 1, r => if shTE satF (r.take 12) = 0 then ((satsTL n (r.drop 12)).1, shT satF (r.take 12) :: (satsTL n (r.drop 12)).2) else (shTE satF (r.take 12), [])
def satsN (b : List UInt8) : Nat := ((shT headF (b.take 8)).getD 2 0).toNat
def satsTE (b : List UInt8) : Nat :=
  if b.length < 8 then 2 else if shTE headF (b.take 8) = 0 then
    if b.length - 8 < 12 * satsN b then 2 else if 12 * satsN b < b.length - 8 then 7 else (satsTL (satsN b) (b.drop 8)).1
  else shTE headF (b.take 8)
def satsTt (b : List UInt8) : Int := if satsTE b = 0 then (shT headF (b.take 8)).getD 0 0 else 0
def satsTl (b : List UInt8) : List (List Int) := if satsTE b = 0 then (satsTL (satsN b) (b.drop 8)).2 else []

theorem shP_len {l : List FieldV} {vs : List Int} (hr : rightL l = true) (h : shE l vs = 0) : (shP l vs).length = sumL l := by
  rw [(shape_there h).2.2]; unfold widthL; rw [if_pos hr]
theorem satsEL_zero {l : List (List Int)} : satsEL l = 0 ↔ ∀ s ∈ l, shE satF s = 0 := by
  induction l with
  | nil => simp [satsEL]
  | cons s l ih =>
    unfold satsEL
    by_cases h : shE satF s = 0
    · rw [if_pos h, ih]; simp [h]
    · rw [if_neg h]; simp [h]
theorem satsE_zero {t : Int} {l : List (List Int)} (h : satsE t l = 0) : l.length ≤ 64 ∧ shE headF (hdV t l) = 0 ∧ ∀ s ∈ l, shE satF s = 0 := by
  unfold satsE at h
  split at h
  · cases h
  · split at h
    · exact ⟨by omega, by assumption, satsEL_zero.1 h⟩
    · exact absurd h (by assumption)
theorem flat12 {l : List (List Int)} (h : ∀ s ∈ l, shE satF s = 0) : (l.flatMap (shP satF)).length = 12 * l.length := by
  induction l with
  | nil => rfl
  | cons s l ih =>
    rw [List.flatMap_cons, List.length_append, ih (fun x hx => h x (List.mem_cons_of_mem _ hx)), shP_len satF_right (h s List.mem_cons_self), satF_sum, List.length_cons]
    omega
theorem satsTL_there : ∀ (l : List (List Int)), (∀ s ∈ l, shE satF s = 0) → satsTL l.length (l.flatMap (shP satF)) = (0, l)
  | [], _ => rfl
  | s :: l, h => by
    have h1 := h s List.mem_cons_self
    have hl : (shP satF s).length = 12 := by rw [shP_len satF_right h1, satF_sum]
    have e1 : ((s :: l).flatMap (shP satF)).take 12 = shP satF s := by rw [List.flatMap_cons, List.take_append_of_le_length (by omega), List.take_of_length_le (by omega)]
    have e2 : ((s :: l).flatMap (shP satF)).drop 12 = l.flatMap (shP satF) := by rw [List.flatMap_cons, List.drop_append_of_le_length (by omega), List.drop_of_length_le (by omega), List.nil_append]
    obtain ⟨t1, t2, _⟩ := shape_there h1
    show (if shTE satF _ = 0 then _ else _) = _
    rw [e1, e2, if_pos t1, t2, satsTL_there l (fun x hx => h x (List.mem_cons_of_mem _ hx))]
theorem satsTL_back : ∀ (n : Nat) (r : List UInt8), r.length = 12 * n → (satsTL n r).1 = 0 → (∀ s ∈ (satsTL n r).2, shE satF s = 0) ∧ (satsTL n r).2.flatMap (shP satF) = r ∧ (satsTL n r).2.length = n
  | 0, r, hr, _ => by
    obtain rfl : r = [] := List.eq_nil_of_length_eq_zero (by omega)
    exact ⟨by simp [satsTL], rfl, rfl⟩
  | n + 1, r, hr, h => by
    unfold satsTL at h ⊢
    by_cases h1 : shTE satF (r.take 12) = 0
    · rw [if_pos h1] at h ⊢
      obtain ⟨a, b, c⟩ := satsTL_back n (r.drop 12) (by rw [List.length_drop]; omega) h
      obtain ⟨t1, t2, _⟩ := shape_back h1
      refine ⟨fun s hs => ?_, ?_, by simp [c]⟩
      · rcases List.mem_cons.1 hs with rfl | hs
        · exact t1
        · exact a s hs
      · rw [List.flatMap_cons, t2, b, List.take_append_drop]
    · rw [if_neg h1] at h
      exact absurd h h1
/-- What is put is taken. -/
theorem sats_there {t : Int} {l : List (List Int)} (h : satsE t l = 0) : satsTE (satsP t l) = 0 ∧ satsTt (satsP t l) = t ∧ satsTl (satsP t l) = l ∧ (satsP t l).length = 8 + 12 * l.length := by
  obtain ⟨h64, hh, hs⟩ := satsE_zero h
  have hP : satsP t l = satsB t l := by unfold satsP; rw [if_pos h]
  have l1 : (shP headF (hdV t l)).length = 8 := by rw [shP_len headF_right hh, headF_sum]
  have l2 := flat12 hs
  have e1 : (satsB t l).take 8 = shP headF (hdV t l) := by unfold satsB; rw [List.take_append_of_le_length (by omega), List.take_of_length_le (by omega)]
  have e2 : (satsB t l).drop 8 = l.flatMap (shP satF) := by unfold satsB; rw [List.drop_append_of_le_length (by omega), List.drop_of_length_le (by omega), List.nil_append]
  have l3 : (satsB t l).length = 8 + 12 * l.length := by unfold satsB; rw [List.length_append, l1, l2]
  obtain ⟨t1, t2, _⟩ := shape_there hh
  have hN : satsN (satsB t l) = l.length := by unfold satsN; rw [e1, t2]; simp [hdV]
  have hE : satsTE (satsB t l) = 0 := by
    unfold satsTE
    rw [if_neg (by omega), e1, if_pos t1, hN, l3, if_neg (by omega), if_neg (by omega), e2, satsTL_there l hs]
  rw [hP]
  refine ⟨hE, ?_, ?_, l3⟩
  · unfold satsTt; rw [if_pos hE, e1, t2]; rfl
  · unfold satsTl; rw [if_pos hE, hN, e2, satsTL_there l hs]
theorem headT {b : List UInt8} (h : shTE headF b = 0) : ∃ t n : Int, shT headF b = [t, 1, n, 0] ∧ 0 ≤ n ∧ n ≤ 64 ∧ 0 ≤ t ∧ t ≤ 604799999 := by
  obtain ⟨h1, h2, h3⟩ := shape_back h
  have hl : (shT headF b).length = 4 := h3
  generalize shT headF b = v at *
  match v, hl with
  | [a0, a1, a2, a3], _ =>
    have hin : inAll headF [a0, a1, a2, a3] = true := by
      unfold shE at h1
      split at h1
      · split at h1
        · assumption
        · cases h1
      · cases h1
    simp [inAll, headF, inF] at hin
    obtain ⟨⟨p1, p2⟩, ⟨p3, p4⟩, ⟨p5, p6⟩, p7, p8⟩ := hin
    obtain rfl : a1 = 1 := by omega
    obtain rfl : a3 = 0 := by omega
    exact ⟨a0, a2, rfl, p5, p6, p1, p2⟩
/-- What is taken, put, is those bytes. -/
theorem sats_back {b : List UInt8} (h : satsTE b = 0) : satsE (satsTt b) (satsTl b) = 0 ∧ satsP (satsTt b) (satsTl b) = b := by
  have h0 := h
  have et : satsTt b = (shT headF (b.take 8)).getD 0 0 := by unfold satsTt; rw [if_pos h]
  have el : satsTl b = (satsTL (satsN b) (b.drop 8)).2 := by unfold satsTl; rw [if_pos h]
  unfold satsTE at h
  split at h
  · cases h
  · split at h
    · rename_i h8 hh
      split at h
      · cases h
      · split at h
        · cases h
        · rename_i h9 h10
          have hlen : (b.drop 8).length = 12 * satsN b := by rw [List.length_drop]; omega
          obtain ⟨a1, a2, a3⟩ := satsTL_back _ _ hlen h
          obtain ⟨t, n, hv, hn0, hn64, _⟩ := headT hh
          obtain ⟨t1, t2, _⟩ := shape_back hh
          have hN : satsN b = n.toNat := by unfold satsN; rw [hv]; rfl
          have hhd : hdV (satsTt b) (satsTl b) = shT headF (b.take 8) := by
            rw [et, el, hv]
            unfold hdV
            rw [a3, hN]
            simp only [List.getD_cons_zero]
            congr 3
            omega
          have hE : satsE (satsTt b) (satsTl b) = 0 := by
            unfold satsE
            rw [if_neg (by rw [el, a3, hN]; omega), hhd, if_pos t1, el]
            exact satsEL_zero.2 a1
          refine ⟨hE, ?_⟩
          unfold satsP
          rw [if_pos hE]
          unfold satsB
          rw [hhd, t2, el, a2, List.take_append_drop]
    · exact absurd h (by assumption)
theorem satsP_none {t : Int} {l : List (List Int)} (h : satsE t l ≠ 0) : satsP t l = [] := by unfold satsP; rw [if_neg h]
theorem satsT_none {b : List UInt8} (h : satsTE b ≠ 0) : satsTt b = 0 ∧ satsTl b = [] := ⟨by unfold satsTt; rw [if_neg h], by unfold satsTl; rw [if_neg h]⟩

end Go.Proofs.Ytkelepnipndbbaa
