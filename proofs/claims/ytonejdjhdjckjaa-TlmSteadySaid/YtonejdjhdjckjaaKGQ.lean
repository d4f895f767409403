/-
  Several texts in one: TlmLaw Tlm1 Tlm2 Tlm3.
-/
import Derived.Test.YtonejdjhdjckjaaKSch22
import Derived.Test.YtonejdjhdjckjaaKGK
import Derived.Test.YtonejdjhdjckjaaKGP
import Derived.Test.YtonejdjhdjckjaaKGO
/-
  The plain law of tlm: packets put and taken, there and back, steady, and bursts.
-/
set_option linter.unusedSimpArgs false
set_option linter.unusedVariables false
namespace Go.Proofs.Ytonejdjhdjckjaa
open Go.RowKit

structure PkV where
  sq : Int
  sy : Int
  co : Int
  id : Int
  v : List Int
section
open CrcLaw
def exN (p : FmT) : Nat := if p.1.toList.isEmpty = true then 0 else (moreN 65535 (exB p) % 256) ^^^ (moreN 65535 (exB p) / 256)
theorem exS_N (p : FmT) : exS p = (exN p : Int) := by unfold exS exN; split <;> rfl
theorem exN_lt (p : FmT) : exN p < 256 := by
  unfold exN
  split
  · decide
  · have h := moreN_lt (exB p) (c := 65535) (by omega)
    exact Nat.xor_lt_two_pow (n := 8) (by omega) (by omega)
def smN (p : FmT) (l : List UInt8) : Nat := stepN (moreN 65535 l) (exN p)
theorem smN_lt (p : FmT) (l : List UInt8) : smN p l < 65536 := stepN_lt (moreN_lt l (by omega)) (exN_lt p)
def sm2 (p : FmT) (l : List UInt8) : List UInt8 := [UInt8.ofNat (smN p l % 256), UInt8.ofNat (smN p l / 256)]
theorem sm2_inj {p : FmT} {l l' : List UInt8} (h : sm2 p l = sm2 p l') : smN p l = smN p l' := by
  unfold sm2 at h
  injection h with h1 h2
  injection h2 with h2 _
  have e1 := congrArg UInt8.toNat h1
  have e2 := congrArg UInt8.toNat h2
  rw [UInt8.toNat_ofNat', UInt8.toNat_ofNat'] at e1 e2
  have := smN_lt p l
  have := smN_lt p l'
  omega
theorem stepN_inj {a b x : Nat} (ha : a < 65536) (hb : b < 65536) (h : stepN a x = stepN b x) : a = b := by
  unfold stepN at h
  have h1 : Tn 8 (a ^^^ x) ^^^ Tn 8 (b ^^^ x) = 0 := by rw [h, Nat.xor_self]
  rw [← Tn_xor] at h1
  have e : a ^^^ x ^^^ (b ^^^ x) = a ^^^ b := by rw [Nat.xor_comm b x, Nat.xor_assoc, ← Nat.xor_assoc x x b, Nat.xor_self, Nat.zero_xor]
  rw [e] at h1
  exact xor_zero_eq (Tn_zero_of 8 (xor_lt ha hb) h1)
theorem burst_diff {c : Nat} {s o : List UInt8} {at_ m : Nat} (hl : o.length = s.length) (hat : at_ ≤ 8 * s.length) (hm : m < 65536) (hn : num o = num s ^^^ 2 ^ at_ * m) (h : moreN c o = moreN c s) : m = 0 := by
  rw [moreN_eq, moreN_eq, hl, hn, ← Nat.xor_assoc, Tn_xor] at h
  have h1 : Tn (8 * s.length) (2 ^ at_ * m) = 0 := by
    have h2 := congrArg (fun x => Tn (8 * s.length) (c ^^^ num s) ^^^ x) h
    simp only [← Nat.xor_assoc, Nat.xor_self, Nat.zero_xor] at h2
    exact h2
  have e : 8 * s.length = (8 * s.length - at_) + at_ := by omega
  rw [e, Tn_add, Tn_shift] at h1
  exact Tn_zero_of _ hm h1
/-- Bits within 16 in a row were turned: the sum is another one. -/
theorem sm2_burst {p : FmT} {hd s o : List UInt8} {at_ m : Nat} (hl : o.length = s.length) (hat : at_ ≤ 8 * s.length) (hm : m < 65536) (hm0 : m ≠ 0) (hn : num o = num s ^^^ 2 ^ at_ * m) : ¬ sm2 p (hd ++ o) = sm2 p (hd ++ s) := fun h => by
  have h1 := sm2_inj h
  unfold smN at h1
  have h2 := stepN_inj (moreN_lt _ (by omega)) (moreN_lt _ (by omega)) h1
  rw [moreN_append, moreN_append] at h2
  exact hm0 (burst_diff hl hat hm hn h2)
theorem num_other {s o : List UInt8} {at_ m : Nat} (hm0 : m ≠ 0) (hn : num o = num s ^^^ 2 ^ at_ * m) : ¬ o = s := fun h => by
  rw [h] at hn
  have h2 := congrArg (fun x => num s ^^^ x) hn
  simp only [← Nat.xor_assoc, Nat.xor_self, Nat.zero_xor] at h2
  have hp : 0 < 2 ^ at_ := Nat.pow_pos (by omega)
  rcases Nat.mul_eq_zero.1 h2.symm with h3 | h3 <;> omega
end

def u8i (n : Int) : UInt8 := UInt8.ofNat (n % 256).toNat
theorem u8i_nat {n : Int} (h : 0 ≤ n ∧ n ≤ 255) : ((u8i n).toNat : Int) = n := by
  unfold u8i
  rw [UInt8.toNat_ofNat']
  omega
theorem u8i_of (x : UInt8) : u8i (x.toNat : Int) = x := by
  have h := x.toNat_lt
  refine UInt8.toNat_inj.1 ?_
  have := u8i_nat (n := (x.toNat : Int)) ⟨by omega, by omega⟩
  omega
def byteQ (n : Int) : Bool := decide (0 ≤ n ∧ n ≤ 255)
def okO (p : PkV) : Bool := byteQ p.sq && byteQ p.sy && byteQ p.co
theorem okO_spec {p : PkV} (h : okO p = true) : (0 ≤ p.sq ∧ p.sq ≤ 255) ∧ (0 ≤ p.sy ∧ p.sy ≤ 255) ∧ (0 ≤ p.co ∧ p.co ≤ 255) := by
  unfold okO byteQ at h
  simp only [Bool.and_eq_true, decide_eq_true_eq] at h
  exact ⟨h.1.1, h.1.2, h.2⟩
def tlE (p : PkV) : Nat := if okO p = true then sPE (frm p.id) p.v else 1
def tlI (p : PkV) : List UInt8 := [u8i ((sPB (frm p.id) p.v).length : Int), u8i p.sq, u8i p.sy, u8i p.co, u8i p.id] ++ sPB (frm p.id) p.v
def tlB (p : PkV) : List UInt8 := if tlE p = 0 then 254 :: (tlI p ++ sm2 (frm p.id) (tlI p)) else []
def szS (id : Int) : Nat := if wdS (frm id).2 = 0 then 0 else wdS (frm id).2 + 8
theorem frm_id (id : Int) : ((frm id).1.toList.isEmpty = true ∧ (frm id).2 = [] ∧ wdS (frm id).2 = 0) ∨ ((frm id).1.toList.isEmpty = false ∧ (frm id).2 ≠ [] ∧ 0 < wdS (frm id).2 ∧ wdS (frm id).2 ≤ 200 ∧ 0 ≤ id ∧ id ≤ 255) := by
  have hM := (frm_nm id).2.2
  rw [hM]
  rcases frm_at id with ⟨hi, hf⟩ | ⟨hi, hf⟩ | ⟨hi, hf⟩ | ⟨hi, hf⟩ | ⟨hi, hf⟩ | ⟨hi, hf⟩ | ⟨hi, hf⟩ | ⟨hi, hf⟩ | ⟨hi, hf⟩ | ⟨hi, hf⟩ | ⟨hi, hf⟩ | ⟨hi, hf⟩ | ⟨hi, hf⟩ | ⟨hi, hf⟩ | ⟨hi, hf⟩ | ⟨hi, hf⟩ | ⟨hi, hf⟩ | ⟨hi, hf⟩ | ⟨hi, hf⟩ | ⟨hi, hf⟩ | ⟨hi, hf⟩ | ⟨hi, hf⟩ | ⟨hf, _⟩
  all_goals first
    | (rw [hf]; exact .inr ⟨by rfl, List.cons_ne_nil _ _, by decide +kernel, by decide +kernel, by omega, by omega⟩)
    | (rw [hf]; exact .inl ⟨by rfl, by rfl, by rfl⟩)
theorem sPE_id {id : Int} {v : List Int} (h : sPE (frm id) v = 0) : 0 < wdS (frm id).2 ∧ wdS (frm id).2 ≤ 200 ∧ 0 ≤ id ∧ id ≤ 255 := by
  rcases frm_id id with ⟨h1, _⟩ | ⟨_, _, h2⟩
  · unfold sPE at h
    rw [if_pos h1] at h
    cases h
  · exact h2
def tkId (b : List UInt8) : Int := ((b.getD 5 0).toNat : Int)
def tkN0 (b : List UInt8) : Nat := szS (tkId b)
def tkE1 (b : List UInt8) : Nat := if b.length = 0 then 2 else if ¬ b.getD 0 0 = 254 then 3 else if b.length < 6 then 2 else if tkN0 b = 0 then 6 else if ¬ (b.getD 1 0).toNat + 8 = tkN0 b then 3 else if b.length < tkN0 b then 2 else if ¬ (b.drop (tkN0 b - 2)).take 2 = sm2 (frm (tkId b)) ((b.drop 1).take (tkN0 b - 3)) then 4 else 0
def tkBody (b : List UInt8) : List UInt8 := (b.drop 6).take (tkN0 b - 8)
def tkE (b : List UInt8) : Nat := if tkE1 b = 0 then sTE (frm (tkId b)) (tkBody b) else tkE1 b
def tkN (b : List UInt8) : Nat := if tkE1 b = 0 then tkN0 b else 0
def zPk : PkV := ⟨0, 0, 0, 0, []⟩
def tkP (b : List UInt8) : PkV := if tkE b = 0 then ⟨((b.getD 2 0).toNat : Int), ((b.getD 3 0).toNat : Int), ((b.getD 4 0).toNat : Int), tkId b, sTV (frm (tkId b)) (tkBody b)⟩ else zPk
theorem six_of {b : List UInt8} (h : ¬ b.length < 6) : ∃ x0 x1 x2 x3 x4 x5 r, b = x0 :: x1 :: x2 :: x3 :: x4 :: x5 :: r := by
  rcases b with _ | ⟨x0, _ | ⟨x1, _ | ⟨x2, _ | ⟨x3, _ | ⟨x4, _ | ⟨x5, r⟩⟩⟩⟩⟩⟩
  all_goals first | exact ⟨_, _, _, _, _, _, _, rfl⟩ | (simp at h)
/-- With six bytes ahead, all that is told hangs on them and the rest. -/
def tkF (x0 x1 x5 : UInt8) (r : List UInt8) (c : List UInt8) : Nat :=
  let id : Int := (x5.toNat : Int)
  if ¬ x0 = 254 then 3 else if szS id = 0 then 6 else if ¬ x1.toNat + 8 = szS id then 3 else if r.length + 6 < szS id then 2 else if ¬ (r.drop (szS id - 8)).take 2 = sm2 (frm id) (c ++ r.take (szS id - 8)) then 4 else 0
theorem szS_ge {id : Int} (h : ¬ szS id = 0) : 8 < szS id := by
  unfold szS at h ⊢
  split
  · rename_i h1
    rw [if_pos h1] at h
    exact absurd rfl h
  · omega
theorem tkE1_six (x0 x1 x2 x3 x4 x5 : UInt8) (r : List UInt8) : tkE1 (x0 :: x1 :: x2 :: x3 :: x4 :: x5 :: r) = tkF x0 x1 x5 r [x1, x2, x3, x4, x5] := by
  unfold tkE1 tkF
  rw [if_neg (by simp)]
  show (if ¬ x0 = 254 then 3 else _) = _
  by_cases h0 : x0 = 254
  · have n0 : ¬ ¬ x0 = 254 := fun h => h h0
    rw [if_neg n0, if_neg n0, if_neg (by simp)]
    show (if szS (x5.toNat : Int) = 0 then 6 else _) = _
    by_cases h1 : szS (x5.toNat : Int) = 0
    · rw [if_pos h1, if_pos h1]
    · have hn := szS_ge h1
      rw [if_neg h1, if_neg h1]
      show (if ¬ x1.toNat + 8 = szS (x5.toNat : Int) then 3 else _) = _
      by_cases h2 : x1.toNat + 8 = szS (x5.toNat : Int)
      · have n2 : ¬ ¬ x1.toNat + 8 = szS (x5.toNat : Int) := fun h => h h2
        rw [if_neg n2, if_neg n2]
        have e1 : (x0 :: x1 :: x2 :: x3 :: x4 :: x5 :: r).length = r.length + 6 := by simp
        rw [e1]
        show (if r.length + 6 < szS (x5.toNat : Int) then 2 else _) = _
        by_cases h3 : r.length + 6 < szS (x5.toNat : Int)
        · rw [if_pos h3, if_pos h3]
        · rw [if_neg h3, if_neg h3]
          have e2 : (x0 :: x1 :: x2 :: x3 :: x4 :: x5 :: r).drop (tkN0 (x0 :: x1 :: x2 :: x3 :: x4 :: x5 :: r) - 2) = r.drop (szS (x5.toNat : Int) - 8) := by
            show (x0 :: x1 :: x2 :: x3 :: x4 :: x5 :: r).drop (szS (x5.toNat : Int) - 2) = _
            rw [show szS (x5.toNat : Int) - 2 = (szS (x5.toNat : Int) - 8) + 6 by omega]
            rfl
          have e3 : ((x0 :: x1 :: x2 :: x3 :: x4 :: x5 :: r).drop 1).take (tkN0 (x0 :: x1 :: x2 :: x3 :: x4 :: x5 :: r) - 3) = [x1, x2, x3, x4, x5] ++ r.take (szS (x5.toNat : Int) - 8) := by
            show ((x0 :: x1 :: x2 :: x3 :: x4 :: x5 :: r).drop 1).take (szS (x5.toNat : Int) - 3) = _
            rw [show szS (x5.toNat : Int) - 3 = (szS (x5.toNat : Int) - 8) + 5 by omega]
            rfl
          rw [e2, e3]
          rfl
      · rw [if_pos h2, if_pos h2]
  · rw [if_pos h0, if_pos h0]
theorem body_six (x0 x1 x2 x3 x4 x5 : UInt8) (r : List UInt8) : tkBody (x0 :: x1 :: x2 :: x3 :: x4 :: x5 :: r) = r.take (szS (x5.toNat : Int) - 8) := rfl
theorem tkE1_zero {b : List UInt8} (h : tkE1 b = 0) : ∃ x1 x2 x3 x4 x5 r, b = 254 :: x1 :: x2 :: x3 :: x4 :: x5 :: r ∧ 8 < tkN0 b ∧ x1.toNat + 8 = tkN0 b ∧ tkN0 b ≤ b.length ∧ (r.drop (tkN0 b - 8)).take 2 = sm2 (frm (tkId b)) ([x1, x2, x3, x4, x5] ++ r.take (tkN0 b - 8)) := by
  have h6 : ¬ b.length < 6 := fun h6 => by
    have hh : tkE1 b = 2 ∨ tkE1 b = 3 := by
      unfold tkE1
      by_cases a : b.length = 0
      · exact .inl (if_pos a)
      · rw [if_neg a]
        by_cases c : b.getD 0 0 = 254
        · have n0 : ¬ ¬ b.getD 0 0 = 254 := fun h => h c
          rw [if_neg n0, if_pos h6]
          exact .inl rfl
        · rw [if_pos c]
          exact .inr rfl
    omega
  obtain ⟨x0, x1, x2, x3, x4, x5, r, rfl⟩ := six_of h6
  rw [tkE1_six] at h
  unfold tkF at h
  dsimp only at h
  by_cases h0 : x0 = 254
  · rw [if_neg (fun h => h h0)] at h
    by_cases h1 : szS (x5.toNat : Int) = 0
    · rw [if_pos h1] at h; cases h
    · have hn := szS_ge h1
      rw [if_neg h1] at h
      by_cases h2 : x1.toNat + 8 = szS (x5.toNat : Int)
      · rw [if_neg (fun h => h h2)] at h
        by_cases h3 : r.length + 6 < szS (x5.toNat : Int)
        · rw [if_pos h3] at h; cases h
        · rw [if_neg h3] at h
          by_cases h4 : (r.drop (szS (x5.toNat : Int) - 8)).take 2 = sm2 (frm (x5.toNat : Int)) ([x1, x2, x3, x4, x5] ++ r.take (szS (x5.toNat : Int) - 8))
          · subst h0
            exact ⟨x1, x2, x3, x4, x5, r, rfl, hn, h2, by show szS (x5.toNat : Int) ≤ _; simp; omega, h4⟩
          · rw [if_pos h4] at h; cases h
      · rw [if_pos h2] at h; cases h
  · rw [if_pos h0] at h; cases h
theorem tkN_le (b : List UInt8) : tkN b ≤ b.length := by
  unfold tkN
  split
  · rename_i h
    obtain ⟨_, _, _, _, _, _, _, _, _, h3, _⟩ := tkE1_zero h
    exact h3
  · exact Nat.zero_le _
theorem u8_lt (x : UInt8) : (x.toNat : Int) ≤ 255 := by have := x.toNat_lt; omega
/-- What is put is taken, whatever stands behind it. -/
theorem tlm_there {p : PkV} (h : tlE p = 0) (m : List UInt8) : tkE (tlB p ++ m) = 0 ∧ tkN (tlB p ++ m) = (tlB p).length ∧ (tlB p).length = szS p.id ∧ tkP (tlB p ++ m) = p := by
  have hb : tlB p = 254 :: (tlI p ++ sm2 (frm p.id) (tlI p)) := by unfold tlB; rw [if_pos h]
  unfold tlE at h
  by_cases ho : okO p = true
  case neg => rw [if_neg ho] at h; cases h
  rw [if_pos ho] at h
  obtain ⟨h1, h2, h3⟩ := okO_spec ho
  obtain ⟨g1, g2, g3⟩ := sPE_id h
  obtain ⟨t1, t2, t3, _⟩ := s_there (frm_n p.id).1 h
  have hsz : szS p.id = wdS (frm p.id).2 + 8 := by unfold szS; rw [if_neg (by omega)]
  obtain ⟨S, hS⟩ : ∃ S, S = sPB (frm p.id) p.v := ⟨_, rfl⟩
  have hI : tlI p = [u8i (S.length : Int), u8i p.sq, u8i p.sy, u8i p.co, u8i p.id] ++ S := by unfold tlI; rw [← hS]
  rw [← hS] at t1 t2 t3
  have hid : ((u8i p.id).toNat : Int) = p.id := u8i_nat g3
  have hln : (u8i (S.length : Int)).toNat = S.length := by have := u8i_nat (n := (S.length : Int)) ⟨by omega, by omega⟩; omega
  have hc : tlB p ++ m = 254 :: u8i (S.length : Int) :: u8i p.sq :: u8i p.sy :: u8i p.co :: u8i p.id :: (S ++ (sm2 (frm p.id) (tlI p) ++ m)) := by rw [hb, hI]; simp
  have hlen : (tlB p).length = szS p.id := by rw [hb, hI, hsz, ← t3]; simp [sm2]
  have hN : tkN0 (tlB p ++ m) = szS p.id := by rw [hc]; show szS ((u8i p.id).toNat : Int) = _; rw [hid]
  have hI2 : tkId (tlB p ++ m) = p.id := by rw [hc]; exact hid
  have hE1 : tkE1 (tlB p ++ m) = 0 := by
    rw [hc, tkE1_six]
    unfold tkF
    dsimp only
    rw [if_neg (fun h => h rfl), hid, hsz, if_neg (by omega), hln, if_neg (by omega), if_neg (by simp [sm2]; omega), if_neg]
    intro hh
    refine hh ?_
    rw [show wdS (frm p.id).2 + 8 - 8 = S.length by omega, List.drop_left, List.take_left, ← hI]
    rfl
  have hB : tkBody (tlB p ++ m) = S := by
    rw [hc, body_six, hid, hsz, show wdS (frm p.id).2 + 8 - 8 = S.length by omega, List.take_left]
  have hE : tkE (tlB p ++ m) = 0 := by unfold tkE; rw [if_pos hE1, hI2, hB]; exact t1
  refine ⟨hE, by unfold tkN; rw [if_pos hE1, hN, hlen], hlen, ?_⟩
  unfold tkP
  rw [if_pos hE, hI2, hB, t2, hc]
  show PkV.mk ((u8i p.sq).toNat : Int) ((u8i p.sy).toNat : Int) ((u8i p.co).toNat : Int) p.id p.v = p
  rw [u8i_nat h1, u8i_nat h2, u8i_nat h3]
/-- What is taken, put, is those bytes. -/
theorem tlm_back {b : List UInt8} (h : tkE b = 0) : tlE (tkP b) = 0 ∧ tlB (tkP b) = b.take (tkN b) ∧ 8 ≤ tkN b ∧ ∀ x ∈ (tkP b).v, -9223372036854775808 ≤ x ∧ x ≤ 9223372036854775807 := by
  have hE1 : tkE1 b = 0 := by
    unfold tkE at h
    split at h
    · rename_i h1; exact h1
    · exact h
  have hT : sTE (frm (tkId b)) (tkBody b) = 0 := by unfold tkE at h; rwa [if_pos hE1] at h
  have hN : tkN b = tkN0 b := by unfold tkN; rw [if_pos hE1]
  have hP : tkP b = ⟨((b.getD 2 0).toNat : Int), ((b.getD 3 0).toNat : Int), ((b.getD 4 0).toNat : Int), tkId b, sTV (frm (tkId b)) (tkBody b)⟩ := by unfold tkP; rw [if_pos h]
  obtain ⟨s1, s2, s3⟩ := s_back (frm_n (tkId b)).1 hT
  obtain ⟨x1, x2, x3, x4, x5, r, hb, g1, g2, g3, g4⟩ := tkE1_zero hE1
  obtain ⟨n, hn⟩ : ∃ n, n = tkN0 b := ⟨_, rfl⟩
  have hid : tkId b = (x5.toNat : Int) := by rw [hb]; rfl
  have hB : tkBody b = r.take (n - 8) := by unfold tkBody; rw [← hn, hb]; rfl
  have hrl : n ≤ r.length + 6 := by rw [hn]; rw [hb] at g3 ⊢; simpa using g3
  have hlb : (tkBody b).length = n - 8 := by rw [hB, List.length_take]; omega
  have hok : okO (tkP b) = true := by
    rw [hP]
    unfold okO byteQ
    simp only [Bool.and_eq_true, decide_eq_true_eq]
    exact ⟨⟨⟨Int.natCast_nonneg _, u8_lt _⟩, ⟨Int.natCast_nonneg _, u8_lt _⟩⟩, ⟨Int.natCast_nonneg _, u8_lt _⟩⟩
  have hE : tlE (tkP b) = 0 := by unfold tlE; rw [if_pos hok, hP]; exact s1
  refine ⟨hE, ?_, by rw [hN]; omega, by rw [hP]; exact s3⟩
  have hI : tlI (tkP b) = [x1, x2, x3, x4, x5] ++ r.take (n - 8) := by
    unfold tlI
    rw [hP]
    dsimp only
    rw [s2, hlb, hid, hB]
    rw [hb]
    show [u8i ((n - 8 : Nat) : Int), u8i (x2.toNat : Int), u8i (x3.toNat : Int), u8i (x4.toNat : Int), u8i (x5.toNat : Int)] ++ _ = _
    rw [show n - 8 = x1.toNat by omega, u8i_of, u8i_of, u8i_of, u8i_of, u8i_of]
  unfold tlB
  rw [if_pos hE, hI, show (tkP b).id = tkId b by rw [hP], hn, ← g4, hN, ← hn]
  have e1 : r.take (n - 8) ++ (r.drop (n - 8)).take 2 = r.take (n - 6) := by
    rw [show n - 6 = (n - 8) + 2 by omega, List.take_add]
  have e2 : b.take n = 254 :: x1 :: x2 :: x3 :: x4 :: x5 :: r.take (n - 6) := by
    rw [hb]
    obtain ⟨k, rfl⟩ : ∃ k, n = k + 6 := ⟨n - 6, by omega⟩
    rfl
  rw [e2, ← e1]
  simp
/-- What is told stays. -/
theorem tlm_steady {b : List UInt8} (m : List UInt8) (h : ¬ tkE b = 2) : tkE (b ++ m) = tkE b ∧ tkN (b ++ m) = tkN b ∧ tkP (b ++ m) = tkP b := by
  have hE2 : ¬ tkE1 b = 2 := fun h1 => h (by unfold tkE; rw [if_neg (by omega)]; exact h1)
  by_cases h0 : b.length = 0
  · exact absurd (by unfold tkE1; rw [if_pos h0]) hE2
  obtain ⟨x0, b', rfl⟩ : ∃ x0 b', b = x0 :: b' := by
    cases b with
    | nil => exact absurd rfl h0
    | cons x l => exact ⟨x, l, rfl⟩
  by_cases hx : x0 = 254
  case neg =>
    have e1 : ∀ l, tkE1 (x0 :: l) = 3 := fun l => by
      unfold tkE1
      rw [if_neg (by simp)]
      show (if ¬ x0 = 254 then 3 else _) = 3
      rw [if_pos hx]
    have e2 : ∀ l, tkE (x0 :: l) = 3 := fun l => by unfold tkE; rw [e1, if_neg (by omega)]
    have e3 : ∀ l, tkN (x0 :: l) = 0 := fun l => by unfold tkN; rw [e1, if_neg (by omega)]
    have e4 : ∀ l, tkP (x0 :: l) = zPk := fun l => by unfold tkP; rw [e2, if_neg (by omega)]
    rw [List.cons_append, e2, e2, e3, e3, e4, e4]
    exact ⟨rfl, rfl, rfl⟩
  by_cases h6 : (x0 :: b').length < 6
  · exact absurd (by unfold tkE1; rw [if_neg (by simp), if_neg (fun h => h hx), if_pos h6]) hE2
  obtain ⟨y0, x1, x2, x3, x4, x5, r, hb⟩ := six_of h6
  rw [hb] at hE2 ⊢
  have hap : (y0 :: x1 :: x2 :: x3 :: x4 :: x5 :: r) ++ m = y0 :: x1 :: x2 :: x3 :: x4 :: x5 :: (r ++ m) := rfl
  have key : tkE1 (y0 :: x1 :: x2 :: x3 :: x4 :: x5 :: (r ++ m)) = tkE1 (y0 :: x1 :: x2 :: x3 :: x4 :: x5 :: r) ∧ (tkE1 (y0 :: x1 :: x2 :: x3 :: x4 :: x5 :: r) = 0 → szS (x5.toNat : Int) ≤ r.length + 6) := by
    rw [tkE1_six] at hE2
    rw [tkE1_six, tkE1_six]
    unfold tkF at hE2 ⊢
    dsimp only at hE2 ⊢
    by_cases g0 : y0 = 254
    case neg => rw [if_pos g0, if_pos g0]; exact ⟨rfl, fun h => by cases h⟩
    have n0 : ¬ ¬ y0 = 254 := fun h => h g0
    rw [if_neg n0] at hE2
    rw [if_neg n0, if_neg n0]
    by_cases g1 : szS (x5.toNat : Int) = 0
    · rw [if_pos g1, if_pos g1]; exact ⟨rfl, fun h => by cases h⟩
    have hn := szS_ge g1
    rw [if_neg g1] at hE2
    rw [if_neg g1, if_neg g1]
    by_cases g2 : x1.toNat + 8 = szS (x5.toNat : Int)
    case neg => rw [if_pos g2, if_pos g2]; exact ⟨rfl, fun h => by cases h⟩
    have n2 : ¬ ¬ x1.toNat + 8 = szS (x5.toNat : Int) := fun h => h g2
    rw [if_neg n2] at hE2
    rw [if_neg n2, if_neg n2]
    by_cases g3 : r.length + 6 < szS (x5.toNat : Int)
    · rw [if_pos g3] at hE2; exact absurd rfl hE2
    rw [if_neg (show ¬ (r ++ m).length + 6 < szS (x5.toNat : Int) by simp; omega), if_neg g3]
    have e1 : (r ++ m).take (szS (x5.toNat : Int) - 8) = r.take (szS (x5.toNat : Int) - 8) := List.take_append_of_le_length (by omega)
    have e2 : ((r ++ m).drop (szS (x5.toNat : Int) - 8)).take 2 = (r.drop (szS (x5.toNat : Int) - 8)).take 2 := by
      rw [List.drop_append_of_le_length (by omega), List.take_append_of_le_length (by rw [List.length_drop]; omega)]
    rw [e1, e2]
    exact ⟨rfl, fun _ => by omega⟩
  rw [hap]
  have kB : tkE1 (y0 :: x1 :: x2 :: x3 :: x4 :: x5 :: r) = 0 → tkBody (y0 :: x1 :: x2 :: x3 :: x4 :: x5 :: (r ++ m)) = tkBody (y0 :: x1 :: x2 :: x3 :: x4 :: x5 :: r) := fun hz => by
    rw [body_six, body_six]
    exact List.take_append_of_le_length (by have := key.2 hz; omega)
  have kE : tkE (y0 :: x1 :: x2 :: x3 :: x4 :: x5 :: (r ++ m)) = tkE (y0 :: x1 :: x2 :: x3 :: x4 :: x5 :: r) := by
    unfold tkE
    rw [key.1]
    by_cases hz : tkE1 (y0 :: x1 :: x2 :: x3 :: x4 :: x5 :: r) = 0
    · rw [if_pos hz, if_pos hz, kB hz]; rfl
    · rw [if_neg hz, if_neg hz]
  refine ⟨kE, by unfold tkN; rw [key.1]; rfl, ?_⟩
  unfold tkP
  rw [kE]
  by_cases hz : tkE (y0 :: x1 :: x2 :: x3 :: x4 :: x5 :: r) = 0
  · have hz1 : tkE1 (y0 :: x1 :: x2 :: x3 :: x4 :: x5 :: r) = 0 := by
      unfold tkE at hz
      split at hz
      · rename_i h1; exact h1
      · exact hz
    rw [if_pos hz, if_pos hz, kB hz1]; rfl
  · rw [if_neg hz, if_neg hz]
/-- Another body, or another sum: the sum does not hold. -/
theorem tlm_other {p : PkV} (h : tlE p = 0) {o : List UInt8} (ho : o.length = (sPB (frm p.id) p.v).length) {s : List UInt8} (hs : s.length = 2) (hne : ¬ s = sm2 (frm p.id) ([u8i ((sPB (frm p.id) p.v).length : Int), u8i p.sq, u8i p.sy, u8i p.co, u8i p.id] ++ o)) :
    tkE ([254, u8i ((sPB (frm p.id) p.v).length : Int), u8i p.sq, u8i p.sy, u8i p.co, u8i p.id] ++ o ++ s) = 4 ∧ tkN ([254, u8i ((sPB (frm p.id) p.v).length : Int), u8i p.sq, u8i p.sy, u8i p.co, u8i p.id] ++ o ++ s) = 0 := by
  unfold tlE at h
  by_cases hok : okO p = true
  case neg => rw [if_neg hok] at h; cases h
  rw [if_pos hok] at h
  obtain ⟨g1, g2, g3⟩ := sPE_id h
  obtain ⟨_, _, t3, _⟩ := s_there (frm_n p.id).1 h
  have hsz : szS p.id = wdS (frm p.id).2 + 8 := by unfold szS; rw [if_neg (by omega)]
  have hid : ((u8i p.id).toNat : Int) = p.id := u8i_nat g3
  have hln : (u8i ((sPB (frm p.id) p.v).length : Int)).toNat = wdS (frm p.id).2 := by have := u8i_nat (n := ((sPB (frm p.id) p.v).length : Int)) ⟨by omega, by omega⟩; omega
  have hE1 : tkE1 ([254, u8i ((sPB (frm p.id) p.v).length : Int), u8i p.sq, u8i p.sy, u8i p.co, u8i p.id] ++ o ++ s) = 4 := by
    show tkE1 (254 :: u8i ((sPB (frm p.id) p.v).length : Int) :: u8i p.sq :: u8i p.sy :: u8i p.co :: u8i p.id :: (o ++ s)) = 4
    rw [tkE1_six]
    unfold tkF
    dsimp only
    rw [if_neg (fun h => h rfl), hid, hsz, if_neg (by omega), hln, if_neg (by omega), if_neg (by simp [hs]; omega), show wdS (frm p.id).2 + 8 - 8 = o.length by omega, List.drop_left, List.take_left, List.take_of_length_le (by omega), if_pos hne]
  exact ⟨by unfold tkE; rw [if_neg (by omega)]; exact hE1, by unfold tkN; rw [if_neg (by omega)]⟩

end Go.Proofs.Ytonejdjhdjckjaa

/-
  tlm's small functions walked (printed by gen_sch6.py).
-/
set_option linter.unusedSimpArgs false
set_option linter.unusedVariables false
namespace Go.Proofs.Ytonejdjhdjckjaa
open Go.RowKit NumLaw
attribute [local go_sem] Addr.add_mid
attribute [-go_sem] run_eql_struct run_neq_struct

theorem szS_eq (id : Int) : (0 < wdS (frm id).2 → szS id = wdS (frm id).2 + 8) ∧ (¬ 0 < wdS (frm id).2 → szS id = 0) := by
  unfold szS
  constructor
  · intro h; rw [if_neg (by omega)]
  · intro h; rw [if_pos (by omega)]
theorem wd_200 (id : Int) : wdS (frm id).2 ≤ 200 := by
  rcases frm_id id with ⟨_, _, h⟩ | ⟨_, _, _, h, _⟩ <;> omega
theorem tsize_any (id : Int) (w : World) : Calls Try.prog 36 #[.int .i64 id] w fun e w' => e = .returned (.int .i64 (szS id : Int)) ∧ Below w.heap.size w w' := by
  have hw := width_any id w
  have h2 := wd_200 id
  obtain ⟨e1, e2⟩ := szS_eq id
  have E1 := Lib.hid e1
  have E2 := Lib.hid e2
  generalize wdS (frm id).2 = W at *
  have Hw := Lib.hid hw
  clear hw e1 e2
  by_cases h0 : 0 < W
  · have h0' : (0 : Int) < (W : Int) := by omega
    have hv := E1.out h0
    have Hv := Lib.hid hv
    clear hv
    go_enter Try.func36, Try.ntmps36
    go_wp2_with fail
    go_fit Hw.out
    rintro e w1 ⟨rfl, hb⟩
    go_wp2
    go_ret
    exact ⟨by rw [Hv.out]; go_num, hb⟩
  · have h0' : ¬ (0 : Int) < (W : Int) := by omega
    have hv := E2.out h0
    have Hv := Lib.hid hv
    clear hv
    go_enter Try.func36, Try.ntmps36
    go_wp2_with fail
    go_fit Hw.out
    rintro e w1 ⟨rfl, hb⟩
    go_wp2
    go_ret
    exact ⟨by rw [Hv.out]; rfl, hb⟩
theorem qtsize_any (id : Int) (w : World) : Calls Try.prog 37 #[.int .i64 id] w fun e w' => e = .returned (.int .i64 (szS id : Int)) ∧ Below w.heap.size w w' := by
  have hp := qparts_any id w
  have hw := fun w => qwidth_any id w
  have h2 := wd_200 id
  obtain ⟨e1, e2⟩ := szS_eq id
  have hcase := frm_id id
  have hc : ((frm id).2 = [] ∧ wdS (frm id).2 = 0) ∨ ((frm id).2 ≠ [] ∧ 0 < wdS (frm id).2) := by
    rcases hcase with ⟨_, h, h'⟩ | ⟨_, h, h', _⟩
    · exact .inl ⟨h, h'⟩
    · exact .inr ⟨h, h'⟩
  have E1 := Lib.hid e1
  have E2 := Lib.hid e2
  obtain ⟨L, hL⟩ : ∃ L, L = (frm id).2 := ⟨_, rfl⟩
  rw [← hL] at hp hw h2 hc E1 E2
  have hl0 : (L.length = 0 ∧ wdS L = 0) ∨ (L.length ≠ 0 ∧ 0 < wdS L) := by
    rcases hc with ⟨h, h'⟩ | ⟨h, h'⟩
    · exact .inl ⟨by rw [h]; rfl, h'⟩
    · exact .inr ⟨fun h0 => h (List.eq_nil_of_length_eq_zero h0), h'⟩
  generalize wdS L = W at *
  have Hp := Lib.hid hp
  have Hw := Lib.hid hw
  clear hp hw e1 e2 hcase hc hL
  rcases hl0 with ⟨hz, h0⟩ | ⟨hz, h0⟩
  · have hv := E2.out (by omega)
    have Hv := Lib.hid hv
    have Hz := Lib.hid hz
    clear hv h0 hz
    go_enter Try.func37, Try.ntmps37
    go_wp2_with fail
    go_fit Hp.out
    unfold RetPt
    rintro e w1 ⟨A, n, c, rfl, hr, hb⟩
    obtain rfl : n = 0 := by rw [← hr.len]; exact Hz.out
    clear hr
    go_wp2
    go_ret
    exact ⟨by rw [Hv.out]; rfl, hb⟩
  · have hv := E1.out h0
    have Hv := Lib.hid hv
    have Hz := Lib.hid hz
    clear hv hz
    go_enter Try.func37, Try.ntmps37
    go_wp2_with fail
    go_fit Hp.out
    unfold RetPt
    rintro e w1 ⟨A, n, c, rfl, hr, hb⟩
    have hn : ¬ n = 0 := fun hh => Hz.out (by rw [hr.len]; exact hh)
    have hn' : ¬ (n : Int) = 0 := by omega
    clear hr
    go_wp2_with fail
    go_fit (Hw.out w1)
    rintro e w2 ⟨rfl, hbx⟩
    have hb2 := bnx hb hbx
    clear hbx hb
    go_wp2
    go_ret
    exact ⟨by rw [Hv.out]; go_num, hb2⟩
theorem octet_any (n : Int) (w : World) (h : -9223372036854775808 ≤ n ∧ n ≤ 9223372036854775807) : Calls Try.prog 68 #[.int .i64 n] w fun e w' => e = .returned (.bool (byteQ n)) ∧ w = w' := by
  rcases (by omega : n < 0 ∨ (0 ≤ n ∧ n ≤ 255) ∨ (0 ≤ n ∧ 255 < n)) with g | ⟨g1, g2⟩ | ⟨g1, g2⟩
  · have hv : byteQ n = false := by unfold byteQ; exact decide_eq_false (by omega)
    have Hv := Lib.hid hv
    have g' : ¬ (0 : Int) ≤ n := by omega
    clear hv
    go_enter Try.func68, Try.ntmps68
    go_wp2
    go_ret
    exact ⟨by rw [Hv.out]; simp, rfl⟩
  · have hv : byteQ n = true := by unfold byteQ; exact decide_eq_true (by omega)
    have Hv := Lib.hid hv
    clear hv
    go_enter Try.func68, Try.ntmps68
    go_wp2
    go_ret
    exact ⟨by rw [Hv.out]; simp, rfl⟩
  · have hv : byteQ n = false := by unfold byteQ; exact decide_eq_false (by omega)
    have Hv := Lib.hid hv
    have g' : ¬ n ≤ 255 := by omega
    clear hv
    go_enter Try.func68, Try.ntmps68
    go_wp2
    go_ret
    exact ⟨by rw [Hv.out]; simp, rfl⟩
set_option maxRecDepth 10000 in
set_option maxHeartbeats 2000000 in
theorem octets_any (A : Option Addr) (n c : Nat) (vs : List Int) (w : World) (h : Rd w w.heap.size 1 A n c (vs.map (Value.int .i64))) :
    Calls Try.prog 65 #[.slice A n c] w fun e w' => e = .returned (.bool (vs.all byteQ)) ∧ Below w.heap.size w w' := by
  have hl : vs.length = n := by have := h.len; simpa using this
  have hmx := h.max
  have hle := h.le
  unfold maxLen at hmx
  have Hl := Lib.hid hl
  clear hl
  go_enter Try.func65, Try.ntmps65
  go_wp2_with fail
  go_loopw [7] (fun i wr => ∃ k : Nat, k ≤ n ∧ i = .int .i64 k ∧ Below w.heap.size w wr ∧ Hid ((vs.take k).all byteQ = true)) (fun i _ => n - (intOf i).toNat)
  case atStart => exact ⟨0, by omega, rfl, Below.refl _ _, Lib.hid rfl⟩
  case round =>
    obtain ⟨k, hk, rfl, hb, Ht⟩ := hrel
    by_cases hlt : k < n
    · have hlt' : (k : Int) < (n : Int) := by omega
      obtain ⟨ad, x, rfl, hx, hc, hady⟩ := num_at h hlt
      have kx := (hb.cell (p := ad.add k) (by rw [blk_add]; exact hady)).trans hc
      have hts := take_succ hx
      obtain ⟨y, hy⟩ : ∃ y, y = x % 256 := ⟨_, rfl⟩
      have hw1 : IntKind.u8.wrap x = y := hy.symm
      have hw2 : wrap64 y = y := by unfold wrap64; omega
      by_cases hq : byteQ x = true
      · have hx2 : x % 256 = x := by unfold byteQ at hq; have := of_decide_eq_true hq; omega
        have Ht2 : Hid ((vs.take (k + 1)).all byteQ = true) := Lib.hid (by rw [hts, List.all_append, Ht.out, List.all_cons, hq]; rfl)
        have hne : (x != y) = false := by rw [hy, hx2]; simp
        clear hx hts hq hc hx2 hy
        go_wp2
        go_roundw
        case rel => exact ⟨k + 1, by omega, by go_num, hb, Ht2⟩
        case measure => simp [intOf]; omega
      · have hx2 : ¬ x = x % 256 := by
          intro hh
          refine hq ?_
          unfold byteQ
          exact decide_eq_true (by omega)
        have hqf : byteQ x = false := by cases hb : byteQ x with | true => exact absurd hb hq | false => rfl
        have hv : vs.all byteQ = false := by
          cases hh : vs.all byteQ with
          | false => rfl
          | true => exact absurd hh (all_not hx hqf)
        have Hv := Lib.hid hv
        have hne : (x != y) = true := by rw [hy]; simp; exact hx2
        clear hx hts hq hqf hc hx2 hv hy
        go_wp2
        go_ret
        exact ⟨by rw [Hv.out]; rfl, hb⟩
    · obtain rfl : k = n := by omega
      have hv : vs.all byteQ = true := by
        have := Ht.out
        rwa [List.take_of_length_le (by rw [Hl.out]; exact Nat.le_refl _)] at this
      have Hv := Lib.hid hv
      clear hv
      go_wp2
      go_ret
      exact ⟨by rw [Hv.out]; rfl, hb⟩
set_option maxHeartbeats 2000000 in
theorem tsum_any (id : Int) (A : Option Addr) (n c B : Nat) (l : List UInt8) (w : World) (h : Rd w B 1 A n c (bv l)) (hB : B ≤ w.heap.size) :
    Calls Try.prog 67 #[.int .i64 id, .slice A n c] w (RetB w (sm2 (frm id) l)) := by
  have hlt := CrcLaw.moreN_lt l (c := 65535) (by omega)
  have H := crcOf_any _ _ _ _ _ _ (RdL.lit1 (e := 36) hB h) (by simp)
  simp only [World.size_alloc, List.flatten_cons, List.flatten_nil, List.append_nil] at H
  have hx := fun w => extra_any id w
  rw [exS_N] at hx
  have hxl := exN_lt (frm id)
  have hs : smN (frm id) l = CrcLaw.stepN (CrcLaw.moreN 65535 l) (exN (frm id)) := rfl
  have hsl := smN_lt (frm id) l
  have hs2 : sm2 (frm id) l = [UInt8.ofNat (smN (frm id) l % 256), UInt8.ofNat (smN (frm id) l / 256)] := rfl
  generalize exN (frm id) = x at *
  generalize CrcLaw.moreN 65535 l = m at *
  have HH := Lib.hid H
  have Hx := Lib.hid hx
  have hst := fun w => step_any m x w hlt hxl
  rw [← hs] at hst
  generalize smN (frm id) l = q at *
  have Hst := Lib.hid hst
  have Hs2 := Lib.hid hs2
  clear H hx hst hs hs2
  go_enter Try.func67, Try.ntmps67
  go_wp2_with fail
  go_fit HH.out
  rintro e w1 ⟨rfl, hb1⟩
  have hb1 := bnxa (Below.refl _ _) hb1
  go_wp2_with fail
  go_fit (Hx.out w1)
  rintro e w2 ⟨rfl, hbx⟩
  have hb2 := bnx hb1 hbx
  go_wp2_with fail
  go_fit (Hst.out w2)
  rintro e w3 ⟨rfl, rfl⟩
  have h1 : ((q % 256 : Nat) : Int) = (q : Int) % 256 := by omega
  have h2 : ((q / 256 : Nat) : Int) % 256 = ((q / 256 : Nat) : Int) := by omega
  have own := own_new w2 w.heap.size 5 (bv (sm2 (frm id) l)) hb2.size (by rw [Hs2.out]; simp [bv, maxLen])
  have hbv : (bv (sm2 (frm id) l)).toArray = #[.int .u8 ((q : Int) % 256), .int .u8 ((q : Int) / 256)] := by
    rw [Hs2.out]
    have e1 : (UInt8.ofNat (q % 256)).toNat = q % 256 := by rw [UInt8.toNat_ofNat']; omega
    have e2 : (UInt8.ofNat (q / 256)).toNat = q / 256 := by rw [UInt8.toNat_ofNat']; omega
    simp [bv, e1, e2]
  have hl2 : (bv (sm2 (frm id) l)).length = 2 := by rw [Hs2.out]; rfl
  rw [hl2, hbv] at own
  have Hown := Lib.hid own
  have hb3 : Below w.heap.size w (w2.alloc (.cells #[.int .u8 ((q : Int) % 256), .int .u8 ((q : Int) / 256)] 5)) := hb2.alloc hb2.size _
  clear own hbv hl2 hb1 hb2 hbx h1 h2
  go_wp2
  go_ret
  exact ⟨_, _, 2, rfl, Hown.out, hb3⟩
set_option maxRecDepth 10000 in
set_option maxHeartbeats 2000000 in
theorem equal8_any (A : Option Addr) (n c B : Nat) (l : List UInt8) (A' : Option Addr) (n' c' B' : Nat) (l' : List UInt8) (w : World) (h : Rd w B 1 A n c (bv l)) (hB : B ≤ w.heap.size) (h' : Rd w B' 1 A' n' c' (bv l')) (hB' : B' ≤ w.heap.size) :
    Calls Try.prog 71 #[.slice A n c, .slice A' n' c'] w fun e w' => e = .returned (.bool (decide (l = l'))) ∧ Below w.heap.size w w' := by
  replace h := h.more hB
  replace h' := h'.more hB'
  have Hl := Lib.hid h.blen
  have Hl' := Lib.hid h'.blen
  have hmx := h.max
  have hle := h.le
  have hmx' := h'.max
  have hle' := h'.le
  unfold maxLen at hmx hmx'
  clear hB hB'
  by_cases hn : n = n'
  case neg =>
    have hv : decide (l = l') = false := decide_eq_false (fun e => hn (by rw [← Hl.out, ← Hl'.out, e]))
    have Hv := Lib.hid hv
    have hn' : ¬ (n : Int) = (n' : Int) := by omega
    have hnq : ((n : Int) != (n' : Int)) = true := by simp; omega
    clear hv
    go_enter Try.func71, Try.ntmps71
    go_wp2
    go_ret
    exact ⟨by rw [Hv.out]; rfl, Below.refl _ _⟩
  subst hn
  have hnn : ((n : Int) != (n : Int)) = false := by simp
  go_enter Try.func71, Try.ntmps71
  go_wp2_with fail
  go_loopw [13] (fun i wr => ∃ k : Nat, k ≤ n ∧ i = .int .i64 k ∧ Below w.heap.size w wr ∧ Hid (l.take k = l'.take k)) (fun i _ => n - (intOf i).toNat)
  case atStart => exact ⟨0, by omega, rfl, Below.refl _ _, Lib.hid rfl⟩
  case round =>
    obtain ⟨k, hk, rfl, hb, Ht⟩ := hrel
    by_cases hlt : k < n
    · have hlt' : (k : Int) < (n : Int) := by omega
      obtain ⟨ad, x, rfl, hx, hc⟩ := h.byte hlt
      obtain ⟨ad', y, rfl, hy, hc'⟩ := h'.byte hlt
      obtain ⟨_, e1, hb1, _⟩ := h.at_ (by omega)
      injection e1 with e1
      subst e1
      obtain ⟨_, e1, hb2, _⟩ := h'.at_ (by omega)
      injection e1 with e1
      subst e1
      have Hx := Lib.hid (show ∀ wq, Below w.heap.size w wq → wq.cell? (ad.add k) = some (.int .u8 (x.toNat : Int)) from fun wq hbq => (hbq.cell (p := ad.add k) (by rw [blk_add]; exact hb1)).trans hc)
      have Hy := Lib.hid (show ∀ wq, Below w.heap.size w wq → wq.cell? (ad'.add k) = some (.int .u8 (y.toNat : Int)) from fun wq hbq => (hbq.cell (p := ad'.add k) (by rw [blk_add]; exact hb2)).trans hc')
      have Htx := Lib.hid (take_succ hx)
      have Hty := Lib.hid (take_succ hy)
      have Hne := Lib.hid (takeP_ne hx hy)
      clear hx hy hc hc' hb1 hb2
      go_wp2_with fail
      refine Ord.region_ (fun w' => Below w.heap.size w w') false [] (by kernel_rfl) (by kernel_rfl) hb.drew ?_
      replace hb := hb.drew
      generalize wr.drew = wd at *
      ((with_reducible refine Ord.e_p (v := ?_) ?_ ?_ ?_ ?_); rotate_left; (· exact rfl); (· kernel_rfl); (· intro w2; go_simp; try with_reducible rfl))
      (try simp only [Act.put, List.setIfInBounds_toArray, List.set_cons_zero, List.set_cons_succ])
      ((with_reducible refine Ord.e_p (v := ?_) ?_ ?_ ?_ ?_); rotate_left; (· exact rfl); (· kernel_rfl); (· intro w2; go_simp; try with_reducible rfl))
      (try simp only [Act.put, List.setIfInBounds_toArray, List.set_cons_zero, List.set_cons_succ])
      ((with_reducible refine Ord.e_p (v := ?_) ?_ ?_ ?_ ?_); rotate_left; (· exact rfl); (· kernel_rfl); (· intro w2; go_simp; try with_reducible rfl))
      (try simp only [Act.put, List.setIfInBounds_toArray, List.set_cons_zero, List.set_cons_succ])
      refine Ord.e_loadS (ad := ad.add k) Try.underlying5 rfl (fun w' hS => Hx.out w' hS) hb rfl (by kernel_rfl) ?_
      (try simp only [Act.put, List.setIfInBounds_toArray, List.set_cons_zero, List.set_cons_succ])
      ((with_reducible refine Ord.e_p (v := ?_) ?_ ?_ ?_ ?_); rotate_left; (· exact rfl); (· kernel_rfl); (· intro w2; go_simp; try with_reducible rfl))
      (try simp only [Act.put, List.setIfInBounds_toArray, List.set_cons_zero, List.set_cons_succ])
      ((with_reducible refine Ord.e_p (v := ?_) ?_ ?_ ?_ ?_); rotate_left; (· exact rfl); (· kernel_rfl); (· intro w2; go_simp; try with_reducible rfl))
      (try simp only [Act.put, List.setIfInBounds_toArray, List.set_cons_zero, List.set_cons_succ])
      ((with_reducible refine Ord.e_p (v := ?_) ?_ ?_ ?_ ?_); rotate_left; (· exact rfl); (· kernel_rfl); (· intro w2; go_simp; try with_reducible rfl))
      (try simp only [Act.put, List.setIfInBounds_toArray, List.set_cons_zero, List.set_cons_succ])
      refine Ord.e_loadS (ad := ad'.add k) Try.underlying5 rfl (fun w' hS => Hy.out w' hS) hb rfl (by kernel_rfl) ?_
      (try simp only [Act.put, List.setIfInBounds_toArray, List.set_cons_zero, List.set_cons_succ])
      by_cases hxy : x = y
      · subst hxy
        have hq : (((x.toNat : Int)) != (x.toNat : Int)) = false := by simp
        refine Ord.e_p (v := .bool false) rfl (by kernel_rfl) (fun w2 => by go_simp) ?_
        (try simp only [Act.put, List.setIfInBounds_toArray, List.set_cons_zero, List.set_cons_succ])
        refine Ord.e_nil ?_
        have Ht2 : Hid (l.take (k + 1) = l'.take (k + 1)) := Lib.hid (by rw [Htx.out, Hty.out, Ht.out])
        go_wp2
        go_roundw
        case rel => exact ⟨k + 1, by omega, by go_num, hb, Ht2⟩
        case measure => simp [intOf]; omega
      · have hne : ¬ x.toNat = y.toNat := fun e => hxy (UInt8.toNat_inj.1 e)
        have hne' : ¬ (x.toNat : Int) = (y.toNat : Int) := by omega
        have hq : (((x.toNat : Int)) != (y.toNat : Int)) = true := by simp; exact hne'
        refine Ord.e_p (v := .bool true) rfl (by kernel_rfl) (fun w2 => by go_simp) ?_
        (try simp only [Act.put, List.setIfInBounds_toArray, List.set_cons_zero, List.set_cons_succ])
        refine Ord.e_nil ?_
        have hv : decide (l = l') = false := decide_eq_false (Hne.out hxy)
        have Hv := Lib.hid hv
        clear hv
        go_wp2
        go_ret
        exact ⟨by rw [Hv.out]; rfl, hb⟩
    · obtain rfl : k = n := by omega
      have hv : decide (l = l') = true := decide_eq_true (by
        have := Ht.out
        rwa [List.take_of_length_le (by rw [Hl.out]; exact Nat.le_refl _), List.take_of_length_le (by rw [Hl'.out]; exact Nat.le_refl _)] at this)
      have Hv := Lib.hid hv
      clear hv
      go_wp2
      go_ret
      exact ⟨by rw [Hv.out]; rfl, hb⟩
set_option maxRecDepth 10000 in
set_option maxHeartbeats 2000000 in
theorem sealed_any (id : Int) (A : Option Addr) (n c B : Nat) (l : List UInt8) (w : World) (h : Rd w B 1 A n c (bv l)) (hB : B ≤ w.heap.size) (hn : n ≤ 1000000) :
    Calls Try.prog 69 #[.int .i64 id, .slice A n c] w (RetB w (254 :: (l ++ sm2 (frm id) l))) := by
  obtain ⟨i0, hi⟩ := info_parts u8_info
  have Hi := Lib.hid hi
  have Hl := Lib.hid h.blen
  have hlt := CrcLaw.moreN_lt l (c := 65535) (by omega)
  have HH := Lib.hid (fun w h => rof_any A n c B l w h)
  have hx := fun w => qextra_any id w
  rw [exS_N] at hx
  have hxl := exN_lt (frm id)
  have hs : smN (frm id) l = CrcLaw.stepN (CrcLaw.moreN 65535 l) (exN (frm id)) := rfl
  have hsl := smN_lt (frm id) l
  have hs2 : sm2 (frm id) l = [UInt8.ofNat (smN (frm id) l % 256), UInt8.ofNat (smN (frm id) l / 256)] := rfl
  generalize exN (frm id) = x at *
  generalize CrcLaw.moreN 65535 l = m at *
  have Hx := Lib.hid hx
  have hst := fun w => rstep_any m x w hlt hxl
  rw [← hs] at hst
  generalize smN (frm id) l = q at *
  generalize sm2 (frm id) l = T at *
  have Hst := Lib.hid hst
  have Hs2 := Lib.hid hs2
  have htl : T.length = 2 := by rw [hs2]; rfl
  clear hx hst hs hs2 hi
  go_enter Try.func69, Try.ntmps69
  go_wp2_with fail
  go_fit (HH.out w h)
  rintro e w1 ⟨rfl, rfl⟩
  go_wp2_with fail
  go_fit (Hx.out w)
  rintro e w2 ⟨rfl, hb2⟩
  go_wp2_with fail
  go_fit (Hst.out w2)
  rintro e w3 ⟨rfl, rfl⟩
  have hr2 := (h.more hB).nx hb2
  have own2 := own_new w2 w.heap.size 5 (bv [254]) hb2.size (by simp [bv, maxLen])
  have hb3 : Below w.heap.size w (w2.alloc (.cells (bv [254]).toArray 5)) := hb2.alloc hb2.size _
  have hr3 := hr2.up ((Below.refl w2.heap.size w2).alloc (Nat.le_refl _) (.cells (bv [254]).toArray 5))
  have e254 : (bv [254]).toArray = #[Value.int .u8 254] := rfl
  rw [e254] at own2 hb3 hr3
  clear e254 hr2
  go_wp2_with (at_builtin; refine stop_ ?_)
  generalize (w2.alloc (.cells #[Value.int .u8 254] 5)) = wa at *
  refine go_ (wpList_appG (base := w.heap.size) (n := 1) Try.underlying36 Hi.out rfl (by omega) own2 rfl hr3 rfl (bv_one _) (k := 1 + n) rfl (bv_app _ _).symm (by unfold maxLen; omega) (by omega) hb3.size ?_)
  intro A3 c3 w4 own4 hgr hob
  have hb4 := Below.grown hb3 hgr hb3.size (fun j hj => (own_blk own2 hj).1)
  clear hgr hob own2 hr3 hb3 hb2
  have h2 := rd_two w4 5 (q % 256) (q / 256) (by omega) (by omega)
  rw [show ((q % 256 : Nat) : Int) = (q : Int) % 256 by omega, show ((q / 256 : Nat) : Int) = (q : Int) / 256 by omega, ← Hs2.out] at h2
  have own5 := own_up own4 ((Below.refl w4.heap.size w4).alloc (Nat.le_refl _) (.cells #[.int .u8 ((q : Int) % 256), .int .u8 ((q : Int) / 256)] 5)) (Nat.le_refl _)
  have hb5 : Below w.heap.size w (w4.alloc (.cells #[.int .u8 ((q : Int) % 256), .int .u8 ((q : Int) / 256)] 5)) := hb4.alloc hb4.size _
  clear own4 hb4
  go_wp2_with (at_builtin; refine stop_ ?_)
  generalize (w4.alloc (.cells #[.int .u8 ((q : Int) % 256), .int .u8 ((q : Int) / 256)] 5)) = w5 at *
  refine go_ (wpList_appG (base := w.heap.size) (n := 1 + n) Try.underlying36 Hi.out rfl (by omega) own5 rfl h2 rfl (bv_one _) (k := 1 + n + 2) rfl (bv_app _ _).symm (by unfold maxLen; omega) (by omega) hb5.size ?_)
  intro A6 c6 w6 own6 hgr hob
  have hb6 := Below.grown hb5 hgr hb5.size (fun j hj => (own_blk own5 hj).1)
  rw [show ([254] ++ l ++ T : List UInt8) = 254 :: (l ++ T) by simp] at own6
  clear hgr hob own5 h2 hb5
  go_wp2
  go_ret
  exact ⟨A6, c6, 1 + n + 2, rfl, own6, hb6⟩
theorem num32_any (n : Int) (w : World) : Calls Try.prog 35 #[.int .i64 n] w fun e w' => e = .returned (.int .i64 n) ∧ w = w' := by
  go_enter Try.func35, Try.ntmps35
  go_wp2
  go_ret
  exact ⟨rfl, rfl⟩

end Go.Proofs.Ytonejdjhdjckjaa

/-
  tlm.Put walked (printed by gen_sch6.py).
-/
set_option linter.unusedSimpArgs false
set_option linter.unusedVariables false
namespace Go.Proofs.Ytonejdjhdjckjaa
open Go.RowKit NumLaw
attribute [local go_sem] Addr.add_mid
attribute [-go_sem] run_eql_struct run_neq_struct

theorem u8i_mod (n : Int) : IntKind.u8.wrap n = ((u8i n).toNat : Int) := by
  show n % 256 = _
  unfold u8i
  rw [UInt8.toNat_ofNat']
  omega
def PkB (p : PkV) : Prop := (-9223372036854775808 ≤ p.sq ∧ p.sq ≤ 9223372036854775807) ∧ (-9223372036854775808 ≤ p.sy ∧ p.sy ≤ 9223372036854775807) ∧ (-9223372036854775808 ≤ p.co ∧ p.co ≤ 9223372036854775807) ∧ (-9223372036854775808 ≤ p.id ∧ p.id ≤ 9223372036854775807) ∧ ∀ x ∈ p.v, -9223372036854775808 ≤ x ∧ x ≤ 9223372036854775807
theorem tlI_len {p : PkV} : (tlI p).length = (sPB (frm p.id) p.v).length + 5 := by unfold tlI; simp
theorem sPB_len {id : Int} {v : List Int} : (sPB (frm id) v).length ≤ 200 := by
  by_cases h : sPE (frm id) v = 0
  · have h1 := (s_there (frm_n id).1 h).2.2.1
    have := wd_200 id
    omega
  · rw [sPB_not h]; exact Nat.zero_le _
set_option maxRecDepth 20000 in
set_option maxHeartbeats 8000000 in
theorem tlput_any (sq sy co id : Int) (A : Option Addr) (n c : Nat) (v : List Int) (w : World) (h : Rd w w.heap.size 1 A n c (v.map (Value.int .i64))) (hB : PkB ⟨sq, sy, co, id, v⟩) :
    Calls Try.prog 33 #[.agg #[.int .i64 sq, .int .i64 sy, .int .i64 co, .int .i64 id, .slice A n c]] w (RetPS w (tlB ⟨sq, sy, co, id, v⟩) (tlE ⟨sq, sy, co, id, v⟩)) := by
  have hok : okO ⟨sq, sy, co, id, v⟩ = [sq, sy, co].all byteQ := by unfold okO; simp [Bool.and_assoc]
  have hE : tlE ⟨sq, sy, co, id, v⟩ = if okO ⟨sq, sy, co, id, v⟩ = true then sPE (frm id) v else 1 := rfl
  have hBt : tlB ⟨sq, sy, co, id, v⟩ = if tlE ⟨sq, sy, co, id, v⟩ = 0 then 254 :: (tlI ⟨sq, sy, co, id, v⟩ ++ sm2 (frm id) (tlI ⟨sq, sy, co, id, v⟩)) else [] := rfl
  have hI : tlI ⟨sq, sy, co, id, v⟩ = [u8i ((sPB (frm id) v).length : Int), u8i sq, u8i sy, u8i co, u8i id] ++ sPB (frm id) v := rfl
  have hil := @tlI_len ⟨sq, sy, co, id, v⟩
  have hpl := @sPB_len id v
  have hp := fun A n c w h => put31_any id A n c v w h hB.2.2.2.2
  have hsm := fun A n c B l w h hB => tsum_any id A n c B l w h hB
  generalize tlE ⟨sq, sy, co, id, v⟩ = oE at *
  generalize tlB ⟨sq, sy, co, id, v⟩ = oB at *
  generalize okO ⟨sq, sy, co, id, v⟩ = ok at *
  generalize tlI ⟨sq, sy, co, id, v⟩ = I at *
  dsimp only at hil
  generalize sPE (frm id) v = pE at *
  generalize sPB (frm id) v = pB at *
  have hsl : ∀ l, (sm2 (frm id) l).length = 2 := fun _ => rfl
  generalize frm id = fm at *
  have Hp := Lib.hid hp
  have Hsm := Lib.hid hsm
  have Hok := Lib.hid hok
  have HE := Lib.hid hE
  have HBt := Lib.hid hBt
  have HI := Lib.hid hI
  have Hil := Lib.hid hil
  have Hsl := Lib.hid hsl
  obtain ⟨y1, hy1⟩ : ∃ y, y = ((u8i sq).toNat : Int) := ⟨_, rfl⟩
  obtain ⟨y2, hy2⟩ : ∃ y, y = ((u8i sy).toNat : Int) := ⟨_, rfl⟩
  obtain ⟨y3, hy3⟩ : ∃ y, y = ((u8i co).toNat : Int) := ⟨_, rfl⟩
  obtain ⟨y4, hy4⟩ : ∃ y, y = ((u8i id).toNat : Int) := ⟨_, rfl⟩
  have hw1 : IntKind.u8.wrap sq = y1 := by rw [hy1]; exact u8i_mod sq
  have hw2 : IntKind.u8.wrap sy = y2 := by rw [hy2]; exact u8i_mod sy
  have hw3 : IntKind.u8.wrap co = y3 := by rw [hy3]; exact u8i_mod co
  have hw4 : IntKind.u8.wrap id = y4 := by rw [hy4]; exact u8i_mod id
  have Hy := Lib.hid (And.intro hy1 (And.intro hy2 (And.intro hy3 hy4)))
  obtain ⟨i0, hi⟩ := info_parts u8_info
  have Hi := Lib.hid hi
  clear hp hsm hok hE hBt hI hil hB hy1 hy2 hy3 hy4 hi hsl
  have a0 := heap_alloc_new w (.cells #[.int .i64 sq, .int .i64 sy, .int .i64 co, .int .i64 id, .slice A n c] 48)
  have hba : Below w.heap.size w (w.alloc (.cells #[.int .i64 sq, .int .i64 sy, .int .i64 co, .int .i64 id, .slice A n c] 48)) := (Below.refl _ _).alloc (Nat.le_refl _) _
  have hlt0 := blk_lt a0
  have own3 := own_new (w.alloc (.cells #[.int .i64 sq, .int .i64 sy, .int .i64 co, .int .i64 id, .slice A n c] 48)) w.heap.size 3 [.int .i64 sq, .int .i64 sy, .int .i64 co] hba.size (by simp [maxLen])
  have hb2 : Below (w.alloc (.cells #[.int .i64 sq, .int .i64 sy, .int .i64 co, .int .i64 id, .slice A n c] 48)).heap.size (w.alloc (.cells #[.int .i64 sq, .int .i64 sy, .int .i64 co, .int .i64 id, .slice A n c] 48)) ((w.alloc (.cells #[.int .i64 sq, .int .i64 sy, .int .i64 co, .int .i64 id, .slice A n c] 48)).alloc (.cells #[.int .i64 sq, .int .i64 sy, .int .i64 co] 3)) := (Below.refl _ _).alloc (Nat.le_refl _) _
  have hr3 := Rd.own own3
  have a2 := blk_old a0 hb2 hlt0
  have hbw2 := bnx hba hb2
  have h2 := h.nx hbw2
  have hlt2 := blk_lt a2
  have hz2 : w.heap.size + 1 + 1 ≤ ((w.alloc (.cells #[.int .i64 sq, .int .i64 sy, .int .i64 co, .int .i64 id, .slice A n c] 48)).alloc (.cells #[.int .i64 sq, .int .i64 sy, .int .i64 co] 3)).heap.size := by simp only [World.size_alloc]; exact Nat.le_refl _
  simp only [World.size_alloc] at hr3
  have c0 := blk_cell (i := 0) (v := .int .i64 sq) a0 rfl
  have c1 := blk_cell (i := 1) (v := .int .i64 sy) a0 rfl
  have c2 := blk_cell (i := 2) (v := .int .i64 co) a0 rfl
  have c3 := blk_cell (i := 3) (v := .int .i64 id) a0 rfl
  have c4 := blk_cell (i := 4) (v := .slice A n c) a0 rfl
  clear own3 hb2 hba hlt0
  go_enter Try.func33, Try.ntmps33
  go_wp2_with fail
  obtain ⟨b0, hb0⟩ : ∃ b0, b0 = w.heap.size := ⟨_, rfl⟩
  rw [← hb0] at a2 hlt2 hr3 hz2 ⊢
  generalize ((w.alloc (.cells #[.int .i64 sq, .int .i64 sy, .int .i64 co, .int .i64 id, .slice A n c] 48)).alloc (.cells #[.int .i64 sq, .int .i64 sy, .int .i64 co] 3)) = w2 at *
  clear hb0 h c0 c1 c2 c3 c4 a0
  go_fit (octets_any _ 3 3 [sq, sy, co] w2 (hr3.more hz2))
  rintro e w3 ⟨rfl, hbx⟩
  rw [← Hok.out]
  have hb3 := bnx hbw2 hbx
  have h3 := h2.nx hbx
  have a3 := blk_old a2 hbx hlt2
  have hlt3 := blk_lt a3
  clear hr3 hbw2 hbx h2 a2 hlt2
  cases ok with
  | false =>
    have e1 : Hid (oE = 1) := Lib.hid (by rw [HE.out]; rfl)
    have e2 : Hid (oB = []) := Lib.hid (by rw [HBt.out, e1.out]; rfl)
    clear h3
    go_wp2
    go_ret2
    rw [e1.out, e2.out]
    exact ⟨none, 0, 0, rfl, World.ownsRow_nil _ _ _ _, hb3⟩
  | true =>
    have e1 : Hid (oE = pE) := Lib.hid (by rw [HE.out]; rfl)
    have c3 : w3.cell? ⟨b0, 3, none⟩ = some (.int .i64 id) := blk_cell a3 rfl
    have c4 : w3.cell? ⟨b0, 4, none⟩ = some (.slice A n c) := blk_cell a3 rfl
    go_wp2_with fail
    go_fit (Hp.out A n c w3 h3)
    rintro e w4 ⟨Ap, np, kp, rfl, ownp, hbx⟩
    have hb4 := bnx hb3 hbx
    have hnp := own_len ownp
    have a4 := blk_old a3 hbx hlt3
    have hlt4 := blk_lt a4
    clear c3 c4 hbx hb3 h3 a3 hlt3
    by_cases hz : pE = 0
    case neg =>
      have hz' : ¬ (pE : Int) = 0 := by omega
      have hzq : ((pE : Int) != 0) = true := by simp; exact hz
      have e2 : Hid (oB = []) := Lib.hid (by rw [HBt.out, e1.out, if_neg hz])
      clear ownp
      go_wp2
      go_ret2
      rw [e1.out, e2.out]
      exact ⟨none, 0, 0, rfl, World.ownsRow_nil _ _ _ _, hb4⟩
    subst hz
    have e2 : Hid (oB = 254 :: (I ++ sm2 fm I)) := Lib.hid (by rw [HBt.out, e1.out]; rfl)
    have c0 : w4.cell? ⟨b0, 0, none⟩ = some (.int .i64 sq) := blk_cell a4 rfl
    have c1 : w4.cell? ⟨b0, 1, none⟩ = some (.int .i64 sy) := blk_cell a4 rfl
    have c2 : w4.cell? ⟨b0, 2, none⟩ = some (.int .i64 co) := blk_cell a4 rfl
    obtain ⟨y0, hy0⟩ : ∃ y, y = ((u8i (np : Int)).toNat : Int) := ⟨_, rfl⟩
    have hw0 : IntKind.u8.wrap (np : Int) = y0 := by rw [hy0]; exact u8i_mod _
    have hbv : (bv [254, u8i (np : Int), u8i sq, u8i sy, u8i co, u8i id]) = [.int .u8 254, .int .u8 y0, .int .u8 y1, .int .u8 y2, .int .u8 y3, .int .u8 y4] := by
      rw [hy0, Hy.out.1, Hy.out.2.1, Hy.out.2.2.1, Hy.out.2.2.2]; rfl
    have hw5 : Below w4.heap.size w4 (w4.alloc (.cells #[.int .u8 254, .int .u8 y0, .int .u8 y1, .int .u8 y2, .int .u8 y3, .int .u8 y4] 5)) := (Below.refl _ _).alloc (Nat.le_refl _) _
    have hr5 : Rd (w4.alloc (.cells #[.int .u8 254, .int .u8 y0, .int .u8 y1, .int .u8 y2, .int .u8 y3, .int .u8 y4] 5)) (w4.alloc (.cells #[.int .u8 254, .int .u8 y0, .int .u8 y1, .int .u8 y2, .int .u8 y3, .int .u8 y4] 5)).heap.size 1 (some ⟨w4.heap.size, 0, none⟩) 6 6 (bv [254, u8i (np : Int), u8i sq, u8i sy, u8i co, u8i id]) := by
      rw [hbv]
      exact Rd.own (own_new w4 w4.heap.size 5 [.int .u8 254, .int .u8 y0, .int .u8 y1, .int .u8 y2, .int .u8 y3, .int .u8 y4] (Nat.le_refl _) (by simp [maxLen]))
    have hrp := (Rd.own ownp).nx hw5
    have hb5 := bnx hb4 hw5
    have H := concat_any _ _ _ _ _ _ (RdL.lit2 (e := 36) (Nat.le_refl _) hr5 hrp) (by simp) (by simp; omega)
    simp only [World.size_alloc, List.flatten_cons, List.flatten_nil, List.append_nil] at H
    rw [show [254, u8i (np : Int), u8i sq, u8i sy, u8i co, u8i id] ++ pB = 254 :: I by rw [HI.out, hnp]; rfl] at H
    have HH := Lib.hid H
    have Hil2 : Hid (I.length = np + 5) := Lib.hid (by rw [Hil.out, hnp])
    have hnp2 : np ≤ 200 := by omega
    clear H hbv hr5 hrp hw5 ownp hb4 hy0
    go_wp2_with fail
    go_fit HH.out
    rintro e w6 hret
    have hb6x : Below w.heap.size w ((w4.alloc (.cells #[.int .u8 254, .int .u8 y0, .int .u8 y1, .int .u8 y2, .int .u8 y3, .int .u8 y4] 5)).alloc (.cells #[.slice (some ⟨w4.heap.size, 0, none⟩) 6 6, .slice Ap np kp] 36)) := hb5.alloc hb5.size _
    obtain ⟨A6, c6, n6, rfl, own6, hb6⟩ := hret.back hb6x
    have hn6 : n6 = np + 6 := by have := own_len own6; rw [List.length_cons, Hil2.out] at this; omega
    subst hn6
    clear hret hb6x hb5 HH c0 c1 c2
    have hr6 := Rd.own own6
    have hmx6 := hr6.max
    have hle6 := hr6.le
    unfold maxLen at hmx6
    have hcut : ∀ w, (Instr.slice 36 (.slice A6 (np + 6) c6) (some (.int .i64 1)) none none).run Try.prog w = .ok (.slice (cutA A6 c6 1 1) (np + 5) (c6 - 1)) w := fun w => run_cut_l (P := Try.prog) Try.underlying36 Hi.out.1 Hi.out.2.2.1 A6 (np + 6) c6 1 (by omega) w
    have hrc : Rd w6 w6.heap.size 1 (cutA A6 c6 1 1) (np + 5) (c6 - 1) (bv I) := hr6.bdrop (k := 1) (by omega)
    clear hr6
    go_wp2_with fail
    go_fit (Hsm.out _ (np + 5) _ w6.heap.size I w6 hrc (Nat.le_refl _))
    rintro e w7 ⟨A7, c7, n7, rfl, own7, hbx⟩
    have hb7 := bnx hb6 hbx
    have own8 := own_up own6 hbx (Nat.le_refl _)
    have hr7 := Rd.own own7
    have hn7 : n7 = 2 := by have := own_len own7; rw [Hsl.out] at this; omega
    subst hn7
    clear own6 own7 hrc hbx hb6
    go_wp2_with (at_builtin; refine stop_ ?_)
    refine go_ (wpList_appG (base := w.heap.size) (n := np + 6) Try.underlying36 Hi.out rfl (by omega) own8 rfl hr7 rfl (bv_one _) (k := np + 8) rfl (bv_app _ _).symm (by unfold maxLen; omega) (by omega) hb7.size ?_)
    intro A9 c9 w9 own10 hgr hob
    have hb9 := Below.grown hb7 hgr hb7.size (fun j hj => (own_blk own8 hj).1)
    rw [show (254 :: I ++ sm2 fm I : List UInt8) = 254 :: (I ++ sm2 fm I) from rfl, ← e2.out] at own10
    clear hgr hob own8 hr7 hb7
    go_wp2
    go_ret2
    rw [e1.out]
    exact ⟨A9, np + 8, c9, rfl, own10, hb9⟩

end Go.Proofs.Ytonejdjhdjckjaa

/-
  the document's tlm Put walked (printed by gen_sch6.py).
-/
set_option linter.unusedSimpArgs false
set_option linter.unusedVariables false
namespace Go.Proofs.Ytonejdjhdjckjaa
open Go.RowKit NumLaw
attribute [local go_sem] Addr.add_mid
attribute [-go_sem] run_eql_struct run_neq_struct

set_option maxRecDepth 20000 in
set_option maxHeartbeats 8000000 in
theorem qtlput_any (sq sy co id : Int) (A : Option Addr) (n c : Nat) (v : List Int) (w : World) (h : Rd w w.heap.size 1 A n c (v.map (Value.int .i64))) (hB : PkB ⟨sq, sy, co, id, v⟩) :
    Calls Try.prog 34 #[.agg #[.int .i64 sq, .int .i64 sy, .int .i64 co, .int .i64 id, .slice A n c]] w (RetPS w (tlB ⟨sq, sy, co, id, v⟩) (tlE ⟨sq, sy, co, id, v⟩)) := by
  have hok : okO ⟨sq, sy, co, id, v⟩ = (byteQ sq && byteQ sy && byteQ co) := rfl
  have hE : tlE ⟨sq, sy, co, id, v⟩ = if okO ⟨sq, sy, co, id, v⟩ = true then sPE (frm id) v else 1 := rfl
  have hBt : tlB ⟨sq, sy, co, id, v⟩ = if tlE ⟨sq, sy, co, id, v⟩ = 0 then 254 :: (tlI ⟨sq, sy, co, id, v⟩ ++ sm2 (frm id) (tlI ⟨sq, sy, co, id, v⟩)) else [] := rfl
  have hI : tlI ⟨sq, sy, co, id, v⟩ = [u8i ((sPB (frm id) v).length : Int), u8i sq, u8i sy, u8i co, u8i id] ++ sPB (frm id) v := rfl
  have hil := @tlI_len ⟨sq, sy, co, id, v⟩
  have hpl := @sPB_len id v
  have hp := fun A n c w h => qput31_any id A n c v w h
  have hsm := fun A n c B l w h hB hn => sealed_any id A n c B l w h hB hn
  have ho1 := fun w => octet_any sq w hB.1
  have ho2 := fun w => octet_any sy w hB.2.1
  have ho3 := fun w => octet_any co w hB.2.2.1
  generalize tlE ⟨sq, sy, co, id, v⟩ = oE at *
  generalize tlB ⟨sq, sy, co, id, v⟩ = oB at *
  generalize okO ⟨sq, sy, co, id, v⟩ = ok at *
  generalize tlI ⟨sq, sy, co, id, v⟩ = I at *
  dsimp only at hil
  generalize sPE (frm id) v = pE at *
  generalize sPB (frm id) v = pB at *
  generalize frm id = fm at *
  generalize byteQ sq = q1 at *
  generalize byteQ sy = q2 at *
  generalize byteQ co = q3 at *
  have Hp := Lib.hid hp
  have Hsm := Lib.hid hsm
  have Hok := Lib.hid hok
  have HE := Lib.hid hE
  have HBt := Lib.hid hBt
  have HI := Lib.hid hI
  have Hil := Lib.hid hil
  have Ho1 := Lib.hid ho1
  have Ho2 := Lib.hid ho2
  have Ho3 := Lib.hid ho3
  obtain ⟨y1, hy1⟩ : ∃ y, y = ((u8i sq).toNat : Int) := ⟨_, rfl⟩
  obtain ⟨y2, hy2⟩ : ∃ y, y = ((u8i sy).toNat : Int) := ⟨_, rfl⟩
  obtain ⟨y3, hy3⟩ : ∃ y, y = ((u8i co).toNat : Int) := ⟨_, rfl⟩
  obtain ⟨y4, hy4⟩ : ∃ y, y = ((u8i id).toNat : Int) := ⟨_, rfl⟩
  have hw1 : IntKind.u8.wrap sq = y1 := by rw [hy1]; exact u8i_mod sq
  have hw2 : IntKind.u8.wrap sy = y2 := by rw [hy2]; exact u8i_mod sy
  have hw3 : IntKind.u8.wrap co = y3 := by rw [hy3]; exact u8i_mod co
  have hw4 : IntKind.u8.wrap id = y4 := by rw [hy4]; exact u8i_mod id
  have Hy := Lib.hid (And.intro hy1 (And.intro hy2 (And.intro hy3 hy4)))
  obtain ⟨i0, hi⟩ := info_parts u8_info
  have Hi := Lib.hid hi
  clear hp hsm hok hE hBt hI hil hB hy1 hy2 hy3 hy4 hi ho1 ho2 ho3
  have a0 := heap_alloc_new w (.cells #[.int .i64 sq, .int .i64 sy, .int .i64 co, .int .i64 id, .slice A n c] 48)
  have hba : Below w.heap.size w (w.alloc (.cells #[.int .i64 sq, .int .i64 sy, .int .i64 co, .int .i64 id, .slice A n c] 48)) := (Below.refl _ _).alloc (Nat.le_refl _) _
  have hlt0 := blk_lt a0
  have h2 := h.nx hba
  have c0 := blk_cell (i := 0) (v := .int .i64 sq) a0 rfl
  have c1 := blk_cell (i := 1) (v := .int .i64 sy) a0 rfl
  have c2 := blk_cell (i := 2) (v := .int .i64 co) a0 rfl
  have c3 := blk_cell (i := 3) (v := .int .i64 id) a0 rfl
  have c4 := blk_cell (i := 4) (v := .slice A n c) a0 rfl
  go_enter Try.func34, Try.ntmps34
  go_wp2_with fail
  obtain ⟨b0, hb0⟩ : ∃ b0, b0 = w.heap.size := ⟨_, rfl⟩
  rw [← hb0] at a0 hlt0 c0 c1 c2 c3 c4 ⊢
  generalize (w.alloc (.cells #[.int .i64 sq, .int .i64 sy, .int .i64 co, .int .i64 id, .slice A n c] 48)) = w2 at *
  clear hb0 h
  go_fit (Ho1.out w2)
  rintro e w3 ⟨rfl, rfl⟩
  cases q1 with
  | false =>
    have e1 : Hid (oE = 1) := Lib.hid (by rw [HE.out, Hok.out]; rfl)
    have e2 : Hid (oB = []) := Lib.hid (by rw [HBt.out, e1.out]; rfl)
    clear h2
    go_wp2
    go_ret2
    rw [e1.out, e2.out]
    exact ⟨none, 0, 0, rfl, World.ownsRow_nil _ _ _ _, hba⟩
  | true =>
  go_wp2_with fail
  go_fit (Ho2.out w2)
  rintro e w3 ⟨rfl, rfl⟩
  cases q2 with
  | false =>
    have e1 : Hid (oE = 1) := Lib.hid (by rw [HE.out, Hok.out]; rfl)
    have e2 : Hid (oB = []) := Lib.hid (by rw [HBt.out, e1.out]; rfl)
    clear h2
    go_wp2
    go_ret2
    rw [e1.out, e2.out]
    exact ⟨none, 0, 0, rfl, World.ownsRow_nil _ _ _ _, hba⟩
  | true =>
  go_wp2_with fail
  go_fit (Ho3.out w2)
  rintro e w3 ⟨rfl, rfl⟩
  cases q3 with
  | false =>
    have e1 : Hid (oE = 1) := Lib.hid (by rw [HE.out, Hok.out]; rfl)
    have e2 : Hid (oB = []) := Lib.hid (by rw [HBt.out, e1.out]; rfl)
    clear h2
    go_wp2
    go_ret2
    rw [e1.out, e2.out]
    exact ⟨none, 0, 0, rfl, World.ownsRow_nil _ _ _ _, hba⟩
  | true =>
  have e1 : Hid (oE = pE) := Lib.hid (by rw [HE.out, Hok.out]; rfl)
  go_wp2_with fail
  go_fit (Hp.out A n c w2 h2)
  rintro e w4 ⟨Ap, np, kp, rfl, ownp, hbx⟩
  have hb4 := bnx hba hbx
  have hnp := own_len ownp
  have a4 := blk_old a0 hbx hlt0
  have hlt4 := blk_lt a4
  clear c0 c1 c2 c3 c4 hbx hba h2 a0 hlt0
  by_cases hz : pE = 0
  case neg =>
    have hz' : ¬ (pE : Int) = 0 := by omega
    have hzq : ((pE : Int) != 0) = true := by simp; exact hz
    have e2 : Hid (oB = []) := Lib.hid (by rw [HBt.out, e1.out, if_neg hz])
    clear ownp
    go_wp2
    go_ret2
    rw [e1.out, e2.out]
    exact ⟨none, 0, 0, rfl, World.ownsRow_nil _ _ _ _, hb4⟩
  subst hz
  have e2 : Hid (oB = 254 :: (I ++ sm2 fm I)) := Lib.hid (by rw [HBt.out, e1.out]; rfl)
  have c0 : w4.cell? ⟨b0, 0, none⟩ = some (.int .i64 sq) := blk_cell a4 rfl
  have c1 : w4.cell? ⟨b0, 1, none⟩ = some (.int .i64 sy) := blk_cell a4 rfl
  have c2 : w4.cell? ⟨b0, 2, none⟩ = some (.int .i64 co) := blk_cell a4 rfl
  have c3 : w4.cell? ⟨b0, 3, none⟩ = some (.int .i64 id) := blk_cell a4 rfl
  have c4 : w4.cell? ⟨b0, 4, none⟩ = some (.slice A n c) := blk_cell a4 rfl
  obtain ⟨y0, hy0⟩ : ∃ y, y = ((u8i (np : Int)).toNat : Int) := ⟨_, rfl⟩
  have hw0 : IntKind.u8.wrap (np : Int) = y0 := by rw [hy0]; exact u8i_mod _
  have hbv : (bv [u8i (np : Int), u8i sq, u8i sy, u8i co, u8i id]) = [.int .u8 y0, .int .u8 y1, .int .u8 y2, .int .u8 y3, .int .u8 y4] := by
    rw [hy0, Hy.out.1, Hy.out.2.1, Hy.out.2.2.1, Hy.out.2.2.2]; rfl
  have hw5 : Below w4.heap.size w4 (w4.alloc (.cells #[.int .u8 y0, .int .u8 y1, .int .u8 y2, .int .u8 y3, .int .u8 y4] 5)) := (Below.refl _ _).alloc (Nat.le_refl _) _
  have own5 : (w4.alloc (.cells #[.int .u8 y0, .int .u8 y1, .int .u8 y2, .int .u8 y3, .int .u8 y4] 5)).ownsRow w4.heap.size 5 1 (.slice (some ⟨w4.heap.size, 0, none⟩) 5 5) 5 (bv [u8i (np : Int), u8i sq, u8i sy, u8i co, u8i id]) := by
    rw [hbv]
    exact own_new w4 w4.heap.size 5 [.int .u8 y0, .int .u8 y1, .int .u8 y2, .int .u8 y3, .int .u8 y4] (Nat.le_refl _) (by simp [maxLen])
  have hrp := (Rd.own ownp).nx hw5
  have hb5 := bnx hb4 hw5
  have a5 := blk_old a4 hw5 hlt4
  have Hil2 : Hid (I.length = np + 5) := Lib.hid (by rw [Hil.out, hnp])
  have hIe : Hid ([u8i (np : Int), u8i sq, u8i sy, u8i co, u8i id] ++ pB = I) := Lib.hid (by rw [HI.out, hnp])
  have hnp2 : np ≤ 200 := by omega
  have Hsz := Lib.hid hb4.size
  clear hbv hw5 ownp hb4 hy0 hnp a4
  go_wp2_with fail
  obtain ⟨g5, hg5⟩ : ∃ g5, g5 = w4.heap.size := ⟨_, rfl⟩
  rw [← hg5] at own5 hlt4 ⊢
  have Hcx := Lib.hid (show (w4.alloc (.cells #[.int .u8 y0, .int .u8 y1, .int .u8 y2, .int .u8 y3, .int .u8 y4] 5)).drew.cell? ⟨b0, 3, none⟩ = some (.int .i64 id) from blk_cell a5 rfl)
  refine Ord.region_ (fun w' => w'.cell? ⟨b0, 3, none⟩ = some (.int .i64 id)) false [] (by kernel_rfl) (by kernel_rfl) Hcx.out ?_
  replace hb5 := hb5.drew
  replace hrp : Rd (w4.alloc (.cells #[.int .u8 y0, .int .u8 y1, .int .u8 y2, .int .u8 y3, .int .u8 y4] 5)).drew (w4.alloc (.cells #[.int .u8 y0, .int .u8 y1, .int .u8 y2, .int .u8 y3, .int .u8 y4] 5)).drew.heap.size 1 _ _ _ _ := hrp.drew
  replace own5 : (w4.alloc (.cells #[.int .u8 y0, .int .u8 y1, .int .u8 y2, .int .u8 y3, .int .u8 y4] 5)).drew.ownsRow g5 5 1 _ _ _ := own5
  replace a5 : (w4.alloc (.cells #[.int .u8 y0, .int .u8 y1, .int .u8 y2, .int .u8 y3, .int .u8 y4] 5)).drew.heap[b0]? = _ := a5
  have hsz5 : g5 ≤ (w4.alloc (.cells #[.int .u8 y0, .int .u8 y1, .int .u8 y2, .int .u8 y3, .int .u8 y4] 5)).drew.heap.size := by rw [hg5]; exact ((Below.refl w4.heap.size w4).alloc (Nat.le_refl _) (.cells #[.int .u8 y0, .int .u8 y1, .int .u8 y2, .int .u8 y3, .int .u8 y4] 5)).size
  have hg5w : w.heap.size ≤ g5 := by rw [hg5]; exact Hsz.out
  clear hg5 c0 c1 c2 c3 c4
  generalize (w4.alloc (.cells #[.int .u8 y0, .int .u8 y1, .int .u8 y2, .int .u8 y3, .int .u8 y4] 5)).drew = w5 at *
  ((with_reducible refine Ord.e_p (v := ?_) ?_ ?_ ?_ ?_); rotate_left; (· exact rfl); (· kernel_rfl); (· intro w2; go_simp; try with_reducible rfl))
  (try simp only [Act.put, List.setIfInBounds_toArray, List.set_cons_zero, List.set_cons_succ])
  ((with_reducible refine Ord.e_p (v := ?_) ?_ ?_ ?_ ?_); rotate_left; (· exact rfl); (· kernel_rfl); (· intro w2; go_simp; try with_reducible rfl))
  (try simp only [Act.put, List.setIfInBounds_toArray, List.set_cons_zero, List.set_cons_succ])
  refine Ord.e_loadS (ad := ⟨b0, 3, none⟩) Try.underlying3 rfl (fun w' hS => hS) Hcx.out rfl (by kernel_rfl) ?_
  (try simp only [Act.put, List.setIfInBounds_toArray, List.set_cons_zero, List.set_cons_succ])
  ((with_reducible refine Ord.e_p (v := ?_) ?_ ?_ ?_ ?_); rotate_left; (· exact rfl); (· kernel_rfl); (· intro w2; go_simp; try with_reducible rfl))
  (try simp only [Act.put, List.setIfInBounds_toArray, List.set_cons_zero, List.set_cons_succ])
  ((with_reducible refine Ord.e_p (v := ?_) ?_ ?_ ?_ ?_); rotate_left; (· exact rfl); (· kernel_rfl); (· intro w2; go_simp; try with_reducible rfl))
  (try simp only [Act.put, List.setIfInBounds_toArray, List.set_cons_zero, List.set_cons_succ])
  refine Ord.e_x rfl (by kernel_rfl) ?_
  go_wp2_with (at_builtin; refine stop_ ?_)
  refine go_ (wpList_appG (base := g5) (n := 5) Try.underlying36 Hi.out rfl (by omega) own5 rfl hrp rfl (bv_one _) (k := 5 + np) rfl (bv_app _ _).symm (by unfold maxLen; omega) (by omega) hsz5 ?_)
  intro A6 c6 w6 own6 hgr hob
  have a6 := (hgr.block b0 (blk_lt a5) (by intro e; have := (own_blk own5 e.symm).1; omega)).trans a5
  have hb6 := Below.grown hb5 hgr hb5.size (fun j hj => Nat.le_trans hg5w (own_blk own5 hj).1)
  rw [hIe.out] at own6
  have hr6 := Rd.own own6
  have kc : w6.cell? ⟨b0, 3, none⟩ = some (.int .i64 id) := blk_cell a6 rfl
  clear hgr hob own5 own6 hrp hb5 a5 hsz5 hg5w hlt4 Hcx
  go_wp2_with fail
  refine Ord.Seg.go kc (fun h => by cases h) ?_
  (try simp only [Act.put, List.setIfInBounds_toArray, List.set_cons_zero, List.set_cons_succ])
  refine Ord.e_x rfl (by kernel_rfl) ?_
  go_wp2_with fail
  go_fit (Hsm.out A6 (5 + np) c6 w6.heap.size I w6 hr6 (Nat.le_refl _) (by omega))
  rintro e w7 ⟨A7, c7, n7, rfl, own7, hbx⟩
  have hb7 := bnx hb6 hbx
  have kc7 := (hbx.cell (p := ⟨b0, 3, none⟩) (blk_lt a6)).trans kc
  have own8 := own_mono own7 (base' := w.heap.size) hb6.size
  clear own7 hbx hb6 hr6 kc a6
  go_wp2_with fail
  refine Ord.Seg.go kc7 (fun h => by cases h) ?_
  (try simp only [Act.put, List.setIfInBounds_toArray, List.set_cons_zero, List.set_cons_succ])
  ((with_reducible refine Ord.e_p (v := ?_) ?_ ?_ ?_ ?_); rotate_left; (· exact rfl); (· kernel_rfl); (· intro w2; go_simp; try with_reducible rfl))
  (try simp only [Act.put, List.setIfInBounds_toArray, List.set_cons_zero, List.set_cons_succ])
  ((with_reducible refine Ord.e_p (v := ?_) ?_ ?_ ?_ ?_); rotate_left; (· exact rfl); (· kernel_rfl); (· intro w2; go_simp; try with_reducible rfl))
  (try simp only [Act.put, List.setIfInBounds_toArray, List.set_cons_zero, List.set_cons_succ])
  refine Ord.e_nil ?_
  rw [← e2.out] at own8
  go_wp2
  go_ret2
  rw [e1.out]
  exact ⟨A7, n7, c7, rfl, own8, hb7⟩

end Go.Proofs.Ytonejdjhdjckjaa
