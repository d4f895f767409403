/-
  Several texts in one: ValLaw Val1.
-/
import Derived.Test.YtmkidihcdljkiaaGreatKBGE
import Derived.Test.YtmkidihcdljkiaaGreatKBGS
/-
  The plain law of layer 20: pairs of keys and values there and back.
-/
set_option linter.unusedSimpArgs false
set_option linter.unusedVariables false
namespace Go.Proofs.YtmkidihcdljkiaaGreat
open Go.RowKit NumLaw

def vhF : List FieldV := [⟨1, false, 0, 0⟩, ⟨1, false, 0, 7⟩, ⟨2, false, 0, 0⟩]
theorem vhF_b : FB vhF := by intro f hf; simp [vhF] at hf; rcases hf with rfl | rfl | rfl <;> simp
theorem vhF_right : rightL vhF = true := by decide
theorem vhF_sum : sumL vhF = 4 := by decide
/-- The number in a key's bits; 0: it is no key. -/
def kdN (k : Int) : Nat := if k < 0 ∨ 2147483647 < k then 0 else if 5 < k / 268435456 then 0 else (k / 268435456).toNat
def szT : List Nat := [0, 1, 1, 2, 4, 8]
def msT : List Nat := [0, 1, 255, 65535, 4294967295, 9223372036854775807]
def szN (k : Int) : Nat := szT.getD (kdN k) 0
def msN (k : Int) : Nat := msT.getD (kdN k) 0
theorem kdN_le (k : Int) : kdN k ≤ 5 := by unfold kdN; split <;> (try split) <;> omega
theorem kd_cases (k : Int) : kdN k = 0 ∨ kdN k = 1 ∨ kdN k = 2 ∨ kdN k = 3 ∨ kdN k = 4 ∨ kdN k = 5 := by have := kdN_le k; omega
theorem kd_in {k : Int} (h : kdN k ≠ 0) : 0 ≤ k ∧ k ≤ 2147483647 := by
  unfold kdN at h
  split at h
  · exact absurd rfl h
  · omega
theorem sz_in {k : Int} (h : szN k ≠ 0) : 0 ≤ k ∧ k ≤ 2147483647 := kd_in (fun e => h (by unfold szN; rw [e]; rfl))
theorem sz_le (k : Int) : szN k ≤ 8 := by unfold szN; rcases kd_cases k with h | h | h | h | h | h <;> rw [h] <;> decide
theorem ms_lt (k : Int) : msN k < 256 ^ szN k := by unfold msN szN; rcases kd_cases k with h | h | h | h | h | h <;> rw [h] <;> decide
theorem ms_le (k : Int) : msN k ≤ 9223372036854775807 := by unfold msN; rcases kd_cases k with h | h | h | h | h | h <;> rw [h] <;> decide
def valEL : List (Int × Int) → Nat
  | [] => 0
  | p :: l => if szN p.1 = 0 then 6 else if p.2 < 0 ∨ (msN p.1 : Int) < p.2 then 5 else valEL l
def prB (p : Int × Int) : List UInt8 := bytesN 4 p.1.toNat ++ bytesN (szN p.1) p.2.toNat
def vhV (t : Int) : List Int := [0, t, 0]
def valE (t : Int) (l : List (Int × Int)) : Nat := if 32 < l.length then 7 else if shE vhF (vhV t) = 0 then valEL l else shE vhF (vhV t)
def valB (t : Int) (l : List (Int × Int)) : List UInt8 := shP vhF (vhV t) ++ l.flatMap prB
def valP (t : Int) (l : List (Int × Int)) : List UInt8 := if valE t l = 0 then valB t l else []
/-- The pairs of bytes, m of them at most. -/
def valTL : Nat → List UInt8 → Nat × List (Int × Int)
  | 0, r => if r.length = 0 then (0, []) else (7, [])
  | m + 1, r => if r.length = 0 then (0, []) else if r.length < 4 then (2, []) else
      if szN (num (r.take 4)) = 0 then (6, []) else if r.length < 4 + szN (num (r.take 4)) then (2, []) else
      if msN (num (r.take 4)) < num ((r.drop 4).take (szN (num (r.take 4)))) then (5, []) else
      ((valTL m ((r.drop 4).drop (szN (num (r.take 4))))).1, ((num (r.take 4) : Int), (num ((r.drop 4).take (szN (num (r.take 4)))) : Int)) :: (valTL m ((r.drop 4).drop (szN (num (r.take 4))))).2)
def valTE (b : List UInt8) : Nat := if b.length < 4 then 2 else if shTE vhF (b.take 4) = 0 then (valTL 32 (b.drop 4)).1 else shTE vhF (b.take 4)
def valTt (b : List UInt8) : Int := if valTE b = 0 then (shT vhF (b.take 4)).getD 1 0 else 0
def valTl (b : List UInt8) : List (Int × Int) := if valTE b = 0 then (valTL 32 (b.drop 4)).2 else []

theorem valTL_nil (m : Nat) (r : List UInt8) (h : r.length = 0) : valTL m r = (0, []) := by
  cases m <;> (unfold valTL; rw [if_pos h])
theorem valEL_one {p : Int × Int} {l : List (Int × Int)} (h : valEL (p :: l) = 0) : szN p.1 ≠ 0 ∧ 0 ≤ p.2 ∧ p.2 ≤ msN p.1 ∧ valEL l = 0 := by
  unfold valEL at h
  split at h
  · cases h
  · split at h
    · cases h
    · exact ⟨by assumption, by omega, by omega, h⟩
theorem valEL_cons {p : Int × Int} {l : List (Int × Int)} (h1 : szN p.1 ≠ 0) (h2 : 0 ≤ p.2) (h3 : p.2 ≤ msN p.1) : valEL (p :: l) = valEL l := by
  show (if _ then _ else _) = _
  rw [if_neg h1, if_neg (by omega)]
theorem prB_parts {p : Int × Int} (R : List UInt8) (h1 : szN p.1 ≠ 0) (h2 : 0 ≤ p.2) (h3 : p.2 ≤ msN p.1) :
    (num ((prB p ++ R).take 4) : Int) = p.1 ∧ (num (((prB p ++ R).drop 4).take (szN p.1)) : Int) = p.2 ∧ ((prB p ++ R).drop 4).drop (szN p.1) = R ∧ (prB p ++ R).length = 4 + szN p.1 + R.length := by
  have hk := sz_in h1
  have hm := ms_lt p.1
  have l1 : (bytesN 4 p.1.toNat).length = 4 := bytesN_len _ _
  have l2 : (bytesN (szN p.1) p.2.toNat).length = szN p.1 := bytesN_len _ _
  have e0 : (prB p ++ R).take 4 = bytesN 4 p.1.toNat := by
    unfold prB
    rw [List.append_assoc, List.take_append_of_le_length (by omega), List.take_of_length_le (by omega)]
  have e1 : (prB p ++ R).drop 4 = bytesN (szN p.1) p.2.toNat ++ R := by
    unfold prB
    rw [List.append_assoc, List.drop_append_of_le_length (by omega), List.drop_of_length_le (by omega), List.nil_append]
  rw [e0, e1]
  refine ⟨?_, ?_, ?_, ?_⟩
  · rw [num_bytesN, Nat.mod_eq_of_lt (by omega)]; omega
  · rw [List.take_append_of_le_length (by omega), List.take_of_length_le (by omega), num_bytesN, Nat.mod_eq_of_lt (by omega)]; omega
  · rw [List.drop_append_of_le_length (by omega), List.drop_of_length_le (by omega), List.nil_append]
  · unfold prB; rw [List.length_append, List.length_append, l1, l2]
theorem valTL_step {m : Nat} {r : List UInt8} {k v : Int} {R : List UInt8} (hk : (num (r.take 4) : Int) = k) (h4 : 4 + szN k ≤ r.length) (hv : (num ((r.drop 4).take (szN k)) : Int) = v) (hR : (r.drop 4).drop (szN k) = R) (h1 : szN k ≠ 0) (h3 : v ≤ msN k) :
    valTL (m + 1) r = ((valTL m R).1, (k, v) :: (valTL m R).2) := by
  subst hk hv hR
  show (if _ then _ else _) = _
  rw [if_neg (by omega), if_neg (by omega), if_neg h1, if_neg (by omega), if_neg (by omega)]
theorem valTL_there : ∀ (l : List (Int × Int)) (m : Nat), l.length ≤ m → valEL l = 0 → valTL m (l.flatMap prB) = (0, l)
  | [], m, _, _ => valTL_nil m _ rfl
  | p :: l, 0, h, _ => absurd h (by simp)
  | p :: l, m + 1, h, hz => by
    obtain ⟨h1, h2, h3, h4⟩ := valEL_one hz
    obtain ⟨e1, e2, e3, e4⟩ := prB_parts (l.flatMap prB) h1 h2 h3
    rw [List.flatMap_cons, valTL_step e1 (by omega) e2 e3 h1 h3, valTL_there l m (by simpa using h) h4]
theorem valTL_back : ∀ (m : Nat) (r : List UInt8), (valTL m r).1 = 0 → valEL (valTL m r).2 = 0 ∧ (valTL m r).2.flatMap prB = r ∧ (valTL m r).2.length ≤ m
  | 0, r, h => by
    unfold valTL at h ⊢
    split at h
    · rename_i h0
      rw [if_pos h0]
      exact ⟨rfl, (List.eq_nil_of_length_eq_zero h0).symm, Nat.le_refl _⟩
    · cases h
  | m + 1, r, h => by
    by_cases h0 : r.length = 0
    · rw [valTL_nil _ _ h0]
      exact ⟨rfl, (List.eq_nil_of_length_eq_zero h0).symm, Nat.zero_le _⟩
    unfold valTL at h
    rw [if_neg h0] at h
    split at h
    · cases h
    · split at h
      · cases h
      · split at h
        · cases h
        · split at h
          · cases h
          · rename_i h4 h1 h5 h3
            rw [valTL_step rfl (by omega) rfl rfl h1 (by omega)]
            obtain ⟨a, b, c⟩ := valTL_back m _ h
            refine ⟨?_, ?_, by simpa using c⟩
            · rw [valEL_cons h1 (by simp) (by simp; omega)]
              exact a
            · rw [List.flatMap_cons, b]
              unfold prB
              simp only [Int.toNat_natCast]
              have l1 : (r.take 4).length = 4 := by rw [List.length_take]; omega
              have l2 : ((r.drop 4).take (szN (num (r.take 4)))).length = szN (num (r.take 4)) := by rw [List.length_take, List.length_drop]; omega
              have b1 := bytesN_num (r.take 4)
              have b2 := bytesN_num ((r.drop 4).take (szN (num (r.take 4))))
              rw [l1] at b1
              rw [l2] at b2
              rw [b1, b2, List.append_assoc, List.take_append_drop, List.take_append_drop]
theorem valE_zero {t : Int} {l : List (Int × Int)} (h : valE t l = 0) : l.length ≤ 32 ∧ shE vhF (vhV t) = 0 ∧ valEL l = 0 := by
  unfold valE at h
  split at h
  · cases h
  · split at h
    · exact ⟨by omega, by assumption, h⟩
    · exact absurd h (by assumption)
theorem vhP_len {t : Int} (h : shE vhF (vhV t) = 0) : (shP vhF (vhV t)).length = 4 := by
  rw [(shape_there h).2.2]; unfold widthL; rw [if_pos vhF_right, vhF_sum]
/-- What is put is taken. -/
theorem val_there {t : Int} {l : List (Int × Int)} (h : valE t l = 0) : valTE (valP t l) = 0 ∧ valTt (valP t l) = t ∧ valTl (valP t l) = l := by
  obtain ⟨h32, hh, hs⟩ := valE_zero h
  have hP : valP t l = valB t l := by unfold valP; rw [if_pos h]
  have l1 := vhP_len hh
  have e1 : (valB t l).take 4 = shP vhF (vhV t) := by unfold valB; rw [List.take_append_of_le_length (by omega), List.take_of_length_le (by omega)]
  have e2 : (valB t l).drop 4 = l.flatMap prB := by unfold valB; rw [List.drop_append_of_le_length (by omega), List.drop_of_length_le (by omega), List.nil_append]
  have l3 : 4 ≤ (valB t l).length := by unfold valB; rw [List.length_append, l1]; omega
  obtain ⟨t1, t2, _⟩ := shape_there hh
  have hE : valTE (valB t l) = 0 := by
    unfold valTE
    rw [if_neg (by omega), e1, if_pos t1, e2, valTL_there l 32 h32 hs]
  rw [hP]
  refine ⟨hE, ?_, ?_⟩
  · unfold valTt; rw [if_pos hE, e1, t2]; rfl
  · unfold valTl; rw [if_pos hE, e2, valTL_there l 32 h32 hs]
theorem vheadT {b : List UInt8} (h : shTE vhF b = 0) : ∃ t : Int, shT vhF b = [0, t, 0] ∧ 0 ≤ t ∧ t ≤ 7 := by
  obtain ⟨h1, h2, h3⟩ := shape_back h
  have hl : (shT vhF b).length = 3 := h3
  generalize shT vhF b = v at *
  match v, hl with
  | [a0, a1, a2], _ =>
    have hin : inAll vhF [a0, a1, a2] = true := by
      unfold shE at h1
      split at h1
      · split at h1
        · assumption
        · cases h1
      · cases h1
    simp [inAll, vhF, inF] at hin
    obtain ⟨⟨p1, p2⟩, ⟨p3, p4⟩, p5, p6⟩ := hin
    obtain rfl : a0 = 0 := by omega
    obtain rfl : a2 = 0 := by omega
    exact ⟨a1, rfl, p3, p4⟩
/-- What is taken, put, is those bytes. -/
theorem val_back {b : List UInt8} (h : valTE b = 0) : valE (valTt b) (valTl b) = 0 ∧ valP (valTt b) (valTl b) = b := by
  have et : valTt b = (shT vhF (b.take 4)).getD 1 0 := by unfold valTt; rw [if_pos h]
  have el : valTl b = (valTL 32 (b.drop 4)).2 := by unfold valTl; rw [if_pos h]
  unfold valTE at h
  split at h
  · cases h
  · split at h
    · rename_i h8 hh
      obtain ⟨a1, a2, a3⟩ := valTL_back _ _ h
      obtain ⟨t, hv, _⟩ := vheadT hh
      obtain ⟨t1, t2, _⟩ := shape_back hh
      have hhd : vhV (valTt b) = shT vhF (b.take 4) := by
        rw [et, hv]
        rfl
      have hE : valE (valTt b) (valTl b) = 0 := by
        unfold valE
        rw [if_neg (by rw [el]; omega), hhd, if_pos t1, el]
        exact a1
      refine ⟨hE, ?_⟩
      unfold valP
      rw [if_pos hE]
      unfold valB
      rw [hhd, t2, el, a2, List.take_append_drop]
    · exact absurd h (by assumption)
theorem valT_none {b : List UInt8} (h : valTE b ≠ 0) : valTt b = 0 ∧ valTl b = [] := ⟨by unfold valTt; rw [if_neg h], by unfold valTl; rw [if_neg h]⟩
end Go.Proofs.YtmkidihcdljkiaaGreat

/-
  A key's kind, its value's size and the greatest one: the program's and the document's, walked; the heads.
-/
set_option linter.unusedSimpArgs false
set_option linter.unusedVariables false
namespace Go.Proofs.YtmkidihcdljkiaaGreat
open Go.RowKit NumLaw
attribute [local go_sem] Addr.add_mid

set_option maxRecDepth 10000 in
theorem bplace_any (w : World) : Calls Tryz.prog 179 #[.int .i64 28, .int .i64 3] w fun e w' => e = .returned (.bool true) ∧ w = w' := by
  go_enter Tryz.func179, Tryz.ntmps179
  go_wp2
  go_ret
  exact ⟨rfl, rfl⟩
theorem bmask_any (w : World) : Calls Tryz.prog 180 #[.int .i64 3] w fun e w' => e = .returned (.int .u32 7) ∧ w = w' := by
  go_enter Tryz.func180, Tryz.ntmps180
  go_wp2
  go_ret
  exact ⟨rfl, rfl⟩
theorem and7 : ∀ v : Fin 16, bits .and .u32 ((v.val : Nat) : Int) 7 = ((v.val % 8 : Nat) : Int) := by decide +kernel
set_option maxRecDepth 10000 in
set_option maxHeartbeats 1000000 in
theorem bget_any (x : Nat) (hx : x < 4294967296) (w : World) : Calls Tryz.prog 178 #[.int .u32 x, .int .i64 28, .int .i64 3] w fun e w' => e = .returned (.int .u32 ((x / 268435456 % 8 : Nat) : Int)) ∧ Below w.heap.size w w' := by
  have ha := and7 ⟨x / 268435456, by omega⟩
  simp only at ha
  have hsh : ∀ w, (binOp .shr 173 (.int .u32 (x : Int)) (.int .i64 28)).run Tryz.prog w = .ok (.int .u32 ((x / 268435456 : Nat) : Int)) w := by
    intro w
    show (Op.shift .shr .u32 (x : Int) .i64 28).run Tryz.prog w = _
    rw [shift_shr _ _ _ _ (by omega) (by decide)]
    have : (x : Int) / 2 ^ (28 : Int).toNat = ((x / 268435456 : Nat) : Int) := by
      rw [show (28 : Int).toNat = 28 from rfl]
      omega
    rw [this]
    rfl
  have Ha := Lib.hid ha
  clear ha hx
  have hb : Below w.heap.size w w.drew := (Below.refl _ _).drew
  go_enter Tryz.func178, Tryz.ntmps178
  go_wp2_with fail
  go_fit (bplace_any w)
  rintro e w1 ⟨rfl, rfl⟩
  go_wp2_with fail
  refine Ord.region_ (fun _ => True) false [] (by kernel_rfl) (by kernel_rfl) trivial ?_
  generalize w.drew = w1 at *
  ((with_reducible refine Ord.e_p (v := ?_) ?_ ?_ ?_ ?_); rotate_left; (· exact rfl); (· kernel_rfl); (· intro w2; go_simp; try with_reducible rfl))
  (try simp only [Act.put, List.setIfInBounds_toArray, List.set_cons_zero, List.set_cons_succ])
  ((with_reducible refine Ord.e_p (v := ?_) ?_ ?_ ?_ ?_); rotate_left; (· exact rfl); (· kernel_rfl); (· intro w2; go_simp; try with_reducible rfl))
  (try simp only [Act.put, List.setIfInBounds_toArray, List.set_cons_zero, List.set_cons_succ])
  ((with_reducible refine Ord.e_p (v := ?_) ?_ ?_ ?_ ?_); rotate_left; (· exact rfl); (· kernel_rfl); (· intro w2; go_simp; try with_reducible rfl))
  (try simp only [Act.put, List.setIfInBounds_toArray, List.set_cons_zero, List.set_cons_succ])
  ((with_reducible refine Ord.e_p (v := ?_) ?_ ?_ ?_ ?_); rotate_left; (· exact rfl); (· kernel_rfl); (· intro w2; go_simp; try with_reducible rfl))
  (try simp only [Act.put, List.setIfInBounds_toArray, List.set_cons_zero, List.set_cons_succ])
  refine Ord.e_x rfl (by kernel_rfl) ?_
  go_wp2_with fail
  go_fit (bmask_any w1)
  rintro e w2 ⟨rfl, rfl⟩
  go_wp2_with fail
  refine Ord.Seg.go trivial (fun h => by cases h) ?_
  (try simp only [Act.put, List.setIfInBounds_toArray, List.set_cons_zero, List.set_cons_succ])
  ((with_reducible refine Ord.e_p (v := ?_) ?_ ?_ ?_ ?_); rotate_left; (· exact rfl); (· kernel_rfl); (· intro w2; go_simp; try with_reducible rfl))
  (try simp only [Act.put, List.setIfInBounds_toArray, List.set_cons_zero, List.set_cons_succ])
  ((with_reducible refine Ord.e_p (v := ?_) ?_ ?_ ?_ ?_); rotate_left; (· exact rfl); (· kernel_rfl); (· intro w2; go_simp; try with_reducible rfl))
  (try simp only [Act.put, List.setIfInBounds_toArray, List.set_cons_zero, List.set_cons_succ])
  refine Ord.e_nil ?_
  go_wp2
  go_ret
  exact ⟨by rw [← Ha.out, show ((x / 268435456 : Nat) : Int) = (x : Int) / 268435456 by omega]; rfl, hb⟩

/-- A value's bits. -/
def btT : List Nat := [0, 1, 8, 16, 32, 63]
def btN (k : Int) : Nat := btT.getD (kdN k) 0
theorem kd_none {k : Int} (h : k < 0 ∨ 2147483647 < k) : kdN k = 0 := by unfold kdN; rw [if_pos h]
theorem kd_some {k : Int} (d : Nat) (h : 0 ≤ k ∧ k ≤ 2147483647) (hd : k.toNat / 268435456 % 8 = d) : kdN k = if 5 < d then 0 else d := by
  unfold kdN
  rw [if_neg (by omega)]
  subst hd
  split <;> split <;> omega
set_option maxRecDepth 10000 in
set_option maxHeartbeats 4000000 in
theorem kind_any (k : Int) (w : World) : Calls Tryz.prog 177 #[.int .i64 k] w fun e w' => e = .returned (.tuple #[.int .i64 (btN k : Int), .int .i64 (szN k : Int)]) ∧ Below w.heap.size w w' := by
  have hb0 : Below w.heap.size w w := Below.refl _ _
  by_cases h1 : k < 0
  · have e1 : btN k = 0 := by unfold btN; rw [kd_none (.inl h1)]; rfl
    have e2 : szN k = 0 := by unfold szN; rw [kd_none (.inl h1)]; rfl
    rw [e1, e2]
    clear e1 e2
    go_enter Tryz.func177, Tryz.ntmps177
    go_wp2
    go_ret2
    exact ⟨rfl, hb0⟩
  by_cases h2 : 2147483647 < k
  · have e1 : btN k = 0 := by unfold btN; rw [kd_none (.inr h2)]; rfl
    have e2 : szN k = 0 := by unfold szN; rw [kd_none (.inr h2)]; rfl
    rw [e1, e2]
    clear e1 e2
    go_enter Tryz.func177, Tryz.ntmps177
    go_wp2
    go_ret2
    exact ⟨rfl, hb0⟩
  obtain ⟨x, rfl⟩ : ∃ x : Nat, k = x := ⟨k.toNat, by omega⟩
  have hg := bget_any x (by omega)
  obtain ⟨d, hd⟩ : ∃ d, d = x / 268435456 % 8 := ⟨_, rfl⟩
  have hk := kd_some (k := (x : Int)) d (by omega) (by rw [Int.toNat_natCast, hd])
  have hd8 : d < 8 := by omega
  rw [← hd] at hg
  clear hd
  have hw : IntKind.u32.wrap (x : Int) = x := by simp [IntKind.wrap, IntKind.bits, IntKind.signed]; omega
  have hbox := heap_alloc_new w (.cells #[.int .i64 0, .int .i64 0, .int .i64 1, .int .i64 1, .int .i64 8, .int .i64 1, .int .i64 16, .int .i64 2, .int .i64 32, .int .i64 4, .int .i64 63, .int .i64 8, .int .i64 0, .int .i64 0, .int .i64 0, .int .i64 0] 208)
  have hb1 : Below w.heap.size w (w.alloc (.cells #[.int .i64 0, .int .i64 0, .int .i64 1, .int .i64 1, .int .i64 8, .int .i64 1, .int .i64 16, .int .i64 2, .int .i64 32, .int .i64 4, .int .i64 63, .int .i64 8, .int .i64 0, .int .i64 0, .int .i64 0, .int .i64 0] 208)) := hb0.alloc (Nat.le_refl _) _
  have Hk := Lib.hid hk
  clear hk
  go_enter Tryz.func177, Tryz.ntmps177
  go_wp2_with fail
  go_fit (hg _)
  rintro e w2 ⟨rfl, hb12⟩
  have hb2 := bnx hb1 hb12
  replace hbox := blk_old hbox hb12 (blk_lt hbox)
  clear hb1 hb12 hg hw
  rcases (by omega : d = 0 ∨ d = 1 ∨ d = 2 ∨ d = 3 ∨ d = 4 ∨ d = 5 ∨ d = 6 ∨ d = 7) with rfl | rfl | rfl | rfl | rfl | rfl | rfl | rfl
  · have c0 : w2.cell? ⟨w.heap.size, 0, none⟩ = some (.int .i64 0) := blk_cell hbox rfl
    have c1 : w2.cell? ⟨w.heap.size, 1, none⟩ = some (.int .i64 0) := blk_cell hbox rfl
    have e1 : btN (x : Int) = 0 := by unfold btN; rw [Hk.out]; rfl
    have e2 : szN (x : Int) = 0 := by unfold szN; rw [Hk.out]; rfl
    have E1 := Lib.hid e1
    have E2 := Lib.hid e2
    have hk2 := heap_alloc_new w2 (.cells #[.int .i64 0, .int .i64 0] 86)
    have hb3 := hb2.alloc hb2.size (.cells #[.int .i64 0, .int .i64 0] 86)
    clear e1 e2 hbox Hk
    go_wp2_with fail
    generalize (w2.alloc (.cells #[.int .i64 0, .int .i64 0] 86)) = w3 at *
    generalize w2.heap.size = gk at *
    clear c0 c1
    have d0 : w3.drew.cell? ⟨gk, 0, none⟩ = some (.int .i64 0) := blk_cell (w := w3.drew) hk2 rfl
    have d1 : w3.drew.cell? ⟨gk, 1, none⟩ = some (.int .i64 0) := blk_cell (w := w3.drew) hk2 rfl
    have hb4 := hb3.drew
    refine Ord.region_ (fun w' => w'.cell? ⟨gk, 0, none⟩ = some (.int .i64 0) ∧ w'.cell? ⟨gk, 1, none⟩ = some (.int .i64 0)) false [] (by kernel_rfl) (by kernel_rfl) ⟨d0, d1⟩ ?_
    ((with_reducible refine Ord.e_p (v := ?_) ?_ ?_ ?_ ?_); rotate_left; (· exact rfl); (· kernel_rfl); (· intro w2; go_simp; try with_reducible rfl))
    (try simp only [Act.put, List.setIfInBounds_toArray, List.set_cons_zero, List.set_cons_succ])
    refine Ord.e_loadS Tryz.underlying3 rfl (fun w' hS => (show w'.cell? ⟨gk, 0, none⟩ = some (.int .i64 0) ∧ _ from hS).1) ⟨d0, d1⟩ rfl (by kernel_rfl) ?_
    (try simp only [Act.put, List.setIfInBounds_toArray, List.set_cons_zero, List.set_cons_succ])
    ((with_reducible refine Ord.e_p (v := ?_) ?_ ?_ ?_ ?_); rotate_left; (· exact rfl); (· kernel_rfl); (· intro w2; go_simp; try with_reducible rfl))
    (try simp only [Act.put, List.setIfInBounds_toArray, List.set_cons_zero, List.set_cons_succ])
    refine Ord.e_loadS Tryz.underlying3 rfl (fun w' hS => (show _ ∧ w'.cell? ⟨gk, 1, none⟩ = some (.int .i64 0) from hS).2) ⟨d0, d1⟩ rfl (by kernel_rfl) ?_
    (try simp only [Act.put, List.setIfInBounds_toArray, List.set_cons_zero, List.set_cons_succ])
    ((with_reducible refine Ord.e_p (v := ?_) ?_ ?_ ?_ ?_); rotate_left; (· exact rfl); (· kernel_rfl); (· intro w2; go_simp; try with_reducible rfl))
    (try simp only [Act.put, List.setIfInBounds_toArray, List.set_cons_zero, List.set_cons_succ])
    ((with_reducible refine Ord.e_p (v := ?_) ?_ ?_ ?_ ?_); rotate_left; (· exact rfl); (· kernel_rfl); (· intro w2; go_simp; try with_reducible rfl))
    (try simp only [Act.put, List.setIfInBounds_toArray, List.set_cons_zero, List.set_cons_succ])
    refine Ord.e_nil ?_
    go_wp2
    go_ret2
    exact ⟨by rw [E1.out, E2.out]; rfl, hb4⟩
  · have c0 : w2.cell? ⟨w.heap.size, 2, none⟩ = some (.int .i64 1) := blk_cell hbox rfl
    have c1 : w2.cell? ⟨w.heap.size, 3, none⟩ = some (.int .i64 1) := blk_cell hbox rfl
    have e1 : btN (x : Int) = 1 := by unfold btN; rw [Hk.out]; rfl
    have e2 : szN (x : Int) = 1 := by unfold szN; rw [Hk.out]; rfl
    have E1 := Lib.hid e1
    have E2 := Lib.hid e2
    have hk2 := heap_alloc_new w2 (.cells #[.int .i64 1, .int .i64 1] 86)
    have hb3 := hb2.alloc hb2.size (.cells #[.int .i64 1, .int .i64 1] 86)
    clear e1 e2 hbox Hk
    go_wp2_with fail
    generalize (w2.alloc (.cells #[.int .i64 1, .int .i64 1] 86)) = w3 at *
    generalize w2.heap.size = gk at *
    clear c0 c1
    have d0 : w3.drew.cell? ⟨gk, 0, none⟩ = some (.int .i64 1) := blk_cell (w := w3.drew) hk2 rfl
    have d1 : w3.drew.cell? ⟨gk, 1, none⟩ = some (.int .i64 1) := blk_cell (w := w3.drew) hk2 rfl
    have hb4 := hb3.drew
    refine Ord.region_ (fun w' => w'.cell? ⟨gk, 0, none⟩ = some (.int .i64 1) ∧ w'.cell? ⟨gk, 1, none⟩ = some (.int .i64 1)) false [] (by kernel_rfl) (by kernel_rfl) ⟨d0, d1⟩ ?_
    ((with_reducible refine Ord.e_p (v := ?_) ?_ ?_ ?_ ?_); rotate_left; (· exact rfl); (· kernel_rfl); (· intro w2; go_simp; try with_reducible rfl))
    (try simp only [Act.put, List.setIfInBounds_toArray, List.set_cons_zero, List.set_cons_succ])
    refine Ord.e_loadS Tryz.underlying3 rfl (fun w' hS => (show w'.cell? ⟨gk, 0, none⟩ = some (.int .i64 1) ∧ _ from hS).1) ⟨d0, d1⟩ rfl (by kernel_rfl) ?_
    (try simp only [Act.put, List.setIfInBounds_toArray, List.set_cons_zero, List.set_cons_succ])
    ((with_reducible refine Ord.e_p (v := ?_) ?_ ?_ ?_ ?_); rotate_left; (· exact rfl); (· kernel_rfl); (· intro w2; go_simp; try with_reducible rfl))
    (try simp only [Act.put, List.setIfInBounds_toArray, List.set_cons_zero, List.set_cons_succ])
    refine Ord.e_loadS Tryz.underlying3 rfl (fun w' hS => (show _ ∧ w'.cell? ⟨gk, 1, none⟩ = some (.int .i64 1) from hS).2) ⟨d0, d1⟩ rfl (by kernel_rfl) ?_
    (try simp only [Act.put, List.setIfInBounds_toArray, List.set_cons_zero, List.set_cons_succ])
    ((with_reducible refine Ord.e_p (v := ?_) ?_ ?_ ?_ ?_); rotate_left; (· exact rfl); (· kernel_rfl); (· intro w2; go_simp; try with_reducible rfl))
    (try simp only [Act.put, List.setIfInBounds_toArray, List.set_cons_zero, List.set_cons_succ])
    ((with_reducible refine Ord.e_p (v := ?_) ?_ ?_ ?_ ?_); rotate_left; (· exact rfl); (· kernel_rfl); (· intro w2; go_simp; try with_reducible rfl))
    (try simp only [Act.put, List.setIfInBounds_toArray, List.set_cons_zero, List.set_cons_succ])
    refine Ord.e_nil ?_
    go_wp2
    go_ret2
    exact ⟨by rw [E1.out, E2.out]; rfl, hb4⟩
  · have c0 : w2.cell? ⟨w.heap.size, 4, none⟩ = some (.int .i64 8) := blk_cell hbox rfl
    have c1 : w2.cell? ⟨w.heap.size, 5, none⟩ = some (.int .i64 1) := blk_cell hbox rfl
    have e1 : btN (x : Int) = 8 := by unfold btN; rw [Hk.out]; rfl
    have e2 : szN (x : Int) = 1 := by unfold szN; rw [Hk.out]; rfl
    have E1 := Lib.hid e1
    have E2 := Lib.hid e2
    have hk2 := heap_alloc_new w2 (.cells #[.int .i64 8, .int .i64 1] 86)
    have hb3 := hb2.alloc hb2.size (.cells #[.int .i64 8, .int .i64 1] 86)
    clear e1 e2 hbox Hk
    go_wp2_with fail
    generalize (w2.alloc (.cells #[.int .i64 8, .int .i64 1] 86)) = w3 at *
    generalize w2.heap.size = gk at *
    clear c0 c1
    have d0 : w3.drew.cell? ⟨gk, 0, none⟩ = some (.int .i64 8) := blk_cell (w := w3.drew) hk2 rfl
    have d1 : w3.drew.cell? ⟨gk, 1, none⟩ = some (.int .i64 1) := blk_cell (w := w3.drew) hk2 rfl
    have hb4 := hb3.drew
    refine Ord.region_ (fun w' => w'.cell? ⟨gk, 0, none⟩ = some (.int .i64 8) ∧ w'.cell? ⟨gk, 1, none⟩ = some (.int .i64 1)) false [] (by kernel_rfl) (by kernel_rfl) ⟨d0, d1⟩ ?_
    ((with_reducible refine Ord.e_p (v := ?_) ?_ ?_ ?_ ?_); rotate_left; (· exact rfl); (· kernel_rfl); (· intro w2; go_simp; try with_reducible rfl))
    (try simp only [Act.put, List.setIfInBounds_toArray, List.set_cons_zero, List.set_cons_succ])
    refine Ord.e_loadS Tryz.underlying3 rfl (fun w' hS => (show w'.cell? ⟨gk, 0, none⟩ = some (.int .i64 8) ∧ _ from hS).1) ⟨d0, d1⟩ rfl (by kernel_rfl) ?_
    (try simp only [Act.put, List.setIfInBounds_toArray, List.set_cons_zero, List.set_cons_succ])
    ((with_reducible refine Ord.e_p (v := ?_) ?_ ?_ ?_ ?_); rotate_left; (· exact rfl); (· kernel_rfl); (· intro w2; go_simp; try with_reducible rfl))
    (try simp only [Act.put, List.setIfInBounds_toArray, List.set_cons_zero, List.set_cons_succ])
    refine Ord.e_loadS Tryz.underlying3 rfl (fun w' hS => (show _ ∧ w'.cell? ⟨gk, 1, none⟩ = some (.int .i64 1) from hS).2) ⟨d0, d1⟩ rfl (by kernel_rfl) ?_
    (try simp only [Act.put, List.setIfInBounds_toArray, List.set_cons_zero, List.set_cons_succ])
    ((with_reducible refine Ord.e_p (v := ?_) ?_ ?_ ?_ ?_); rotate_left; (· exact rfl); (· kernel_rfl); (· intro w2; go_simp; try with_reducible rfl))
    (try simp only [Act.put, List.setIfInBounds_toArray, List.set_cons_zero, List.set_cons_succ])
    ((with_reducible refine Ord.e_p (v := ?_) ?_ ?_ ?_ ?_); rotate_left; (· exact rfl); (· kernel_rfl); (· intro w2; go_simp; try with_reducible rfl))
    (try simp only [Act.put, List.setIfInBounds_toArray, List.set_cons_zero, List.set_cons_succ])
    refine Ord.e_nil ?_
    go_wp2
    go_ret2
    exact ⟨by rw [E1.out, E2.out]; rfl, hb4⟩
  · have c0 : w2.cell? ⟨w.heap.size, 6, none⟩ = some (.int .i64 16) := blk_cell hbox rfl
    have c1 : w2.cell? ⟨w.heap.size, 7, none⟩ = some (.int .i64 2) := blk_cell hbox rfl
    have e1 : btN (x : Int) = 16 := by unfold btN; rw [Hk.out]; rfl
    have e2 : szN (x : Int) = 2 := by unfold szN; rw [Hk.out]; rfl
    have E1 := Lib.hid e1
    have E2 := Lib.hid e2
    have hk2 := heap_alloc_new w2 (.cells #[.int .i64 16, .int .i64 2] 86)
    have hb3 := hb2.alloc hb2.size (.cells #[.int .i64 16, .int .i64 2] 86)
    clear e1 e2 hbox Hk
    go_wp2_with fail
    generalize (w2.alloc (.cells #[.int .i64 16, .int .i64 2] 86)) = w3 at *
    generalize w2.heap.size = gk at *
    clear c0 c1
    have d0 : w3.drew.cell? ⟨gk, 0, none⟩ = some (.int .i64 16) := blk_cell (w := w3.drew) hk2 rfl
    have d1 : w3.drew.cell? ⟨gk, 1, none⟩ = some (.int .i64 2) := blk_cell (w := w3.drew) hk2 rfl
    have hb4 := hb3.drew
    refine Ord.region_ (fun w' => w'.cell? ⟨gk, 0, none⟩ = some (.int .i64 16) ∧ w'.cell? ⟨gk, 1, none⟩ = some (.int .i64 2)) false [] (by kernel_rfl) (by kernel_rfl) ⟨d0, d1⟩ ?_
    ((with_reducible refine Ord.e_p (v := ?_) ?_ ?_ ?_ ?_); rotate_left; (· exact rfl); (· kernel_rfl); (· intro w2; go_simp; try with_reducible rfl))
    (try simp only [Act.put, List.setIfInBounds_toArray, List.set_cons_zero, List.set_cons_succ])
    refine Ord.e_loadS Tryz.underlying3 rfl (fun w' hS => (show w'.cell? ⟨gk, 0, none⟩ = some (.int .i64 16) ∧ _ from hS).1) ⟨d0, d1⟩ rfl (by kernel_rfl) ?_
    (try simp only [Act.put, List.setIfInBounds_toArray, List.set_cons_zero, List.set_cons_succ])
    ((with_reducible refine Ord.e_p (v := ?_) ?_ ?_ ?_ ?_); rotate_left; (· exact rfl); (· kernel_rfl); (· intro w2; go_simp; try with_reducible rfl))
    (try simp only [Act.put, List.setIfInBounds_toArray, List.set_cons_zero, List.set_cons_succ])
    refine Ord.e_loadS Tryz.underlying3 rfl (fun w' hS => (show _ ∧ w'.cell? ⟨gk, 1, none⟩ = some (.int .i64 2) from hS).2) ⟨d0, d1⟩ rfl (by kernel_rfl) ?_
    (try simp only [Act.put, List.setIfInBounds_toArray, List.set_cons_zero, List.set_cons_succ])
    ((with_reducible refine Ord.e_p (v := ?_) ?_ ?_ ?_ ?_); rotate_left; (· exact rfl); (· kernel_rfl); (· intro w2; go_simp; try with_reducible rfl))
    (try simp only [Act.put, List.setIfInBounds_toArray, List.set_cons_zero, List.set_cons_succ])
    ((with_reducible refine Ord.e_p (v := ?_) ?_ ?_ ?_ ?_); rotate_left; (· exact rfl); (· kernel_rfl); (· intro w2; go_simp; try with_reducible rfl))
    (try simp only [Act.put, List.setIfInBounds_toArray, List.set_cons_zero, List.set_cons_succ])
    refine Ord.e_nil ?_
    go_wp2
    go_ret2
    exact ⟨by rw [E1.out, E2.out]; rfl, hb4⟩
  · have c0 : w2.cell? ⟨w.heap.size, 8, none⟩ = some (.int .i64 32) := blk_cell hbox rfl
    have c1 : w2.cell? ⟨w.heap.size, 9, none⟩ = some (.int .i64 4) := blk_cell hbox rfl
    have e1 : btN (x : Int) = 32 := by unfold btN; rw [Hk.out]; rfl
    have e2 : szN (x : Int) = 4 := by unfold szN; rw [Hk.out]; rfl
    have E1 := Lib.hid e1
    have E2 := Lib.hid e2
    have hk2 := heap_alloc_new w2 (.cells #[.int .i64 32, .int .i64 4] 86)
    have hb3 := hb2.alloc hb2.size (.cells #[.int .i64 32, .int .i64 4] 86)
    clear e1 e2 hbox Hk
    go_wp2_with fail
    generalize (w2.alloc (.cells #[.int .i64 32, .int .i64 4] 86)) = w3 at *
    generalize w2.heap.size = gk at *
    clear c0 c1
    have d0 : w3.drew.cell? ⟨gk, 0, none⟩ = some (.int .i64 32) := blk_cell (w := w3.drew) hk2 rfl
    have d1 : w3.drew.cell? ⟨gk, 1, none⟩ = some (.int .i64 4) := blk_cell (w := w3.drew) hk2 rfl
    have hb4 := hb3.drew
    refine Ord.region_ (fun w' => w'.cell? ⟨gk, 0, none⟩ = some (.int .i64 32) ∧ w'.cell? ⟨gk, 1, none⟩ = some (.int .i64 4)) false [] (by kernel_rfl) (by kernel_rfl) ⟨d0, d1⟩ ?_
    ((with_reducible refine Ord.e_p (v := ?_) ?_ ?_ ?_ ?_); rotate_left; (· exact rfl); (· kernel_rfl); (· intro w2; go_simp; try with_reducible rfl))
    (try simp only [Act.put, List.setIfInBounds_toArray, List.set_cons_zero, List.set_cons_succ])
    refine Ord.e_loadS Tryz.underlying3 rfl (fun w' hS => (show w'.cell? ⟨gk, 0, none⟩ = some (.int .i64 32) ∧ _ from hS).1) ⟨d0, d1⟩ rfl (by kernel_rfl) ?_
    (try simp only [Act.put, List.setIfInBounds_toArray, List.set_cons_zero, List.set_cons_succ])
    ((with_reducible refine Ord.e_p (v := ?_) ?_ ?_ ?_ ?_); rotate_left; (· exact rfl); (· kernel_rfl); (· intro w2; go_simp; try with_reducible rfl))
    (try simp only [Act.put, List.setIfInBounds_toArray, List.set_cons_zero, List.set_cons_succ])
    refine Ord.e_loadS Tryz.underlying3 rfl (fun w' hS => (show _ ∧ w'.cell? ⟨gk, 1, none⟩ = some (.int .i64 4) from hS).2) ⟨d0, d1⟩ rfl (by kernel_rfl) ?_
    (try simp only [Act.put, List.setIfInBounds_toArray, List.set_cons_zero, List.set_cons_succ])
    ((with_reducible refine Ord.e_p (v := ?_) ?_ ?_ ?_ ?_); rotate_left; (· exact rfl); (· kernel_rfl); (· intro w2; go_simp; try with_reducible rfl))
    (try simp only [Act.put, List.setIfInBounds_toArray, List.set_cons_zero, List.set_cons_succ])
    ((with_reducible refine Ord.e_p (v := ?_) ?_ ?_ ?_ ?_); rotate_left; (· exact rfl); (· kernel_rfl); (· intro w2; go_simp; try with_reducible rfl))
    (try simp only [Act.put, List.setIfInBounds_toArray, List.set_cons_zero, List.set_cons_succ])
    refine Ord.e_nil ?_
    go_wp2
    go_ret2
    exact ⟨by rw [E1.out, E2.out]; rfl, hb4⟩
  · have c0 : w2.cell? ⟨w.heap.size, 10, none⟩ = some (.int .i64 63) := blk_cell hbox rfl
    have c1 : w2.cell? ⟨w.heap.size, 11, none⟩ = some (.int .i64 8) := blk_cell hbox rfl
    have e1 : btN (x : Int) = 63 := by unfold btN; rw [Hk.out]; rfl
    have e2 : szN (x : Int) = 8 := by unfold szN; rw [Hk.out]; rfl
    have E1 := Lib.hid e1
    have E2 := Lib.hid e2
    have hk2 := heap_alloc_new w2 (.cells #[.int .i64 63, .int .i64 8] 86)
    have hb3 := hb2.alloc hb2.size (.cells #[.int .i64 63, .int .i64 8] 86)
    clear e1 e2 hbox Hk
    go_wp2_with fail
    generalize (w2.alloc (.cells #[.int .i64 63, .int .i64 8] 86)) = w3 at *
    generalize w2.heap.size = gk at *
    clear c0 c1
    have d0 : w3.drew.cell? ⟨gk, 0, none⟩ = some (.int .i64 63) := blk_cell (w := w3.drew) hk2 rfl
    have d1 : w3.drew.cell? ⟨gk, 1, none⟩ = some (.int .i64 8) := blk_cell (w := w3.drew) hk2 rfl
    have hb4 := hb3.drew
    refine Ord.region_ (fun w' => w'.cell? ⟨gk, 0, none⟩ = some (.int .i64 63) ∧ w'.cell? ⟨gk, 1, none⟩ = some (.int .i64 8)) false [] (by kernel_rfl) (by kernel_rfl) ⟨d0, d1⟩ ?_
    ((with_reducible refine Ord.e_p (v := ?_) ?_ ?_ ?_ ?_); rotate_left; (· exact rfl); (· kernel_rfl); (· intro w2; go_simp; try with_reducible rfl))
    (try simp only [Act.put, List.setIfInBounds_toArray, List.set_cons_zero, List.set_cons_succ])
    refine Ord.e_loadS Tryz.underlying3 rfl (fun w' hS => (show w'.cell? ⟨gk, 0, none⟩ = some (.int .i64 63) ∧ _ from hS).1) ⟨d0, d1⟩ rfl (by kernel_rfl) ?_
    (try simp only [Act.put, List.setIfInBounds_toArray, List.set_cons_zero, List.set_cons_succ])
    ((with_reducible refine Ord.e_p (v := ?_) ?_ ?_ ?_ ?_); rotate_left; (· exact rfl); (· kernel_rfl); (· intro w2; go_simp; try with_reducible rfl))
    (try simp only [Act.put, List.setIfInBounds_toArray, List.set_cons_zero, List.set_cons_succ])
    refine Ord.e_loadS Tryz.underlying3 rfl (fun w' hS => (show _ ∧ w'.cell? ⟨gk, 1, none⟩ = some (.int .i64 8) from hS).2) ⟨d0, d1⟩ rfl (by kernel_rfl) ?_
    (try simp only [Act.put, List.setIfInBounds_toArray, List.set_cons_zero, List.set_cons_succ])
    ((with_reducible refine Ord.e_p (v := ?_) ?_ ?_ ?_ ?_); rotate_left; (· exact rfl); (· kernel_rfl); (· intro w2; go_simp; try with_reducible rfl))
    (try simp only [Act.put, List.setIfInBounds_toArray, List.set_cons_zero, List.set_cons_succ])
    ((with_reducible refine Ord.e_p (v := ?_) ?_ ?_ ?_ ?_); rotate_left; (· exact rfl); (· kernel_rfl); (· intro w2; go_simp; try with_reducible rfl))
    (try simp only [Act.put, List.setIfInBounds_toArray, List.set_cons_zero, List.set_cons_succ])
    refine Ord.e_nil ?_
    go_wp2
    go_ret2
    exact ⟨by rw [E1.out, E2.out]; rfl, hb4⟩
  · have c0 : w2.cell? ⟨w.heap.size, 12, none⟩ = some (.int .i64 0) := blk_cell hbox rfl
    have c1 : w2.cell? ⟨w.heap.size, 13, none⟩ = some (.int .i64 0) := blk_cell hbox rfl
    have e1 : btN (x : Int) = 0 := by unfold btN; rw [Hk.out]; rfl
    have e2 : szN (x : Int) = 0 := by unfold szN; rw [Hk.out]; rfl
    have E1 := Lib.hid e1
    have E2 := Lib.hid e2
    have hk2 := heap_alloc_new w2 (.cells #[.int .i64 0, .int .i64 0] 86)
    have hb3 := hb2.alloc hb2.size (.cells #[.int .i64 0, .int .i64 0] 86)
    clear e1 e2 hbox Hk
    go_wp2_with fail
    generalize (w2.alloc (.cells #[.int .i64 0, .int .i64 0] 86)) = w3 at *
    generalize w2.heap.size = gk at *
    clear c0 c1
    have d0 : w3.drew.cell? ⟨gk, 0, none⟩ = some (.int .i64 0) := blk_cell (w := w3.drew) hk2 rfl
    have d1 : w3.drew.cell? ⟨gk, 1, none⟩ = some (.int .i64 0) := blk_cell (w := w3.drew) hk2 rfl
    have hb4 := hb3.drew
    refine Ord.region_ (fun w' => w'.cell? ⟨gk, 0, none⟩ = some (.int .i64 0) ∧ w'.cell? ⟨gk, 1, none⟩ = some (.int .i64 0)) false [] (by kernel_rfl) (by kernel_rfl) ⟨d0, d1⟩ ?_
    ((with_reducible refine Ord.e_p (v := ?_) ?_ ?_ ?_ ?_); rotate_left; (· exact rfl); (· kernel_rfl); (· intro w2; go_simp; try with_reducible rfl))
    (try simp only [Act.put, List.setIfInBounds_toArray, List.set_cons_zero, List.set_cons_succ])
    refine Ord.e_loadS Tryz.underlying3 rfl (fun w' hS => (show w'.cell? ⟨gk, 0, none⟩ = some (.int .i64 0) ∧ _ from hS).1) ⟨d0, d1⟩ rfl (by kernel_rfl) ?_
    (try simp only [Act.put, List.setIfInBounds_toArray, List.set_cons_zero, List.set_cons_succ])
    ((with_reducible refine Ord.e_p (v := ?_) ?_ ?_ ?_ ?_); rotate_left; (· exact rfl); (· kernel_rfl); (· intro w2; go_simp; try with_reducible rfl))
    (try simp only [Act.put, List.setIfInBounds_toArray, List.set_cons_zero, List.set_cons_succ])
    refine Ord.e_loadS Tryz.underlying3 rfl (fun w' hS => (show _ ∧ w'.cell? ⟨gk, 1, none⟩ = some (.int .i64 0) from hS).2) ⟨d0, d1⟩ rfl (by kernel_rfl) ?_
    (try simp only [Act.put, List.setIfInBounds_toArray, List.set_cons_zero, List.set_cons_succ])
    ((with_reducible refine Ord.e_p (v := ?_) ?_ ?_ ?_ ?_); rotate_left; (· exact rfl); (· kernel_rfl); (· intro w2; go_simp; try with_reducible rfl))
    (try simp only [Act.put, List.setIfInBounds_toArray, List.set_cons_zero, List.set_cons_succ])
    ((with_reducible refine Ord.e_p (v := ?_) ?_ ?_ ?_ ?_); rotate_left; (· exact rfl); (· kernel_rfl); (· intro w2; go_simp; try with_reducible rfl))
    (try simp only [Act.put, List.setIfInBounds_toArray, List.set_cons_zero, List.set_cons_succ])
    refine Ord.e_nil ?_
    go_wp2
    go_ret2
    exact ⟨by rw [E1.out, E2.out]; rfl, hb4⟩
  · have c0 : w2.cell? ⟨w.heap.size, 14, none⟩ = some (.int .i64 0) := blk_cell hbox rfl
    have c1 : w2.cell? ⟨w.heap.size, 15, none⟩ = some (.int .i64 0) := blk_cell hbox rfl
    have e1 : btN (x : Int) = 0 := by unfold btN; rw [Hk.out]; rfl
    have e2 : szN (x : Int) = 0 := by unfold szN; rw [Hk.out]; rfl
    have E1 := Lib.hid e1
    have E2 := Lib.hid e2
    have hk2 := heap_alloc_new w2 (.cells #[.int .i64 0, .int .i64 0] 86)
    have hb3 := hb2.alloc hb2.size (.cells #[.int .i64 0, .int .i64 0] 86)
    clear e1 e2 hbox Hk
    go_wp2_with fail
    generalize (w2.alloc (.cells #[.int .i64 0, .int .i64 0] 86)) = w3 at *
    generalize w2.heap.size = gk at *
    clear c0 c1
    have d0 : w3.drew.cell? ⟨gk, 0, none⟩ = some (.int .i64 0) := blk_cell (w := w3.drew) hk2 rfl
    have d1 : w3.drew.cell? ⟨gk, 1, none⟩ = some (.int .i64 0) := blk_cell (w := w3.drew) hk2 rfl
    have hb4 := hb3.drew
    refine Ord.region_ (fun w' => w'.cell? ⟨gk, 0, none⟩ = some (.int .i64 0) ∧ w'.cell? ⟨gk, 1, none⟩ = some (.int .i64 0)) false [] (by kernel_rfl) (by kernel_rfl) ⟨d0, d1⟩ ?_
    ((with_reducible refine Ord.e_p (v := ?_) ?_ ?_ ?_ ?_); rotate_left; (· exact rfl); (· kernel_rfl); (· intro w2; go_simp; try with_reducible rfl))
    (try simp only [Act.put, List.setIfInBounds_toArray, List.set_cons_zero, List.set_cons_succ])
    refine Ord.e_loadS Tryz.underlying3 rfl (fun w' hS => (show w'.cell? ⟨gk, 0, none⟩ = some (.int .i64 0) ∧ _ from hS).1) ⟨d0, d1⟩ rfl (by kernel_rfl) ?_
    (try simp only [Act.put, List.setIfInBounds_toArray, List.set_cons_zero, List.set_cons_succ])
    ((with_reducible refine Ord.e_p (v := ?_) ?_ ?_ ?_ ?_); rotate_left; (· exact rfl); (· kernel_rfl); (· intro w2; go_simp; try with_reducible rfl))
    (try simp only [Act.put, List.setIfInBounds_toArray, List.set_cons_zero, List.set_cons_succ])
    refine Ord.e_loadS Tryz.underlying3 rfl (fun w' hS => (show _ ∧ w'.cell? ⟨gk, 1, none⟩ = some (.int .i64 0) from hS).2) ⟨d0, d1⟩ rfl (by kernel_rfl) ?_
    (try simp only [Act.put, List.setIfInBounds_toArray, List.set_cons_zero, List.set_cons_succ])
    ((with_reducible refine Ord.e_p (v := ?_) ?_ ?_ ?_ ?_); rotate_left; (· exact rfl); (· kernel_rfl); (· intro w2; go_simp; try with_reducible rfl))
    (try simp only [Act.put, List.setIfInBounds_toArray, List.set_cons_zero, List.set_cons_succ])
    ((with_reducible refine Ord.e_p (v := ?_) ?_ ?_ ?_ ?_); rotate_left; (· exact rfl); (· kernel_rfl); (· intro w2; go_simp; try with_reducible rfl))
    (try simp only [Act.put, List.setIfInBounds_toArray, List.set_cons_zero, List.set_cons_succ])
    refine Ord.e_nil ?_
    go_wp2
    go_ret2
    exact ⟨by rw [E1.out, E2.out]; rfl, hb4⟩

theorem bt_ms (k : Int) : btN k = 0 ∧ msN k = 0 ∨ btN k = 1 ∧ msN k = 1 ∨ btN k = 8 ∧ msN k = 255 ∨ btN k = 16 ∧ msN k = 65535 ∨ btN k = 32 ∧ msN k = 4294967295 ∨ btN k = 63 ∧ msN k = 9223372036854775807 := by
  unfold btN msN
  rcases kd_cases k with h | h | h | h | h | h <;> rw [h] <;> simp [btT, msT]
set_option maxRecDepth 10000 in
set_option maxHeartbeats 1000000 in
theorem vsize_any (k : Int) (w : World) : Calls Tryz.prog 173 #[.int .i64 k] w fun e w' => e = .returned (.tuple #[.int .i64 (szN k : Int), .bool (decide (szN k ≠ 0))]) ∧ Below w.heap.size w w' := by
  have hk := kind_any k w
  generalize btN k = a at *
  generalize szN k = b at *
  by_cases hz : b = 0
  · subst hz
    rw [show decide ((0 : Nat) ≠ 0) = false from rfl]
    go_enter Tryz.func173, Tryz.ntmps173
    go_wp2_with fail
    go_fit hk
    rintro e w1 ⟨rfl, hb⟩
    go_wp2
    go_ret2
    exact ⟨rfl, hb⟩
  · have h0 : decide (0 < b) = true := decide_eq_true (by omega)
    rw [show decide (b ≠ 0) = true from decide_eq_true hz]
    go_enter Tryz.func173, Tryz.ntmps173
    go_wp2_with fail
    go_fit hk
    rintro e w1 ⟨rfl, hb⟩
    have H0 := Lib.hid h0
    clear h0
    go_wp2
    rw [H0.out]
    go_ret2
    exact ⟨rfl, hb⟩
set_option maxRecDepth 10000 in
set_option maxHeartbeats 1000000 in
theorem vmost_any (k : Int) (w : World) : Calls Tryz.prog 174 #[.int .i64 k] w fun e w' => e = .returned (.int .i64 (msN k : Int)) ∧ Below w.heap.size w w' := by
  have hk := kind_any k w
  have hc := bt_ms k
  generalize szN k = b at *
  generalize btN k = a at *
  generalize msN k = m at *
  rcases hc with ⟨rfl, rfl⟩ | ⟨rfl, rfl⟩ | ⟨rfl, rfl⟩ | ⟨rfl, rfl⟩ | ⟨rfl, rfl⟩ | ⟨rfl, rfl⟩
  all_goals
    go_enter Tryz.func174, Tryz.ntmps174
    go_wp2_with fail
    go_fit hk
    rintro e w1 ⟨rfl, hb⟩
    go_wp2
    go_ret
    exact ⟨rfl, hb⟩

set_option maxRecDepth 10000 in
set_option maxHeartbeats 2000000 in
theorem vfirst_any (w : World) : Calls Tryz.prog 172 #[] w (RetF vhF w) := by
  have hb0 : Below w.heap.size w w := Below.refl _ _
  have a1 := fun w => shU_any 1 0 w
  rw [if_pos (by decide)] at a1
  unfold fv at a1
  have a2 := fun w => shU_any 1 7 w
  rw [if_pos (by decide)] at a2
  unfold fv at a2
  have a3 := fun w => shU_any 2 0 w
  rw [if_pos (by decide)] at a3
  unfold fv at a3
  go_enter Tryz.func172, Tryz.ntmps172
  go_wp2_with fail
  go_fit (a1 _)
  rintro e w1 ⟨rfl, hc1⟩
  have hb1 := bnx hb0 hc1
  clear hc1
  go_wp2_with fail
  go_fit (a2 _)
  rintro e w2 ⟨rfl, hc2⟩
  have hb2 := bnx hb1 hc2
  clear hc2
  go_wp2_with fail
  go_fit (a3 _)
  rintro e w3 ⟨rfl, hc3⟩
  have hb3 := bnx hb2 hc3
  clear hc3
  go_wp2
  go_ret
  exact retF_lit7 w3 w hb3 _ vhF _ rfl (by simp [vhF]) vhF_b 3 rfl
end Go.Proofs.YtmkidihcdljkiaaGreat
