/-
  Plain facts about bytes as numbers, the lowest first, with no program in sight.
-/
namespace Go.Proofs.YtonejdjhdjckjaaGreat.NumLaw

/-- Bytes as a number, the lowest first. -/
def num : List UInt8 → Nat
  | [] => 0
  | x :: l => x.toNat + 256 * num l
/-- n bytes of a number. -/
def bytesN : Nat → Nat → List UInt8
  | 0, _ => []
  | n + 1, u => UInt8.ofNat (u % 256) :: bytesN n (u / 256)
theorem bytesN_len (n : Nat) : ∀ u, (bytesN n u).length = n := by
  induction n with
  | zero => intro u; rfl
  | succ n ih => intro u; simp [bytesN, ih]
theorem num_lt (l : List UInt8) : num l < 256 ^ l.length := by
  induction l with
  | nil => simp [num]
  | cons x l ih =>
    have := x.toNat_lt
    simp only [num, List.length_cons, Nat.pow_succ]
    omega
theorem num_bytesN (n : Nat) : ∀ u, num (bytesN n u) = u % 256 ^ n := by
  induction n with
  | zero => intro u; simp [bytesN, num, Nat.mod_one]
  | succ n ih =>
    intro u
    simp only [bytesN, num, ih, Nat.pow_succ]
    rw [UInt8.toNat_ofNat', Nat.mul_comm (256 ^ n), Nat.mod_mul]
    omega
theorem bytesN_num : ∀ l : List UInt8, bytesN l.length (num l) = l
  | [] => rfl
  | x :: l => by
    have hx := x.toNat_lt
    simp only [num, List.length_cons, bytesN]
    have e1 : (x.toNat + 256 * num l) % 256 = x.toNat := by omega
    have e2 : (x.toNat + 256 * num l) / 256 = num l := by omega
    rw [e1, e2, bytesN_num l]
    congr 1
    apply UInt8.toNat_inj.1
    rw [UInt8.toNat_ofNat']
    omega
theorem num_append (a b : List UInt8) : num (a ++ b) = num a + 256 ^ a.length * num b := by
  induction a with
  | nil => simp [num]
  | cons x a ih =>
    simp only [List.cons_append, num, ih, List.length_cons, Nat.pow_succ]
    rw [Nat.mul_add, ← Nat.mul_assoc, Nat.mul_comm (256 ^ a.length) 256]
    omega
theorem num_snoc (a : List UInt8) (x : UInt8) : num (a ++ [x]) = num a + 256 ^ a.length * x.toNat := by
  rw [num_append]; simp [num]
theorem pow256 (k : Nat) : 256 ^ k = 2 ^ (8 * k) := by
  rw [Nat.pow_mul]
/-- One byte more, laid above by or. -/
theorem num_or (a : List UInt8) (x : UInt8) : num a ||| x.toNat * 2 ^ (8 * a.length) = num (a ++ [x]) := by
  have h := num_lt a
  rw [pow256] at h
  rw [num_snoc, pow256, Nat.add_comm, Nat.two_pow_add_eq_or_of_lt h, Nat.or_comm, Nat.mul_comm]
theorem bytesN_snoc (n : Nat) : ∀ u, bytesN (n + 1) u = bytesN n u ++ [UInt8.ofNat (u / 256 ^ n % 256)] := by
  induction n with
  | zero => intro u; simp [bytesN]
  | succ n ih =>
    intro u
    rw [bytesN, ih, bytesN, Nat.pow_succ, Nat.mul_comm (256 ^ n), ← Nat.div_div_eq_div_mul]
    rfl
theorem num_inj : ∀ {a b : List UInt8}, a.length = b.length → num a = num b → a = b
  | [], [], _, _ => rfl
  | [], _ :: _, h, _ => by simp at h
  | _ :: _, [], h, _ => by simp at h
  | x :: a, y :: b, h, hn => by
    have hx := x.toNat_lt
    have hy := y.toNat_lt
    simp only [num] at hn
    have h1 : x.toNat = y.toNat := by omega
    have h2 : num a = num b := by omega
    rw [num_inj (by simpa using h) h2, UInt8.toNat_inj.1 h1]

end Go.Proofs.YtonejdjhdjckjaaGreat.NumLaw
