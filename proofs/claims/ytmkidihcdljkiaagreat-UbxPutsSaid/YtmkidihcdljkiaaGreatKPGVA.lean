/-
  Several texts in one: ValLaw Val1.
-/
import Derived.Test.YtmkidihcdljkiaaGreatKPGE
import Derived.Test.YtmkidihcdljkiaaGreatKPGS
/-
  The plain law of layer 20: pairs of keys and values there and back.
-/
set_option linter.unusedSimpArgs false
set_option linter.unusedVariables false
namespace Go.Proofs.YtmkidihcdljkiaaGreat
open Go.RowKit NumLaw

def vhF : List FieldV := [⟨1, false, 0, 0⟩, ⟨1, false, 0, 7⟩, ⟨2, false, 0, 0⟩]
theorem vhF_b : FB vhF := by intro f hf; simp [vhF] at hf; rcases hf with rfl | rfl | rfl <;> simp
theorem vhF_right : rightL vhF = true := by decide
theorem vhF_sum : sumL vhF = 4 := by decide
/-- The number in a key's bits; 0: it is no key. -/
def kdN (k : Int) : Nat := if k < 0 ∨ 2147483647 < k then 0 else if 5 < k / 268435456 then 0 else (k / 268435456).toNat
def szT : List Nat := [0, 1, 1, 2, 4, 8]
def msT : List Nat := [0, 1, 255, 65535, 4294967295, 9223372036854775807]
def szN (k : Int) : Nat := szT.getD (kdN k) 0
def msN (k : Int) : Nat := msT.getD (kdN k) 0
theorem kdN_le (k : Int) : kdN k ≤ 5 := by unfold kdN; split <;> (try split) <;> omega
theorem kd_cases (k : Int) : kdN k = 0 ∨ kdN k = 1 ∨ kdN k = 2 ∨ kdN k = 3 ∨ kdN k = 4 ∨ kdN k = 5 := by have := kdN_le k; omega
theorem kd_in {k : Int} (h : kdN k ≠ 0) : 0 ≤ k ∧ k ≤ 2147483647 := by
  unfold kdN at h
  split at h
  · exact absurd rfl h
  · omega
theorem sz_in {k : Int} (h : szN k ≠ 0) : 0 ≤ k ∧ k ≤ 2147483647 := kd_in (fun e => h (by unfold szN; rw [e]; rfl))
theorem sz_le (k : Int) : szN k ≤ 8 := by unfold szN; rcases kd_cases k with h | h | h | h | h | h <;> rw [h] <;> decide
theorem ms_lt (k : Int) : msN k < 256 ^ szN k := by unfold msN szN; rcases kd_cases k with h | h | h | h | h | h <;> rw [h] <;> decide
theorem ms_le (k : Int) : msN k ≤ 9223372036854775807 := by unfold msN; rcases kd_cases k with h | h | h | h | h | h <;> rw [h] <;> decide
def valEL : List (Int × Int) → Nat
  | [] => 0
  | p :: l => if szN p.1 = 0 then 6 else if p.2 < 0 ∨ (msN p.1 : Int) < p.2 then 5 else valEL l
def prB (p : Int × Int) : List UInt8 := bytesN 4 p.1.toNat ++ bytesN (szN p.1) p.2.toNat
def vhV (t : Int) : List Int := [0, t, 0]
def valE (t : Int) (l : List (Int × Int)) : Nat := if 32 < l.length then 7 else if shE vhF (vhV t) = 0 then valEL l else shE vhF (vhV t)
def valB (t : Int) (l : List (Int × Int)) : List UInt8 := shP vhF (vhV t) ++ l.flatMap prB
def valP (t : Int) (l : List (Int × Int)) : List UInt8 := if valE t l = 0 then valB t l else []
theorem vhP_len {t : Int} (h : shE vhF (vhV t) = 0) : (shP vhF (vhV t)).length = 4 := by
  rw [(shape_there h).2.2]; unfold widthL; rw [if_pos vhF_right, vhF_sum]
end Go.Proofs.YtmkidihcdljkiaaGreat

/-
  A key's kind, its value's size and the greatest one: the program's and the document's, walked; the heads.
-/
set_option linter.unusedSimpArgs false
set_option linter.unusedVariables false
namespace Go.Proofs.YtmkidihcdljkiaaGreat
open Go.RowKit NumLaw
attribute [local go_sem] Addr.add_mid

set_option maxRecDepth 10000 in
theorem bplace_any (w : World) : Calls Tryz.prog 179 #[.int .i64 28, .int .i64 3] w fun e w' => e = .returned (.bool true) ∧ w = w' := by
  go_enter Tryz.func179, Tryz.ntmps179
  go_wp2
  go_ret
  exact ⟨rfl, rfl⟩
theorem bmask_any (w : World) : Calls Tryz.prog 180 #[.int .i64 3] w fun e w' => e = .returned (.int .u32 7) ∧ w = w' := by
  go_enter Tryz.func180, Tryz.ntmps180
  go_wp2
  go_ret
  exact ⟨rfl, rfl⟩
theorem and7 : ∀ v : Fin 16, bits .and .u32 ((v.val : Nat) : Int) 7 = ((v.val % 8 : Nat) : Int) := by decide +kernel
set_option maxRecDepth 10000 in
set_option maxHeartbeats 1000000 in
theorem bget_any (x : Nat) (hx : x < 4294967296) (w : World) : Calls Tryz.prog 178 #[.int .u32 x, .int .i64 28, .int .i64 3] w fun e w' => e = .returned (.int .u32 ((x / 268435456 % 8 : Nat) : Int)) ∧ Below w.heap.size w w' := by
  have ha := and7 ⟨x / 268435456, by omega⟩
  simp only at ha
  have hsh : ∀ w, (binOp .shr 173 (.int .u32 (x : Int)) (.int .i64 28)).run Tryz.prog w = .ok (.int .u32 ((x / 268435456 : Nat) : Int)) w := by
    intro w
    show (Op.shift .shr .u32 (x : Int) .i64 28).run Tryz.prog w = _
    rw [shift_shr _ _ _ _ (by omega) (by decide)]
    have : (x : Int) / 2 ^ (28 : Int).toNat = ((x / 268435456 : Nat) : Int) := by
      rw [show (28 : Int).toNat = 28 from rfl]
      omega
    rw [this]
    rfl
  have Ha := Lib.hid ha
  clear ha hx
  have hb : Below w.heap.size w w.drew := (Below.refl _ _).drew
  go_enter Tryz.func178, Tryz.ntmps178
  go_wp2_with fail
  go_fit (bplace_any w)
  rintro e w1 ⟨rfl, rfl⟩
  go_wp2_with fail
  refine Ord.region_ (fun _ => True) false [] (by kernel_rfl) (by kernel_rfl) trivial ?_
  generalize w.drew = w1 at *
  ((with_reducible refine Ord.e_p (v := ?_) ?_ ?_ ?_ ?_); rotate_left; (· exact rfl); (· kernel_rfl); (· intro w2; go_simp; try with_reducible rfl))
  (try simp only [Act.put, List.setIfInBounds_toArray, List.set_cons_zero, List.set_cons_succ])
  ((with_reducible refine Ord.e_p (v := ?_) ?_ ?_ ?_ ?_); rotate_left; (· exact rfl); (· kernel_rfl); (· intro w2; go_simp; try with_reducible rfl))
  (try simp only [Act.put, List.setIfInBounds_toArray, List.set_cons_zero, List.set_cons_succ])
  ((with_reducible refine Ord.e_p (v := ?_) ?_ ?_ ?_ ?_); rotate_left; (· exact rfl); (· kernel_rfl); (· intro w2; go_simp; try with_reducible rfl))
  (try simp only [Act.put, List.setIfInBounds_toArray, List.set_cons_zero, List.set_cons_succ])
  ((with_reducible refine Ord.e_p (v := ?_) ?_ ?_ ?_ ?_); rotate_left; (· exact rfl); (· kernel_rfl); (· intro w2; go_simp; try with_reducible rfl))
  (try simp only [Act.put, List.setIfInBounds_toArray, List.set_cons_zero, List.set_cons_succ])
  refine Ord.e_x rfl (by kernel_rfl) ?_
  go_wp2_with fail
  go_fit (bmask_any w1)
  rintro e w2 ⟨rfl, rfl⟩
  go_wp2_with fail
  refine Ord.Seg.go trivial (fun h => by cases h) ?_
  (try simp only [Act.put, List.setIfInBounds_toArray, List.set_cons_zero, List.set_cons_succ])
  ((with_reducible refine Ord.e_p (v := ?_) ?_ ?_ ?_ ?_); rotate_left; (· exact rfl); (· kernel_rfl); (· intro w2; go_simp; try with_reducible rfl))
  (try simp only [Act.put, List.setIfInBounds_toArray, List.set_cons_zero, List.set_cons_succ])
  ((with_reducible refine Ord.e_p (v := ?_) ?_ ?_ ?_ ?_); rotate_left; (· exact rfl); (· kernel_rfl); (· intro w2; go_simp; try with_reducible rfl))
  (try simp only [Act.put, List.setIfInBounds_toArray, List.set_cons_zero, List.set_cons_succ])
  refine Ord.e_nil ?_
  go_wp2
  go_ret
  exact ⟨by rw [← Ha.out, show ((x / 268435456 : Nat) : Int) = (x : Int) / 268435456 by omega]; rfl, hb⟩

/-- A value's bits. -/
def btT : List Nat := [0, 1, 8, 16, 32, 63]
def btN (k : Int) : Nat := btT.getD (kdN k) 0
theorem kd_none {k : Int} (h : k < 0 ∨ 2147483647 < k) : kdN k = 0 := by unfold kdN; rw [if_pos h]
theorem kd_some {k : Int} (d : Nat) (h : 0 ≤ k ∧ k ≤ 2147483647) (hd : k.toNat / 268435456 % 8 = d) : kdN k = if 5 < d then 0 else d := by
  unfold kdN
  rw [if_neg (by omega)]
  subst hd
  split <;> split <;> omega
set_option maxRecDepth 10000 in
set_option maxHeartbeats 4000000 in
theorem kind_any (k : Int) (w : World) : Calls Tryz.prog 177 #[.int .i64 k] w fun e w' => e = .returned (.tuple #[.int .i64 (btN k : Int), .int .i64 (szN k : Int)]) ∧ Below w.heap.size w w' := by
  have hb0 : Below w.heap.size w w := Below.refl _ _
  by_cases h1 : k < 0
  · have e1 : btN k = 0 := by unfold btN; rw [kd_none (.inl h1)]; rfl
    have e2 : szN k = 0 := by unfold szN; rw [kd_none (.inl h1)]; rfl
    rw [e1, e2]
    clear e1 e2
    go_enter Tryz.func177, Tryz.ntmps177
    go_wp2
    go_ret2
    exact ⟨rfl, hb0⟩
  by_cases h2 : 2147483647 < k
  · have e1 : btN k = 0 := by unfold btN; rw [kd_none (.inr h2)]; rfl
    have e2 : szN k = 0 := by unfold szN; rw [kd_none (.inr h2)]; rfl
    rw [e1, e2]
    clear e1 e2
    go_enter Tryz.func177, Tryz.ntmps177
    go_wp2
    go_ret2
    exact ⟨rfl, hb0⟩
  obtain ⟨x, rfl⟩ : ∃ x : Nat, k = x := ⟨k.toNat, by omega⟩
  have hg := bget_any x (by omega)
  obtain ⟨d, hd⟩ : ∃ d, d = x / 268435456 % 8 := ⟨_, rfl⟩
  have hk := kd_some (k := (x : Int)) d (by omega) (by rw [Int.toNat_natCast, hd])
  have hd8 : d < 8 := by omega
  rw [← hd] at hg
  clear hd
  have hw : IntKind.u32.wrap (x : Int) = x := by simp [IntKind.wrap, IntKind.bits, IntKind.signed]; omega
  have hbox := heap_alloc_new w (.cells #[.int .i64 0, .int .i64 0, .int .i64 1, .int .i64 1, .int .i64 8, .int .i64 1, .int .i64 16, .int .i64 2, .int .i64 32, .int .i64 4, .int .i64 63, .int .i64 8, .int .i64 0, .int .i64 0, .int .i64 0, .int .i64 0] 208)
  have hb1 : Below w.heap.size w (w.alloc (.cells #[.int .i64 0, .int .i64 0, .int .i64 1, .int .i64 1, .int .i64 8, .int .i64 1, .int .i64 16, .int .i64 2, .int .i64 32, .int .i64 4, .int .i64 63, .int .i64 8, .int .i64 0, .int .i64 0, .int .i64 0, .int .i64 0] 208)) := hb0.alloc (Nat.le_refl _) _
  have Hk := Lib.hid hk
  clear hk
  go_enter Tryz.func177, Tryz.ntmps177
  go_wp2_with fail
  go_fit (hg _)
  rintro e w2 ⟨rfl, hb12⟩
  have hb2 := bnx hb1 hb12
  replace hbox := blk_old hbox hb12 (blk_lt hbox)
  clear hb1 hb12 hg hw
  rcases (by omega : d = 0 ∨ d = 1 ∨ d = 2 ∨ d = 3 ∨ d = 4 ∨ d = 5 ∨ d = 6 ∨ d = 7) with rfl | rfl | rfl | rfl | rfl | rfl | rfl | rfl
  · have c0 : w2.cell? ⟨w.heap.size, 0, none⟩ = some (.int .i64 0) := blk_cell hbox rfl
    have c1 : w2.cell? ⟨w.heap.size, 1, none⟩ = some (.int .i64 0) := blk_cell hbox rfl
    have e1 : btN (x : Int) = 0 := by unfold btN; rw [Hk.out]; rfl
    have e2 : szN (x : Int) = 0 := by unfold szN; rw [Hk.out]; rfl
    have E1 := Lib.hid e1
    have E2 := Lib.hid e2
    have hk2 := heap_alloc_new w2 (.cells #[.int .i64 0, .int .i64 0] 86)
    have hb3 := hb2.alloc hb2.size (.cells #[.int .i64 0, .int .i64 0] 86)
    clear e1 e2 hbox Hk
    go_wp2_with fail
    generalize (w2.alloc (.cells #[.int .i64 0, .int .i64 0] 86)) = w3 at *
    generalize w2.heap.size = gk at *
    clear c0 c1
    have d0 : w3.drew.cell? ⟨gk, 0, none⟩ = some (.int .i64 0) := blk_cell (w := w3.drew) hk2 rfl
    have d1 : w3.drew.cell? ⟨gk, 1, none⟩ = some (.int .i64 0) := blk_cell (w := w3.drew) hk2 rfl
    have hb4 := hb3.drew
    refine Ord.region_ (fun w' => w'.cell? ⟨gk, 0, none⟩ = some (.int .i64 0) ∧ w'.cell? ⟨gk, 1, none⟩ = some (.int .i64 0)) false [] (by kernel_rfl) (by kernel_rfl) ⟨d0, d1⟩ ?_
    ((with_reducible refine Ord.e_p (v := ?_) ?_ ?_ ?_ ?_); rotate_left; (· exact rfl); (· kernel_rfl); (· intro w2; go_simp; try with_reducible rfl))
    (try simp only [Act.put, List.setIfInBounds_toArray, List.set_cons_zero, List.set_cons_succ])
    refine Ord.e_loadS Tryz.underlying3 rfl (fun w' hS => (show w'.cell? ⟨gk, 0, none⟩ = some (.int .i64 0) ∧ _ from hS).1) ⟨d0, d1⟩ rfl (by kernel_rfl) ?_
    (try simp only [Act.put, List.setIfInBounds_toArray, List.set_cons_zero, List.set_cons_succ])
    ((with_reducible refine Ord.e_p (v := ?_) ?_ ?_ ?_ ?_); rotate_left; (· exact rfl); (· kernel_rfl); (· intro w2; go_simp; try with_reducible rfl))
    (try simp only [Act.put, List.setIfInBounds_toArray, List.set_cons_zero, List.set_cons_succ])
    refine Ord.e_loadS Tryz.underlying3 rfl (fun w' hS => (show _ ∧ w'.cell? ⟨gk, 1, none⟩ = some (.int .i64 0) from hS).2) ⟨d0, d1⟩ rfl (by kernel_rfl) ?_
    (try simp only [Act.put, List.setIfInBounds_toArray, List.set_cons_zero, List.set_cons_succ])
    ((with_reducible refine Ord.e_p (v := ?_) ?_ ?_ ?_ ?_); rotate_left; (· exact rfl); (· kernel_rfl); (· intro w2; go_simp; try with_reducible rfl))
    (try simp only [Act.put, List.setIfInBounds_toArray, List.set_cons_zero, List.set_cons_succ])
    ((with_reducible refine Ord.e_p (v := ?_) ?_ ?_ ?_ ?_); rotate_left; (· exact rfl); (· kernel_rfl); (· intro w2; go_simp; try with_reducible rfl))
    (try simp only [Act.put, List.setIfInBounds_toArray, List.set_cons_zero, List.set_cons_succ])
    refine Ord.e_nil ?_
    go_wp2
    go_ret2
    exact ⟨by rw [E1.out, E2.out]; rfl, hb4⟩
  · have c0 : w2.cell? ⟨w.heap.size, 2, none⟩ = some (.int .i64 1) := blk_cell hbox rfl
    have c1 : w2.cell? ⟨w.heap.size, 3, none⟩ = some (.int .i64 1) := blk_cell hbox rfl
    have e1 : btN (x : Int) = 1 := by unfold btN; rw [Hk.out]; rfl
    have e2 : szN (x : Int) = 1 := by unfold szN; rw [Hk.out]; rfl
    have E1 := Lib.hid e1
    have E2 := Lib.hid e2
    have hk2 := heap_alloc_new w2 (.cells #[.int .i64 1, .int .i64 1] 86)
    have hb3 := hb2.alloc hb2.size (.cells #[.int .i64 1, .int .i64 1] 86)
    clear e1 e2 hbox Hk
    go_wp2_with fail
    generalize (w2.alloc (.cells #[.int .i64 1, .int .i64 1] 86)) = w3 at *
    generalize w2.heap.size = gk at *
    clear c0 c1
    have d0 : w3.drew.cell? ⟨gk, 0, none⟩ = some (.int .i64 1) := blk_cell (w := w3.drew) hk2 rfl
    have d1 : w3.drew.cell? ⟨gk, 1, none⟩ = some (.int .i64 1) := blk_cell (w := w3.drew) hk2 rfl
    have hb4 := hb3.drew
    refine Ord.region_ (fun w' => w'.cell? ⟨gk, 0, none⟩ = some (.int .i64 1) ∧ w'.cell? ⟨gk, 1, none⟩ = some (.int .i64 1)) false [] (by kernel_rfl) (by kernel_rfl) ⟨d0, d1⟩ ?_
    ((with_reducible refine Ord.e_p (v := ?_) ?_ ?_ ?_ ?_); rotate_left; (· exact rfl); (· kernel_rfl); (· intro w2; go_simp; try with_reducible rfl))
    (try simp only [Act.put, List.setIfInBounds_toArray, List.set_cons_zero, List.set_cons_succ])
    refine Ord.e_loadS Tryz.underlying3 rfl (fun w' hS => (show w'.cell? ⟨gk, 0, none⟩ = some (.int .i64 1) ∧ _ from hS).1) ⟨d0, d1⟩ rfl (by kernel_rfl) ?_
    (try simp only [Act.put, List.setIfInBounds_toArray, List.set_cons_zero, List.set_cons_succ])
    ((with_reducible refine Ord.e_p (v := ?_) ?_ ?_ ?_ ?_); rotate_left; (· exact rfl); (· kernel_rfl); (· intro w2; go_simp; try with_reducible rfl))
    (try simp only [Act.put, List.setIfInBounds_toArray, List.set_cons_zero, List.set_cons_succ])
    refine Ord.e_loadS Tryz.underlying3 rfl (fun w' hS => (show _ ∧ w'.cell? ⟨gk, 1, none⟩ = some (.int .i64 1) from hS).2) ⟨d0, d1⟩ rfl (by kernel_rfl) ?_
    (try simp only [Act.put, List.setIfInBounds_toArray, List.set_cons_zero, List.set_cons_succ])
    ((with_reducible refine Ord.e_p (v := ?_) ?_ ?_ ?_ ?_); rotate_left; (· exact rfl); (· kernel_rfl); (· intro w2; go_simp; try with_reducible rfl))
    (try simp only [Act.put, List.setIfInBounds_toArray, List.set_cons_zero, List.set_cons_succ])
    ((with_reducible refine Ord.e_p (v := ?_) ?_ ?_ ?_ ?_); rotate_left; (· exact rfl); (· kernel_rfl); (· intro w2; go_simp; try with_reducible rfl))
    (try simp only [Act.put, List.setIfInBounds_toArray, List.set_cons_zero, List.set_cons_succ])
    refine Ord.e_nil ?_
    go_wp2
    go_ret2
    exact ⟨by rw [E1.out, E2.out]; rfl, hb4⟩
  · have c0 : w2.cell? ⟨w.heap.size, 4, none⟩ = some (.int .i64 8) := blk_cell hbox rfl
    have c1 : w2.cell? ⟨w.heap.size, 5, none⟩ = some (.int .i64 1) := blk_cell hbox rfl
    have e1 : btN (x : Int) = 8 := by unfold btN; rw [Hk.out]; rfl
    have e2 : szN (x : Int) = 1 := by unfold szN; rw [Hk.out]; rfl
    have E1 := Lib.hid e1
    have E2 := Lib.hid e2
    have hk2 := heap_alloc_new w2 (.cells #[.int .i64 8, .int .i64 1] 86)
    have hb3 := hb2.alloc hb2.size (.cells #[.int .i64 8, .int .i64 1] 86)
    clear e1 e2 hbox Hk
    go_wp2_with fail
    generalize (w2.alloc (.cells #[.int .i64 8, .int .i64 1] 86)) = w3 at *
    generalize w2.heap.size = gk at *
    clear c0 c1
    have d0 : w3.drew.cell? ⟨gk, 0, none⟩ = some (.int .i64 8) := blk_cell (w := w3.drew) hk2 rfl
    have d1 : w3.drew.cell? ⟨gk, 1, none⟩ = some (.int .i64 1) := blk_cell (w := w3.drew) hk2 rfl
    have hb4 := hb3.drew
    refine Ord.region_ (fun w' => w'.cell? ⟨gk, 0, none⟩ = some (.int .i64 8) ∧ w'.cell? ⟨gk, 1, none⟩ = some (.int .i64 1)) false [] (by kernel_rfl) (by kernel_rfl) ⟨d0, d1⟩ ?_
    ((with_reducible refine Ord.e_p (v := ?_) ?_ ?_ ?_ ?_); rotate_left; (· exact rfl); (· kernel_rfl); (· intro w2; go_simp; try with_reducible rfl))
    (try simp only [Act.put, List.setIfInBounds_toArray, List.set_cons_zero, List.set_cons_succ])
    refine Ord.e_loadS Tryz.underlying3 rfl (fun w' hS => (show w'.cell? ⟨gk, 0, none⟩ = some (.int .i64 8) ∧ _ from hS).1) ⟨d0, d1⟩ rfl (by kernel_rfl) ?_
    (try simp only [Act.put, List.setIfInBounds_toArray, List.set_cons_zero, List.set_cons_succ])
    ((with_reducible refine Ord.e_p (v := ?_) ?_ ?_ ?_ ?_); rotate_left; (· exact rfl); (· kernel_rfl); (· intro w2; go_simp; try with_reducible rfl))
    (try simp only [Act.put, List.setIfInBounds_toArray, List.set_cons_zero, List.set_cons_succ])
    refine Ord.e_loadS Tryz.underlying3 rfl (fun w' hS => (show _ ∧ w'.cell? ⟨gk, 1, none⟩ = some (.int .i64 1) from hS).2) ⟨d0, d1⟩ rfl (by kernel_rfl) ?_
    (try simp only [Act.put, List.setIfInBounds_toArray, List.set_cons_zero, List.set_cons_succ])
    ((with_reducible refine Ord.e_p (v := ?_) ?_ ?_ ?_ ?_); rotate_left; (· exact rfl); (· kernel_rfl); (· intro w2; go_simp; try with_reducible rfl))
    (try simp only [Act.put, List.setIfInBounds_toArray, List.set_cons_zero, List.set_cons_succ])
    ((with_reducible refine Ord.e_p (v := ?_) ?_ ?_ ?_ ?_); rotate_left; (· exact rfl); (· kernel_rfl); (· intro w2; go_simp; try with_reducible rfl))
    (try simp only [Act.put, List.setIfInBounds_toArray, List.set_cons_zero, List.set_cons_succ])
    refine Ord.e_nil ?_
    go_wp2
    go_ret2
    exact ⟨by rw [E1.out, E2.out]; rfl, hb4⟩
  · have c0 : w2.cell? ⟨w.heap.size, 6, none⟩ = some (.int .i64 16) := blk_cell hbox rfl
    have c1 : w2.cell? ⟨w.heap.size, 7, none⟩ = some (.int .i64 2) := blk_cell hbox rfl
    have e1 : btN (x : Int) = 16 := by unfold btN; rw [Hk.out]; rfl
    have e2 : szN (x : Int) = 2 := by unfold szN; rw [Hk.out]; rfl
    have E1 := Lib.hid e1
    have E2 := Lib.hid e2
    have hk2 := heap_alloc_new w2 (.cells #[.int .i64 16, .int .i64 2] 86)
    have hb3 := hb2.alloc hb2.size (.cells #[.int .i64 16, .int .i64 2] 86)
    clear e1 e2 hbox Hk
    go_wp2_with fail
    generalize (w2.alloc (.cells #[.int .i64 16, .int .i64 2] 86)) = w3 at *
    generalize w2.heap.size = gk at *
    clear c0 c1
    have d0 : w3.drew.cell? ⟨gk, 0, none⟩ = some (.int .i64 16) := blk_cell (w := w3.drew) hk2 rfl
    have d1 : w3.drew.cell? ⟨gk, 1, none⟩ = some (.int .i64 2) := blk_cell (w := w3.drew) hk2 rfl
    have hb4 := hb3.drew
    refine Ord.region_ (fun w' => w'.cell? ⟨gk, 0, none⟩ = some (.int .i64 16) ∧ w'.cell? ⟨gk, 1, none⟩ = some (.int .i64 2)) false [] (by kernel_rfl) (by kernel_rfl) ⟨d0, d1⟩ ?_
    ((with_reducible refine Ord.e_p (v := ?_) ?_ ?_ ?_ ?_); rotate_left; (· exact rfl); (· kernel_rfl); (· intro w2; go_simp; try with_reducible rfl))
    (try simp only [Act.put, List.setIfInBounds_toArray, List.set_cons_zero, List.set_cons_succ])
    refine Ord.e_loadS Tryz.underlying3 rfl (fun w' hS => (show w'.cell? ⟨gk, 0, none⟩ = some (.int .i64 16) ∧ _ from hS).1) ⟨d0, d1⟩ rfl (by kernel_rfl) ?_
    (try simp only [Act.put, List.setIfInBounds_toArray, List.set_cons_zero, List.set_cons_succ])
    ((with_reducible refine Ord.e_p (v := ?_) ?_ ?_ ?_ ?_); rotate_left; (· exact rfl); (· kernel_rfl); (· intro w2; go_simp; try with_reducible rfl))
    (try simp only [Act.put, List.setIfInBounds_toArray, List.set_cons_zero, List.set_cons_succ])
    refine Ord.e_loadS Tryz.underlying3 rfl (fun w' hS => (show _ ∧ w'.cell? ⟨gk, 1, none⟩ = some (.int .i64 2) from hS).2) ⟨d0, d1⟩ rfl (by kernel_rfl) ?_
    (try simp only [Act.put, List.setIfInBounds_toArray, List.set_cons_zero, List.set_cons_succ])
    ((with_reducible refine Ord.e_p (v := ?_) ?_ ?_ ?_ ?_); rotate_left; (· exact rfl); (· kernel_rfl); (· intro w2; go_simp; try with_reducible rfl))
    (try simp only [Act.put, List.setIfInBounds_toArray, List.set_cons_zero, List.set_cons_succ])
    ((with_reducible refine Ord.e_p (v := ?_) ?_ ?_ ?_ ?_); rotate_left; (· exact rfl); (· kernel_rfl); (· intro w2; go_simp; try with_reducible rfl))
    (try simp only [Act.put, List.setIfInBounds_toArray, List.set_cons_zero, List.set_cons_succ])
    refine Ord.e_nil ?_
    go_wp2
    go_ret2
    exact ⟨by rw [E1.out, E2.out]; rfl, hb4⟩
  · have c0 : w2.cell? ⟨w.heap.size, 8, none⟩ = some (.int .i64 32) := blk_cell hbox rfl
    have c1 : w2.cell? ⟨w.heap.size, 9, none⟩ = some (.int .i64 4) := blk_cell hbox rfl
    have e1 : btN (x : Int) = 32 := by unfold btN; rw [Hk.out]; rfl
    have e2 : szN (x : Int) = 4 := by unfold szN; rw [Hk.out]; rfl
    have E1 := Lib.hid e1
    have E2 := Lib.hid e2
    have hk2 := heap_alloc_new w2 (.cells #[.int .i64 32, .int .i64 4] 86)
    have hb3 := hb2.alloc hb2.size (.cells #[.int .i64 32, .int .i64 4] 86)
    clear e1 e2 hbox Hk
    go_wp2_with fail
    generalize (w2.alloc (.cells #[.int .i64 32, .int .i64 4] 86)) = w3 at *
    generalize w2.heap.size = gk at *
    clear c0 c1
    have d0 : w3.drew.cell? ⟨gk, 0, none⟩ = some (.int .i64 32) := blk_cell (w := w3.drew) hk2 rfl
    have d1 : w3.drew.cell? ⟨gk, 1, none⟩ = some (.int .i64 4) := blk_cell (w := w3.drew) hk2 rfl
    have hb4 := hb3.drew
    refine Ord.region_ (fun w' => w'.cell? ⟨gk, 0, none⟩ = some (.int .i64 32) ∧ w'.cell? ⟨gk, 1, none⟩ = some (.int .i64 4)) false [] (by kernel_rfl) (by kernel_rfl) ⟨d0, d1⟩ ?_
    ((with_reducible refine Ord.e_p (v := ?_) ?_ ?_ ?_ ?_); rotate_left; (· exact rfl); (· kernel_rfl); (· intro w2; go_simp; try with_reducible rfl))
    (try simp only [Act.put, List.setIfInBounds_toArray, List.set_cons_zero, List.set_cons_succ])
    refine Ord.e_loadS Tryz.underlying3 rfl (fun w' hS => (show w'.cell? ⟨gk, 0, none⟩ = some (.int .i64 32) ∧ _ from hS).1) ⟨d0, d1⟩ rfl (by kernel_rfl) ?_
    (try simp only [Act.put, List.setIfInBounds_toArray, List.set_cons_zero, List.set_cons_succ])
    ((with_reducible refine Ord.e_p (v := ?_) ?_ ?_ ?_ ?_); rotate_left; (· exact rfl); (· kernel_rfl); (· intro w2; go_simp; try with_reducible rfl))
    (try simp only [Act.put, List.setIfInBounds_toArray, List.set_cons_zero, List.set_cons_succ])
    refine Ord.e_loadS Tryz.underlying3 rfl (fun w' hS => (show _ ∧ w'.cell? ⟨gk, 1, none⟩ = some (.int .i64 4) from hS).2) ⟨d0, d1⟩ rfl (by kernel_rfl) ?_
    (try simp only [Act.put, List.setIfInBounds_toArray, List.set_cons_zero, List.set_cons_succ])
    ((with_reducible refine Ord.e_p (v := ?_) ?_ ?_ ?_ ?_); rotate_left; (· exact rfl); (· kernel_rfl); (· intro w2; go_simp; try with_reducible rfl))
    (try simp only [Act.put, List.setIfInBounds_toArray, List.set_cons_zero, List.set_cons_succ])
    ((with_reducible refine Ord.e_p (v := ?_) ?_ ?_ ?_ ?_); rotate_left; (· exact rfl); (· kernel_rfl); (· intro w2; go_simp; try with_reducible rfl))
    (try simp only [Act.put, List.setIfInBounds_toArray, List.set_cons_zero, List.set_cons_succ])
    refine Ord.e_nil ?_
    go_wp2
    go_ret2
    exact ⟨by rw [E1.out, E2.out]; rfl, hb4⟩
  · have c0 : w2.cell? ⟨w.heap.size, 10, none⟩ = some (.int .i64 63) := blk_cell hbox rfl
    have c1 : w2.cell? ⟨w.heap.size, 11, none⟩ = some (.int .i64 8) := blk_cell hbox rfl
    have e1 : btN (x : Int) = 63 := by unfold btN; rw [Hk.out]; rfl
    have e2 : szN (x : Int) = 8 := by unfold szN; rw [Hk.out]; rfl
    have E1 := Lib.hid e1
    have E2 := Lib.hid e2
    have hk2 := heap_alloc_new w2 (.cells #[.int .i64 63, .int .i64 8] 86)
    have hb3 := hb2.alloc hb2.size (.cells #[.int .i64 63, .int .i64 8] 86)
    clear e1 e2 hbox Hk
    go_wp2_with fail
    generalize (w2.alloc (.cells #[.int .i64 63, .int .i64 8] 86)) = w3 at *
    generalize w2.heap.size = gk at *
    clear c0 c1
    have d0 : w3.drew.cell? ⟨gk, 0, none⟩ = some (.int .i64 63) := blk_cell (w := w3.drew) hk2 rfl
    have d1 : w3.drew.cell? ⟨gk, 1, none⟩ = some (.int .i64 8) := blk_cell (w := w3.drew) hk2 rfl
    have hb4 := hb3.drew
    refine Ord.region_ (fun w' => w'.cell? ⟨gk, 0, none⟩ = some (.int .i64 63) ∧ w'.cell? ⟨gk, 1, none⟩ = some (.int .i64 8)) false [] (by kernel_rfl) (by kernel_rfl) ⟨d0, d1⟩ ?_
    ((with_reducible refine Ord.e_p (v := ?_) ?_ ?_ ?_ ?_); rotate_left; (· exact rfl); (· kernel_rfl); (· intro w2; go_simp; try with_reducible rfl))
    (try simp only [Act.put, List.setIfInBounds_toArray, List.set_cons_zero, List.set_cons_succ])
    refine Ord.e_loadS Tryz.underlying3 rfl (fun w' hS => (show w'.cell? ⟨gk, 0, none⟩ = some (.int .i64 63) ∧ _ from hS).1) ⟨d0, d1⟩ rfl (by kernel_rfl) ?_
    (try simp only [Act.put, List.setIfInBounds_toArray, List.set_cons_zero, List.set_cons_succ])
    ((with_reducible refine Ord.e_p (v := ?_) ?_ ?_ ?_ ?_); rotate_left; (· exact rfl); (· kernel_rfl); (· intro w2; go_simp; try with_reducible rfl))
    (try simp only [Act.put, List.setIfInBounds_toArray, List.set_cons_zero, List.set_cons_succ])
    refine Ord.e_loadS Tryz.underlying3 rfl (fun w' hS => (show _ ∧ w'.cell? ⟨gk, 1, none⟩ = some (.int .i64 8) from hS).2) ⟨d0, d1⟩ rfl (by kernel_rfl) ?_
    (try simp only [Act.put, List.setIfInBounds_toArray, List.set_cons_zero, List.set_cons_succ])
    ((with_reducible refine Ord.e_p (v := ?_) ?_ ?_ ?_ ?_); rotate_left; (· exact rfl); (· kernel_rfl); (· intro w2; go_simp; try with_reducible rfl))
    (try simp only [Act.put, List.setIfInBounds_toArray, List.set_cons_zero, List.set_cons_succ])
    ((with_reducible refine Ord.e_p (v := ?_) ?_ ?_ ?_ ?_); rotate_left; (· exact rfl); (· kernel_rfl); (· intro w2; go_simp; try with_reducible rfl))
    (try simp only [Act.put, List.setIfInBounds_toArray, List.set_cons_zero, List.set_cons_succ])
    refine Ord.e_nil ?_
    go_wp2
    go_ret2
    exact ⟨by rw [E1.out, E2.out]; rfl, hb4⟩
  · have c0 : w2.cell? ⟨w.heap.size, 12, none⟩ = some (.int .i64 0) := blk_cell hbox rfl
    have c1 : w2.cell? ⟨w.heap.size, 13, none⟩ = some (.int .i64 0) := blk_cell hbox rfl
    have e1 : btN (x : Int) = 0 := by unfold btN; rw [Hk.out]; rfl
    have e2 : szN (x : Int) = 0 := by unfold szN; rw [Hk.out]; rfl
    have E1 := Lib.hid e1
    have E2 := Lib.hid e2
    have hk2 := heap_alloc_new w2 (.cells #[.int .i64 0, .int .i64 0] 86)
    have hb3 := hb2.alloc hb2.size (.cells #[.int .i64 0, .int .i64 0] 86)
    clear e1 e2 hbox Hk
    go_wp2_with fail
    generalize (w2.alloc (.cells #[.int .i64 0, .int .i64 0] 86)) = w3 at *
    generalize w2.heap.size = gk at *
    clear c0 c1
    have d0 : w3.drew.cell? ⟨gk, 0, none⟩ = some (.int .i64 0) := blk_cell (w := w3.drew) hk2 rfl
    have d1 : w3.drew.cell? ⟨gk, 1, none⟩ = some (.int .i64 0) := blk_cell (w := w3.drew) hk2 rfl
    have hb4 := hb3.drew
    refine Ord.region_ (fun w' => w'.cell? ⟨gk, 0, none⟩ = some (.int .i64 0) ∧ w'.cell? ⟨gk, 1, none⟩ = some (.int .i64 0)) false [] (by kernel_rfl) (by kernel_rfl) ⟨d0, d1⟩ ?_
    ((with_reducible refine Ord.e_p (v := ?_) ?_ ?_ ?_ ?_); rotate_left; (· exact rfl); (· kernel_rfl); (· intro w2; go_simp; try with_reducible rfl))
    (try simp only [Act.put, List.setIfInBounds_toArray, List.set_cons_zero, List.set_cons_succ])
    refine Ord.e_loadS Tryz.underlying3 rfl (fun w' hS => (show w'.cell? ⟨gk, 0, none⟩ = some (.int .i64 0) ∧ _ from hS).1) ⟨d0, d1⟩ rfl (by kernel_rfl) ?_
    (try simp only [Act.put, List.setIfInBounds_toArray, List.set_cons_zero, List.set_cons_succ])
    ((with_reducible refine Ord.e_p (v := ?_) ?_ ?_ ?_ ?_); rotate_left; (· exact rfl); (· kernel_rfl); (· intro w2; go_simp; try with_reducible rfl))
    (try simp only [Act.put, List.setIfInBounds_toArray, List.set_cons_zero, List.set_cons_succ])
    refine Ord.e_loadS Tryz.underlying3 rfl (fun w' hS => (show _ ∧ w'.cell? ⟨gk, 1, none⟩ = some (.int .i64 0) from hS).2) ⟨d0, d1⟩ rfl (by kernel_rfl) ?_
    (try simp only [Act.put, List.setIfInBounds_toArray, List.set_cons_zero, List.set_cons_succ])
    ((with_reducible refine Ord.e_p (v := ?_) ?_ ?_ ?_ ?_); rotate_left; (· exact rfl); (· kernel_rfl); (· intro w2; go_simp; try with_reducible rfl))
    (try simp only [Act.put, List.setIfInBounds_toArray, List.set_cons_zero, List.set_cons_succ])
    ((with_reducible refine Ord.e_p (v := ?_) ?_ ?_ ?_ ?_); rotate_left; (· exact rfl); (· kernel_rfl); (· intro w2; go_simp; try with_reducible rfl))
    (try simp only [Act.put, List.setIfInBounds_toArray, List.set_cons_zero, List.set_cons_succ])
    refine Ord.e_nil ?_
    go_wp2
    go_ret2
    exact ⟨by rw [E1.out, E2.out]; rfl, hb4⟩
  · have c0 : w2.cell? ⟨w.heap.size, 14, none⟩ = some (.int .i64 0) := blk_cell hbox rfl
    have c1 : w2.cell? ⟨w.heap.size, 15, none⟩ = some (.int .i64 0) := blk_cell hbox rfl
    have e1 : btN (x : Int) = 0 := by unfold btN; rw [Hk.out]; rfl
    have e2 : szN (x : Int) = 0 := by unfold szN; rw [Hk.out]; rfl
    have E1 := Lib.hid e1
    have E2 := Lib.hid e2
    have hk2 := heap_alloc_new w2 (.cells #[.int .i64 0, .int .i64 0] 86)
    have hb3 := hb2.alloc hb2.size (.cells #[.int .i64 0, .int .i64 0] 86)
    clear e1 e2 hbox Hk
    go_wp2_with fail
    generalize (w2.alloc (.cells #[.int .i64 0, .int .i64 0] 86)) = w3 at *
    generalize w2.heap.size = gk at *
    clear c0 c1
    have d0 : w3.drew.cell? ⟨gk, 0, none⟩ = some (.int .i64 0) := blk_cell (w := w3.drew) hk2 rfl
    have d1 : w3.drew.cell? ⟨gk, 1, none⟩ = some (.int .i64 0) := blk_cell (w := w3.drew) hk2 rfl
    have hb4 := hb3.drew
    refine Ord.region_ (fun w' => w'.cell? ⟨gk, 0, none⟩ = some (.int .i64 0) ∧ w'.cell? ⟨gk, 1, none⟩ = some (.int .i64 0)) false [] (by kernel_rfl) (by kernel_rfl) ⟨d0, d1⟩ ?_
    ((with_reducible refine Ord.e_p (v := ?_) ?_ ?_ ?_ ?_); rotate_left; (· exact rfl); (· kernel_rfl); (· intro w2; go_simp; try with_reducible rfl))
    (try simp only [Act.put, List.setIfInBounds_toArray, List.set_cons_zero, List.set_cons_succ])
    refine Ord.e_loadS Tryz.underlying3 rfl (fun w' hS => (show w'.cell? ⟨gk, 0, none⟩ = some (.int .i64 0) ∧ _ from hS).1) ⟨d0, d1⟩ rfl (by kernel_rfl) ?_
    (try simp only [Act.put, List.setIfInBounds_toArray, List.set_cons_zero, List.set_cons_succ])
    ((with_reducible refine Ord.e_p (v := ?_) ?_ ?_ ?_ ?_); rotate_left; (· exact rfl); (· kernel_rfl); (· intro w2; go_simp; try with_reducible rfl))
    (try simp only [Act.put, List.setIfInBounds_toArray, List.set_cons_zero, List.set_cons_succ])
    refine Ord.e_loadS Tryz.underlying3 rfl (fun w' hS => (show _ ∧ w'.cell? ⟨gk, 1, none⟩ = some (.int .i64 0) from hS).2) ⟨d0, d1⟩ rfl (by kernel_rfl) ?_
    (try simp only [Act.put, List.setIfInBounds_toArray, List.set_cons_zero, List.set_cons_succ])
    ((with_reducible refine Ord.e_p (v := ?_) ?_ ?_ ?_ ?_); rotate_left; (· exact rfl); (· kernel_rfl); (· intro w2; go_simp; try with_reducible rfl))
    (try simp only [Act.put, List.setIfInBounds_toArray, List.set_cons_zero, List.set_cons_succ])
    ((with_reducible refine Ord.e_p (v := ?_) ?_ ?_ ?_ ?_); rotate_left; (· exact rfl); (· kernel_rfl); (· intro w2; go_simp; try with_reducible rfl))
    (try simp only [Act.put, List.setIfInBounds_toArray, List.set_cons_zero, List.set_cons_succ])
    refine Ord.e_nil ?_
    go_wp2
    go_ret2
    exact ⟨by rw [E1.out, E2.out]; rfl, hb4⟩

theorem bt_ms (k : Int) : btN k = 0 ∧ msN k = 0 ∨ btN k = 1 ∧ msN k = 1 ∨ btN k = 8 ∧ msN k = 255 ∨ btN k = 16 ∧ msN k = 65535 ∨ btN k = 32 ∧ msN k = 4294967295 ∨ btN k = 63 ∧ msN k = 9223372036854775807 := by
  unfold btN msN
  rcases kd_cases k with h | h | h | h | h | h <;> rw [h] <;> simp [btT, msT]
set_option maxRecDepth 10000 in
set_option maxHeartbeats 1000000 in
theorem vsize_any (k : Int) (w : World) : Calls Tryz.prog 173 #[.int .i64 k] w fun e w' => e = .returned (.tuple #[.int .i64 (szN k : Int), .bool (decide (szN k ≠ 0))]) ∧ Below w.heap.size w w' := by
  have hk := kind_any k w
  generalize btN k = a at *
  generalize szN k = b at *
  by_cases hz : b = 0
  · subst hz
    rw [show decide ((0 : Nat) ≠ 0) = false from rfl]
    go_enter Tryz.func173, Tryz.ntmps173
    go_wp2_with fail
    go_fit hk
    rintro e w1 ⟨rfl, hb⟩
    go_wp2
    go_ret2
    exact ⟨rfl, hb⟩
  · have h0 : decide (0 < b) = true := decide_eq_true (by omega)
    rw [show decide (b ≠ 0) = true from decide_eq_true hz]
    go_enter Tryz.func173, Tryz.ntmps173
    go_wp2_with fail
    go_fit hk
    rintro e w1 ⟨rfl, hb⟩
    have H0 := Lib.hid h0
    clear h0
    go_wp2
    rw [H0.out]
    go_ret2
    exact ⟨rfl, hb⟩
set_option maxRecDepth 10000 in
set_option maxHeartbeats 1000000 in
theorem vmost_any (k : Int) (w : World) : Calls Tryz.prog 174 #[.int .i64 k] w fun e w' => e = .returned (.int .i64 (msN k : Int)) ∧ Below w.heap.size w w' := by
  have hk := kind_any k w
  have hc := bt_ms k
  generalize szN k = b at *
  generalize btN k = a at *
  generalize msN k = m at *
  rcases hc with ⟨rfl, rfl⟩ | ⟨rfl, rfl⟩ | ⟨rfl, rfl⟩ | ⟨rfl, rfl⟩ | ⟨rfl, rfl⟩ | ⟨rfl, rfl⟩
  all_goals
    go_enter Tryz.func174, Tryz.ntmps174
    go_wp2_with fail
    go_fit hk
    rintro e w1 ⟨rfl, hb⟩
    go_wp2
    go_ret
    exact ⟨rfl, hb⟩

set_option maxRecDepth 10000 in
set_option maxHeartbeats 1000000 in
theorem qkind_any (k : Int) (w : World) (hk : -9223372036854775808 ≤ k ∧ k ≤ 9223372036854775807) : Calls Tryz.prog 69 #[.int .i64 k] w fun e w' => e = .returned (.int .i64 (kdN k : Int)) ∧ w = w' := by
  by_cases h1 : k < 0
  · rw [kd_none (.inl h1)]
    go_enter Tryz.func69, Tryz.ntmps69
    go_wp2
    go_ret
    exact ⟨rfl, rfl⟩
  by_cases h2 : 2147483647 < k
  · rw [kd_none (.inr h2)]
    go_enter Tryz.func69, Tryz.ntmps69
    go_wp2
    go_ret
    exact ⟨rfl, rfl⟩
  obtain ⟨x, rfl⟩ : ∃ x : Nat, k = x := ⟨k.toNat, by omega⟩
  have hq : Int.tdiv (x : Int) 268435456 = ((x / 268435456 : Nat) : Int) := rfl
  have hq2 : (x : Int) / 268435456 = ((x / 268435456 : Nat) : Int) := by omega
  have hkd : kdN (x : Int) = if 5 < x / 268435456 then 0 else x / 268435456 := by
    unfold kdN
    rw [if_neg (by omega)]
    split <;> split <;> omega
  have hw : IntKind.i64.wrap ((x / 268435456 : Nat) : Int) = ((x / 268435456 : Nat) : Int) := by rw [IntKind.wrap_i64]; omega
  generalize x / 268435456 = d at *
  rw [hkd]
  clear hkd hk
  by_cases h5 : 5 < d
  · have h5' : (5 : Int) < (d : Int) := by omega
    rw [if_pos h5]
    go_enter Tryz.func69, Tryz.ntmps69
    go_wp2
    go_ret
    exact ⟨rfl, rfl⟩
  · have h5' : ¬ (5 : Int) < (d : Int) := by omega
    rw [if_neg h5]
    go_enter Tryz.func69, Tryz.ntmps69
    go_wp2
    go_ret
    exact ⟨rfl, rfl⟩
set_option maxRecDepth 10000 in
set_option maxHeartbeats 1000000 in
theorem qvsize_any (k : Int) (w : World) (hk : -9223372036854775808 ≤ k ∧ k ≤ 9223372036854775807) : Calls Tryz.prog 48 #[.int .i64 k] w fun e w' => e = .returned (.tuple #[.int .i64 (szN k : Int), .bool (decide (szN k ≠ 0))]) ∧ Below w.heap.size w w' := by
  have hq := fun w => qkind_any k w hk
  have hbox := heap_alloc_new w (.cells #[.int .i64 0, .int .i64 1, .int .i64 1, .int .i64 2, .int .i64 4, .int .i64 8] 131)
  have hb1 : Below w.heap.size w (w.alloc (.cells #[.int .i64 0, .int .i64 1, .int .i64 1, .int .i64 2, .int .i64 4, .int .i64 8] 131)) := (Below.refl _ _).alloc (Nat.le_refl _) _
  have hc := kd_cases k
  have hs : szN k = szT.getD (kdN k) 0 := rfl
  rw [hs]
  clear hs
  generalize kdN k = d at *
  go_enter Tryz.func48, Tryz.ntmps48
  go_wp2_with fail
  go_fit (hq _)
  rintro e w1 ⟨rfl, rfl⟩
  generalize (w.alloc (.cells #[.int .i64 0, .int .i64 1, .int .i64 1, .int .i64 2, .int .i64 4, .int .i64 8] 131)) = w1 at *
  clear hq
  rcases hc with rfl | rfl | rfl | rfl | rfl | rfl
  · have c0 : w1.cell? ⟨w.heap.size, 0, none⟩ = some (.int .i64 0) := blk_cell hbox rfl
    go_wp2
    go_ret2
    exact ⟨rfl, hb1⟩
  · have c0 : w1.cell? ⟨w.heap.size, 1, none⟩ = some (.int .i64 1) := blk_cell hbox rfl
    go_wp2
    go_ret2
    exact ⟨rfl, hb1⟩
  · have c0 : w1.cell? ⟨w.heap.size, 2, none⟩ = some (.int .i64 1) := blk_cell hbox rfl
    go_wp2
    go_ret2
    exact ⟨rfl, hb1⟩
  · have c0 : w1.cell? ⟨w.heap.size, 3, none⟩ = some (.int .i64 2) := blk_cell hbox rfl
    go_wp2
    go_ret2
    exact ⟨rfl, hb1⟩
  · have c0 : w1.cell? ⟨w.heap.size, 4, none⟩ = some (.int .i64 4) := blk_cell hbox rfl
    go_wp2
    go_ret2
    exact ⟨rfl, hb1⟩
  · have c0 : w1.cell? ⟨w.heap.size, 5, none⟩ = some (.int .i64 8) := blk_cell hbox rfl
    go_wp2
    go_ret2
    exact ⟨rfl, hb1⟩
set_option maxRecDepth 10000 in
set_option maxHeartbeats 1000000 in
theorem qvmost_any (k : Int) (w : World) (hk : -9223372036854775808 ≤ k ∧ k ≤ 9223372036854775807) : Calls Tryz.prog 49 #[.int .i64 k] w fun e w' => e = .returned (.int .i64 (msN k : Int)) ∧ Below w.heap.size w w' := by
  have hq := fun w => qkind_any k w hk
  have hbox := heap_alloc_new w (.cells #[.int .i64 0, .int .i64 1, .int .i64 255, .int .i64 65535, .int .i64 4294967295, .int .i64 9223372036854775807] 133)
  have hb1 : Below w.heap.size w (w.alloc (.cells #[.int .i64 0, .int .i64 1, .int .i64 255, .int .i64 65535, .int .i64 4294967295, .int .i64 9223372036854775807] 133)) := (Below.refl _ _).alloc (Nat.le_refl _) _
  have hc := kd_cases k
  have hs : msN k = msT.getD (kdN k) 0 := rfl
  rw [hs]
  clear hs
  generalize kdN k = d at *
  go_enter Tryz.func49, Tryz.ntmps49
  go_wp2_with fail
  go_fit (hq _)
  rintro e w1 ⟨rfl, rfl⟩
  generalize (w.alloc (.cells #[.int .i64 0, .int .i64 1, .int .i64 255, .int .i64 65535, .int .i64 4294967295, .int .i64 9223372036854775807] 133)) = w1 at *
  clear hq
  rcases hc with rfl | rfl | rfl | rfl | rfl | rfl
  · have c0 : w1.cell? ⟨w.heap.size, 0, none⟩ = some (.int .i64 0) := blk_cell hbox rfl
    go_wp2
    go_ret
    exact ⟨rfl, hb1⟩
  · have c0 : w1.cell? ⟨w.heap.size, 1, none⟩ = some (.int .i64 1) := blk_cell hbox rfl
    go_wp2
    go_ret
    exact ⟨rfl, hb1⟩
  · have c0 : w1.cell? ⟨w.heap.size, 2, none⟩ = some (.int .i64 255) := blk_cell hbox rfl
    go_wp2
    go_ret
    exact ⟨rfl, hb1⟩
  · have c0 : w1.cell? ⟨w.heap.size, 3, none⟩ = some (.int .i64 65535) := blk_cell hbox rfl
    go_wp2
    go_ret
    exact ⟨rfl, hb1⟩
  · have c0 : w1.cell? ⟨w.heap.size, 4, none⟩ = some (.int .i64 4294967295) := blk_cell hbox rfl
    go_wp2
    go_ret
    exact ⟨rfl, hb1⟩
  · have c0 : w1.cell? ⟨w.heap.size, 5, none⟩ = some (.int .i64 9223372036854775807) := blk_cell hbox rfl
    go_wp2
    go_ret
    exact ⟨rfl, hb1⟩

set_option maxRecDepth 10000 in
set_option maxHeartbeats 2000000 in
theorem vfirst_any (w : World) : Calls Tryz.prog 172 #[] w (RetF vhF w) := by
  have hb0 : Below w.heap.size w w := Below.refl _ _
  have a1 := fun w => shU_any 1 0 w
  rw [if_pos (by decide)] at a1
  unfold fv at a1
  have a2 := fun w => shU_any 1 7 w
  rw [if_pos (by decide)] at a2
  unfold fv at a2
  have a3 := fun w => shU_any 2 0 w
  rw [if_pos (by decide)] at a3
  unfold fv at a3
  go_enter Tryz.func172, Tryz.ntmps172
  go_wp2_with fail
  go_fit (a1 _)
  rintro e w1 ⟨rfl, hc1⟩
  have hb1 := bnx hb0 hc1
  clear hc1
  go_wp2_with fail
  go_fit (a2 _)
  rintro e w2 ⟨rfl, hc2⟩
  have hb2 := bnx hb1 hc2
  clear hc2
  go_wp2_with fail
  go_fit (a3 _)
  rintro e w3 ⟨rfl, hc3⟩
  have hb3 := bnx hb2 hc3
  clear hc3
  go_wp2
  go_ret
  exact retF_lit7 w3 w hb3 _ vhF _ rfl (by simp [vhF]) vhF_b 3 rfl
set_option maxRecDepth 10000 in
set_option maxHeartbeats 1000000 in
theorem qvhead_any (w : World) : Calls Tryz.prog 47 #[] w (RetF vhF w) := by
  go_enter Tryz.func47, Tryz.ntmps47
  go_wp2
  go_ret
  exact retF_lit7 w w (Below.refl _ _) _ vhF _ rfl (by simp [vhF]) vhF_b 3 rfl

end Go.Proofs.YtmkidihcdljkiaaGreat
