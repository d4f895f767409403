/-
  Several texts in one: Pvt2 Pvt3 Pvt6 Pvt7.
-/
import Derived.Test.YtmkidihcdljkiaaGreatKPGA
import Derived.Test.YtmkidihcdljkiaaGreatKPGE
import Derived.Shelf.Strconv.Itoa0
import Derived.Shelf.Spec.BitsCarry
import Derived.WalkMore
import Derived.Deep.LoopGhost
import Derived.Laws.StructEq
/-
  pvt.each walked; structs of numbers as lists.
-/
set_option linter.unusedSimpArgs false
set_option linter.unusedVariables false
namespace Go.Proofs.YtmkidihcdljkiaaGreat
open Go.RowKit NumLaw
attribute [local go_sem] Addr.add_mid

def pv (p : Addr) : Value := .pointer (some p)
set_option maxHeartbeats 1000000 in
theorem each_any (F : Nat) (lb : Array Value) (heg : ∀ args w, (callFunc F args).run Tryz.prog w = .ok (.enter F args) w) (A : Option Addr) (n c B : Nat) (ps : List Addr) (w : World) (I : Nat → World → Prop)
    (h0 : I 0 w) (hrd : ∀ k w1, I k w1 → Rd w1 B 1 A n c (ps.map pv))
    (hstep : ∀ k p w1, ps[k]? = some p → k < n → I k w1 → Calls Tryz.prog F (#[.int .i64 k, pv p] ++ lb) w1 fun e w' => e = .returned (.tuple #[]) ∧ I (k + 1) w') :
    Calls Tryz.prog 126 #[.func (.func F) #[] lb, .slice A n c] w fun e w' => e = .returned (.tuple #[]) ∧ I n w' := by
  have h := hrd 0 w h0
  have hle := h.le
  have hmx := h.max
  unfold maxLen at hmx
  clear h
  go_enter Tryz.func126, Tryz.ntmps126
  go_wp2_with fail
  go_loopw [8] (fun i wr => ∃ k : Nat, k ≤ n ∧ i = .int .i64 k ∧ I k wr) (fun i _ => n - (intOf i).toNat)
  case atStart => exact ⟨0, by omega, rfl, h0⟩
  case round =>
    obtain ⟨k, hk, rfl, hI⟩ := hrel
    by_cases hlt : k < n
    · obtain ⟨ad, u, rfl, hu, hc⟩ := (hrd k wr hI).one hlt
      obtain ⟨p, hp, rfl⟩ : ∃ p, ps[k]? = some p ∧ pv p = u := by simpa using hu
      have hs := hstep k p wr hp hlt hI
      unfold pv at hs hc
      clear hu hp
      go_wp2_with fail
      go_fit hs
      rintro e w2 ⟨rfl, hI2⟩
      go_wp2
      go_roundw
      case rel => exact ⟨k + 1, by omega, by go_num, hI2⟩
      case measure => simp [intOf]; omega
    · obtain rfl : k = n := by omega
      go_wp2
      ((try simp only [Exit.inBlock, Exit.then]); refine bodyPost_end (results_none rfl _ _ _) rfl ?_)
      exact ⟨rfl, hI⟩

end Go.Proofs.YtmkidihcdljkiaaGreat

/-
  pvt.Speed walked, and the document's.
-/
set_option linter.unusedSimpArgs false
set_option linter.unusedVariables false
namespace Go.Proofs.YtmkidihcdljkiaaGreat
open Go.RowKit NumLaw
attribute [local go_sem] Addr.add_mid

/-- A row of pointers just laid. -/
theorem rd_ptrs {w : World} {g e : Nat} {ps : List Addr} (h : w.heap[g]? = some (.cells (ps.map pv).toArray e)) (hm : ps.length ≤ maxLen) : Rd w (g + 1) 1 (some ⟨g, 0, none⟩) ps.length ps.length (ps.map pv) := by
  refine ⟨by simp, Nat.le_refl _, hm, fun _ => ⟨_, rfl, Nat.lt_succ_self _, fun j u hu => ?_⟩⟩
  have e1 : (⟨g, 0, none⟩ : Addr).add j = ⟨g, j, none⟩ := by unfold Addr.add; split <;> simp_all
  rw [e1]
  exact blk_cell h (by simpa using hu)

/-- A message of layer 16 as cells. -/
def pvC (xs : List Int) : Array Value := (xs.map (Value.int .i64)).toArray
theorem pvC_at {xs : List Int} {k : Nat} {x : Int} (h : xs[k]? = some x) : (pvC xs)[k]? = some (.int .i64 x) := by simp [pvC, h]
end Go.Proofs.YtmkidihcdljkiaaGreat

/-
  pvt.places, Values and Of walked (printed by gen_pvt6.py).
-/
set_option linter.unusedSimpArgs false
set_option linter.unusedVariables false
namespace Go.Proofs.YtmkidihcdljkiaaGreat
open Go.RowKit NumLaw
attribute [local go_sem] Addr.add_mid

/-- The numbers of a message, and the message of numbers. -/
def valsOf (xs : List Int) : List Int := xs.take 29 ++ [0] ++ xs.drop 29
theorem valsOf_len {xs : List Int} (h : xs.length = 32) : (valsOf xs).length = 33 := by simp [valsOf]; omega
theorem valsOf_at {xs : List Int} (h : xs.length = 32) (k : Nat) : (valsOf xs)[k]? = if k < 29 then xs[k]? else if k = 29 then some 0 else xs[k - 1]? := by
  have h1 : (xs.take 29).length = 29 := by simp; omega
  unfold valsOf
  rw [List.append_assoc]
  split
  · rename_i hk
    rw [List.getElem?_append_left (by omega), List.getElem?_take, if_pos hk]
  · rename_i hk
    rw [List.getElem?_append_right (by omega), h1]
    split
    · rename_i hk2; subst hk2; rfl
    · obtain ⟨j, rfl⟩ : ∃ j, k = j + 30 := ⟨k - 30, by omega⟩
      rw [show j + 30 - 29 = j + 1 by omega]
      show (0 :: xs.drop 29)[j + 1]? = _
      rw [List.getElem?_cons_succ, List.getElem?_drop]
      congr 1
      omega
def plc (g gn : Nat) : List Addr := [⟨g, 0, none⟩, ⟨g, 1, none⟩, ⟨g, 2, none⟩, ⟨g, 3, none⟩, ⟨g, 4, none⟩, ⟨g, 5, none⟩, ⟨g, 6, none⟩, ⟨g, 7, none⟩, ⟨g, 8, none⟩, ⟨g, 9, none⟩, ⟨g, 10, none⟩, ⟨g, 11, none⟩, ⟨g, 12, none⟩, ⟨g, 13, none⟩, ⟨g, 14, none⟩, ⟨g, 15, none⟩, ⟨g, 16, none⟩, ⟨g, 17, none⟩, ⟨g, 18, none⟩, ⟨g, 19, none⟩, ⟨g, 20, none⟩, ⟨g, 21, none⟩, ⟨g, 22, none⟩, ⟨g, 23, none⟩, ⟨g, 24, none⟩, ⟨g, 25, none⟩, ⟨g, 26, none⟩, ⟨g, 27, none⟩, ⟨g, 28, none⟩, ⟨gn, 0, none⟩, ⟨g, 29, none⟩, ⟨g, 30, none⟩, ⟨g, 31, none⟩]
theorem plc_at (g gn k : Nat) (p : Addr) (h : (plc g gn)[k]? = some p) : k < 33 ∧ p = if k < 29 then ⟨g, k, none⟩ else if k = 29 then ⟨gn, 0, none⟩ else ⟨g, k - 1, none⟩ := by
  have hk : k < 33 := by have := (List.getElem?_eq_some_iff.1 h).1; simpa [plc] using this
  refine ⟨hk, ?_⟩
  match k, hk with
  | 0, _ => simp [plc] at h; rw [← h]; rfl
  | 1, _ => simp [plc] at h; rw [← h]; rfl
  | 2, _ => simp [plc] at h; rw [← h]; rfl
  | 3, _ => simp [plc] at h; rw [← h]; rfl
  | 4, _ => simp [plc] at h; rw [← h]; rfl
  | 5, _ => simp [plc] at h; rw [← h]; rfl
  | 6, _ => simp [plc] at h; rw [← h]; rfl
  | 7, _ => simp [plc] at h; rw [← h]; rfl
  | 8, _ => simp [plc] at h; rw [← h]; rfl
  | 9, _ => simp [plc] at h; rw [← h]; rfl
  | 10, _ => simp [plc] at h; rw [← h]; rfl
  | 11, _ => simp [plc] at h; rw [← h]; rfl
  | 12, _ => simp [plc] at h; rw [← h]; rfl
  | 13, _ => simp [plc] at h; rw [← h]; rfl
  | 14, _ => simp [plc] at h; rw [← h]; rfl
  | 15, _ => simp [plc] at h; rw [← h]; rfl
  | 16, _ => simp [plc] at h; rw [← h]; rfl
  | 17, _ => simp [plc] at h; rw [← h]; rfl
  | 18, _ => simp [plc] at h; rw [← h]; rfl
  | 19, _ => simp [plc] at h; rw [← h]; rfl
  | 20, _ => simp [plc] at h; rw [← h]; rfl
  | 21, _ => simp [plc] at h; rw [← h]; rfl
  | 22, _ => simp [plc] at h; rw [← h]; rfl
  | 23, _ => simp [plc] at h; rw [← h]; rfl
  | 24, _ => simp [plc] at h; rw [← h]; rfl
  | 25, _ => simp [plc] at h; rw [← h]; rfl
  | 26, _ => simp [plc] at h; rw [← h]; rfl
  | 27, _ => simp [plc] at h; rw [← h]; rfl
  | 28, _ => simp [plc] at h; rw [← h]; rfl
  | 29, _ => simp [plc] at h; rw [← h]; rfl
  | 30, _ => simp [plc] at h; rw [← h]; rfl
  | 31, _ => simp [plc] at h; rw [← h]; rfl
  | 32, _ => simp [plc] at h; rw [← h]; rfl
set_option maxRecDepth 100000 in
set_option maxHeartbeats 4000000 in
theorem places_any (g gn : Nat) (w : World) : Calls Tryz.prog 128 #[.pointer (some ⟨g, 0, none⟩), .pointer (some ⟨gn, 0, none⟩)] w fun e w' => e = .returned (.slice (some ⟨w.heap.size, 0, none⟩) 33 33) ∧ w'.heap[w.heap.size]? = some (.cells ((plc g gn).map pv).toArray 190) ∧ Below w.heap.size w w' := by
  go_enter Tryz.func128, Tryz.ntmps128
  go_wp2_with fail
  simp only [List.append_eq, List.cons_append, List.nil_append]
  refine Ord.region_ (fun _ => True) false [] (by kernel_rfl) (by kernel_rfl) trivial ?_
  have hb0 : Below w.heap.size w w.drew := (Below.refl _ _).drew
  have hs0 : w.drew.heap.size = w.heap.size := rfl
  have Hs0 := Lib.hid hs0
  clear hs0
  generalize w.drew = w1 at *
  ((with_reducible refine Ord.e_p (v := ?_) ?_ ?_ ?_ ?_); rotate_left; (· exact rfl); (· kernel_rfl); (· intro w2; go_simp; try with_reducible rfl))
  (try simp only [Act.put, List.setIfInBounds_toArray, List.set_cons_zero, List.set_cons_succ])
  ((with_reducible refine Ord.e_p (v := ?_) ?_ ?_ ?_ ?_); rotate_left; (· exact rfl); (· kernel_rfl); (· intro w2; go_simp; try with_reducible rfl))
  (try simp only [Act.put, List.setIfInBounds_toArray, List.set_cons_zero, List.set_cons_succ])
  ((with_reducible refine Ord.e_p (v := ?_) ?_ ?_ ?_ ?_); rotate_left; (· exact rfl); (· kernel_rfl); (· intro w2; go_simp; try with_reducible rfl))
  (try simp only [Act.put, List.setIfInBounds_toArray, List.set_cons_zero, List.set_cons_succ])
  ((with_reducible refine Ord.e_p (v := ?_) ?_ ?_ ?_ ?_); rotate_left; (· exact rfl); (· kernel_rfl); (· intro w2; go_simp; try with_reducible rfl))
  (try simp only [Act.put, List.setIfInBounds_toArray, List.set_cons_zero, List.set_cons_succ])
  ((with_reducible refine Ord.e_p (v := ?_) ?_ ?_ ?_ ?_); rotate_left; (· exact rfl); (· kernel_rfl); (· intro w2; go_simp; try with_reducible rfl))
  (try simp only [Act.put, List.setIfInBounds_toArray, List.set_cons_zero, List.set_cons_succ])
  ((with_reducible refine Ord.e_p (v := ?_) ?_ ?_ ?_ ?_); rotate_left; (· exact rfl); (· kernel_rfl); (· intro w2; go_simp; try with_reducible rfl))
  (try simp only [Act.put, List.setIfInBounds_toArray, List.set_cons_zero, List.set_cons_succ])
  ((with_reducible refine Ord.e_p (v := ?_) ?_ ?_ ?_ ?_); rotate_left; (· exact rfl); (· kernel_rfl); (· intro w2; go_simp; try with_reducible rfl))
  (try simp only [Act.put, List.setIfInBounds_toArray, List.set_cons_zero, List.set_cons_succ])
  ((with_reducible refine Ord.e_p (v := ?_) ?_ ?_ ?_ ?_); rotate_left; (· exact rfl); (· kernel_rfl); (· intro w2; go_simp; try with_reducible rfl))
  (try simp only [Act.put, List.setIfInBounds_toArray, List.set_cons_zero, List.set_cons_succ])
  ((with_reducible refine Ord.e_p (v := ?_) ?_ ?_ ?_ ?_); rotate_left; (· exact rfl); (· kernel_rfl); (· intro w2; go_simp; try with_reducible rfl))
  (try simp only [Act.put, List.setIfInBounds_toArray, List.set_cons_zero, List.set_cons_succ])
  ((with_reducible refine Ord.e_p (v := ?_) ?_ ?_ ?_ ?_); rotate_left; (· exact rfl); (· kernel_rfl); (· intro w2; go_simp; try with_reducible rfl))
  (try simp only [Act.put, List.setIfInBounds_toArray, List.set_cons_zero, List.set_cons_succ])
  ((with_reducible refine Ord.e_p (v := ?_) ?_ ?_ ?_ ?_); rotate_left; (· exact rfl); (· kernel_rfl); (· intro w2; go_simp; try with_reducible rfl))
  (try simp only [Act.put, List.setIfInBounds_toArray, List.set_cons_zero, List.set_cons_succ])
  ((with_reducible refine Ord.e_p (v := ?_) ?_ ?_ ?_ ?_); rotate_left; (· exact rfl); (· kernel_rfl); (· intro w2; go_simp; try with_reducible rfl))
  (try simp only [Act.put, List.setIfInBounds_toArray, List.set_cons_zero, List.set_cons_succ])
  ((with_reducible refine Ord.e_p (v := ?_) ?_ ?_ ?_ ?_); rotate_left; (· exact rfl); (· kernel_rfl); (· intro w2; go_simp; try with_reducible rfl))
  (try simp only [Act.put, List.setIfInBounds_toArray, List.set_cons_zero, List.set_cons_succ])
  ((with_reducible refine Ord.e_p (v := ?_) ?_ ?_ ?_ ?_); rotate_left; (· exact rfl); (· kernel_rfl); (· intro w2; go_simp; try with_reducible rfl))
  (try simp only [Act.put, List.setIfInBounds_toArray, List.set_cons_zero, List.set_cons_succ])
  ((with_reducible refine Ord.e_p (v := ?_) ?_ ?_ ?_ ?_); rotate_left; (· exact rfl); (· kernel_rfl); (· intro w2; go_simp; try with_reducible rfl))
  (try simp only [Act.put, List.setIfInBounds_toArray, List.set_cons_zero, List.set_cons_succ])
  ((with_reducible refine Ord.e_p (v := ?_) ?_ ?_ ?_ ?_); rotate_left; (· exact rfl); (· kernel_rfl); (· intro w2; go_simp; try with_reducible rfl))
  (try simp only [Act.put, List.setIfInBounds_toArray, List.set_cons_zero, List.set_cons_succ])
  ((with_reducible refine Ord.e_p (v := ?_) ?_ ?_ ?_ ?_); rotate_left; (· exact rfl); (· kernel_rfl); (· intro w2; go_simp; try with_reducible rfl))
  (try simp only [Act.put, List.setIfInBounds_toArray, List.set_cons_zero, List.set_cons_succ])
  ((with_reducible refine Ord.e_p (v := ?_) ?_ ?_ ?_ ?_); rotate_left; (· exact rfl); (· kernel_rfl); (· intro w2; go_simp; try with_reducible rfl))
  (try simp only [Act.put, List.setIfInBounds_toArray, List.set_cons_zero, List.set_cons_succ])
  ((with_reducible refine Ord.e_p (v := ?_) ?_ ?_ ?_ ?_); rotate_left; (· exact rfl); (· kernel_rfl); (· intro w2; go_simp; try with_reducible rfl))
  (try simp only [Act.put, List.setIfInBounds_toArray, List.set_cons_zero, List.set_cons_succ])
  ((with_reducible refine Ord.e_p (v := ?_) ?_ ?_ ?_ ?_); rotate_left; (· exact rfl); (· kernel_rfl); (· intro w2; go_simp; try with_reducible rfl))
  (try simp only [Act.put, List.setIfInBounds_toArray, List.set_cons_zero, List.set_cons_succ])
  ((with_reducible refine Ord.e_p (v := ?_) ?_ ?_ ?_ ?_); rotate_left; (· exact rfl); (· kernel_rfl); (· intro w2; go_simp; try with_reducible rfl))
  (try simp only [Act.put, List.setIfInBounds_toArray, List.set_cons_zero, List.set_cons_succ])
  ((with_reducible refine Ord.e_p (v := ?_) ?_ ?_ ?_ ?_); rotate_left; (· exact rfl); (· kernel_rfl); (· intro w2; go_simp; try with_reducible rfl))
  (try simp only [Act.put, List.setIfInBounds_toArray, List.set_cons_zero, List.set_cons_succ])
  ((with_reducible refine Ord.e_p (v := ?_) ?_ ?_ ?_ ?_); rotate_left; (· exact rfl); (· kernel_rfl); (· intro w2; go_simp; try with_reducible rfl))
  (try simp only [Act.put, List.setIfInBounds_toArray, List.set_cons_zero, List.set_cons_succ])
  ((with_reducible refine Ord.e_p (v := ?_) ?_ ?_ ?_ ?_); rotate_left; (· exact rfl); (· kernel_rfl); (· intro w2; go_simp; try with_reducible rfl))
  (try simp only [Act.put, List.setIfInBounds_toArray, List.set_cons_zero, List.set_cons_succ])
  ((with_reducible refine Ord.e_p (v := ?_) ?_ ?_ ?_ ?_); rotate_left; (· exact rfl); (· kernel_rfl); (· intro w2; go_simp; try with_reducible rfl))
  (try simp only [Act.put, List.setIfInBounds_toArray, List.set_cons_zero, List.set_cons_succ])
  ((with_reducible refine Ord.e_p (v := ?_) ?_ ?_ ?_ ?_); rotate_left; (· exact rfl); (· kernel_rfl); (· intro w2; go_simp; try with_reducible rfl))
  (try simp only [Act.put, List.setIfInBounds_toArray, List.set_cons_zero, List.set_cons_succ])
  ((with_reducible refine Ord.e_p (v := ?_) ?_ ?_ ?_ ?_); rotate_left; (· exact rfl); (· kernel_rfl); (· intro w2; go_simp; try with_reducible rfl))
  (try simp only [Act.put, List.setIfInBounds_toArray, List.set_cons_zero, List.set_cons_succ])
  ((with_reducible refine Ord.e_p (v := ?_) ?_ ?_ ?_ ?_); rotate_left; (· exact rfl); (· kernel_rfl); (· intro w2; go_simp; try with_reducible rfl))
  (try simp only [Act.put, List.setIfInBounds_toArray, List.set_cons_zero, List.set_cons_succ])
  ((with_reducible refine Ord.e_p (v := ?_) ?_ ?_ ?_ ?_); rotate_left; (· exact rfl); (· kernel_rfl); (· intro w2; go_simp; try with_reducible rfl))
  (try simp only [Act.put, List.setIfInBounds_toArray, List.set_cons_zero, List.set_cons_succ])
  ((with_reducible refine Ord.e_p (v := ?_) ?_ ?_ ?_ ?_); rotate_left; (· exact rfl); (· kernel_rfl); (· intro w2; go_simp; try with_reducible rfl))
  (try simp only [Act.put, List.setIfInBounds_toArray, List.set_cons_zero, List.set_cons_succ])
  ((with_reducible refine Ord.e_p (v := ?_) ?_ ?_ ?_ ?_); rotate_left; (· exact rfl); (· kernel_rfl); (· intro w2; go_simp; try with_reducible rfl))
  (try simp only [Act.put, List.setIfInBounds_toArray, List.set_cons_zero, List.set_cons_succ])
  ((with_reducible refine Ord.e_p (v := ?_) ?_ ?_ ?_ ?_); rotate_left; (· exact rfl); (· kernel_rfl); (· intro w2; go_simp; try with_reducible rfl))
  (try simp only [Act.put, List.setIfInBounds_toArray, List.set_cons_zero, List.set_cons_succ])
  ((with_reducible refine Ord.e_p (v := ?_) ?_ ?_ ?_ ?_); rotate_left; (· exact rfl); (· kernel_rfl); (· intro w2; go_simp; try with_reducible rfl))
  (try simp only [Act.put, List.setIfInBounds_toArray, List.set_cons_zero, List.set_cons_succ])
  ((with_reducible refine Ord.e_p (v := ?_) ?_ ?_ ?_ ?_); rotate_left; (· exact rfl); (· kernel_rfl); (· intro w2; go_simp; try with_reducible rfl))
  (try simp only [Act.put, List.setIfInBounds_toArray, List.set_cons_zero, List.set_cons_succ])
  ((with_reducible refine Ord.e_p (v := ?_) ?_ ?_ ?_ ?_); rotate_left; (· exact rfl); (· kernel_rfl); (· intro w2; go_simp; try with_reducible rfl))
  (try simp only [Act.put, List.setIfInBounds_toArray, List.set_cons_zero, List.set_cons_succ])
  ((with_reducible refine Ord.e_p (v := ?_) ?_ ?_ ?_ ?_); rotate_left; (· exact rfl); (· kernel_rfl); (· intro w2; go_simp; try with_reducible rfl))
  (try simp only [Act.put, List.setIfInBounds_toArray, List.set_cons_zero, List.set_cons_succ])
  ((with_reducible refine Ord.e_p (v := ?_) ?_ ?_ ?_ ?_); rotate_left; (· exact rfl); (· kernel_rfl); (· intro w2; go_simp; try with_reducible rfl))
  (try simp only [Act.put, List.setIfInBounds_toArray, List.set_cons_zero, List.set_cons_succ])
  ((with_reducible refine Ord.e_p (v := ?_) ?_ ?_ ?_ ?_); rotate_left; (· exact rfl); (· kernel_rfl); (· intro w2; go_simp; try with_reducible rfl))
  (try simp only [Act.put, List.setIfInBounds_toArray, List.set_cons_zero, List.set_cons_succ])
  ((with_reducible refine Ord.e_p (v := ?_) ?_ ?_ ?_ ?_); rotate_left; (· exact rfl); (· kernel_rfl); (· intro w2; go_simp; try with_reducible rfl))
  (try simp only [Act.put, List.setIfInBounds_toArray, List.set_cons_zero, List.set_cons_succ])
  ((with_reducible refine Ord.e_p (v := ?_) ?_ ?_ ?_ ?_); rotate_left; (· exact rfl); (· kernel_rfl); (· intro w2; go_simp; try with_reducible rfl))
  (try simp only [Act.put, List.setIfInBounds_toArray, List.set_cons_zero, List.set_cons_succ])
  ((with_reducible refine Ord.e_p (v := ?_) ?_ ?_ ?_ ?_); rotate_left; (· exact rfl); (· kernel_rfl); (· intro w2; go_simp; try with_reducible rfl))
  (try simp only [Act.put, List.setIfInBounds_toArray, List.set_cons_zero, List.set_cons_succ])
  ((with_reducible refine Ord.e_p (v := ?_) ?_ ?_ ?_ ?_); rotate_left; (· exact rfl); (· kernel_rfl); (· intro w2; go_simp; try with_reducible rfl))
  (try simp only [Act.put, List.setIfInBounds_toArray, List.set_cons_zero, List.set_cons_succ])
  ((with_reducible refine Ord.e_p (v := ?_) ?_ ?_ ?_ ?_); rotate_left; (· exact rfl); (· kernel_rfl); (· intro w2; go_simp; try with_reducible rfl))
  (try simp only [Act.put, List.setIfInBounds_toArray, List.set_cons_zero, List.set_cons_succ])
  ((with_reducible refine Ord.e_p (v := ?_) ?_ ?_ ?_ ?_); rotate_left; (· exact rfl); (· kernel_rfl); (· intro w2; go_simp; try with_reducible rfl))
  (try simp only [Act.put, List.setIfInBounds_toArray, List.set_cons_zero, List.set_cons_succ])
  ((with_reducible refine Ord.e_p (v := ?_) ?_ ?_ ?_ ?_); rotate_left; (· exact rfl); (· kernel_rfl); (· intro w2; go_simp; try with_reducible rfl))
  (try simp only [Act.put, List.setIfInBounds_toArray, List.set_cons_zero, List.set_cons_succ])
  ((with_reducible refine Ord.e_p (v := ?_) ?_ ?_ ?_ ?_); rotate_left; (· exact rfl); (· kernel_rfl); (· intro w2; go_simp; try with_reducible rfl))
  (try simp only [Act.put, List.setIfInBounds_toArray, List.set_cons_zero, List.set_cons_succ])
  ((with_reducible refine Ord.e_p (v := ?_) ?_ ?_ ?_ ?_); rotate_left; (· exact rfl); (· kernel_rfl); (· intro w2; go_simp; try with_reducible rfl))
  (try simp only [Act.put, List.setIfInBounds_toArray, List.set_cons_zero, List.set_cons_succ])
  ((with_reducible refine Ord.e_p (v := ?_) ?_ ?_ ?_ ?_); rotate_left; (· exact rfl); (· kernel_rfl); (· intro w2; go_simp; try with_reducible rfl))
  (try simp only [Act.put, List.setIfInBounds_toArray, List.set_cons_zero, List.set_cons_succ])
  ((with_reducible refine Ord.e_p (v := ?_) ?_ ?_ ?_ ?_); rotate_left; (· exact rfl); (· kernel_rfl); (· intro w2; go_simp; try with_reducible rfl))
  (try simp only [Act.put, List.setIfInBounds_toArray, List.set_cons_zero, List.set_cons_succ])
  ((with_reducible refine Ord.e_p (v := ?_) ?_ ?_ ?_ ?_); rotate_left; (· exact rfl); (· kernel_rfl); (· intro w2; go_simp; try with_reducible rfl))
  (try simp only [Act.put, List.setIfInBounds_toArray, List.set_cons_zero, List.set_cons_succ])
  ((with_reducible refine Ord.e_p (v := ?_) ?_ ?_ ?_ ?_); rotate_left; (· exact rfl); (· kernel_rfl); (· intro w2; go_simp; try with_reducible rfl))
  (try simp only [Act.put, List.setIfInBounds_toArray, List.set_cons_zero, List.set_cons_succ])
  ((with_reducible refine Ord.e_p (v := ?_) ?_ ?_ ?_ ?_); rotate_left; (· exact rfl); (· kernel_rfl); (· intro w2; go_simp; try with_reducible rfl))
  (try simp only [Act.put, List.setIfInBounds_toArray, List.set_cons_zero, List.set_cons_succ])
  ((with_reducible refine Ord.e_p (v := ?_) ?_ ?_ ?_ ?_); rotate_left; (· exact rfl); (· kernel_rfl); (· intro w2; go_simp; try with_reducible rfl))
  (try simp only [Act.put, List.setIfInBounds_toArray, List.set_cons_zero, List.set_cons_succ])
  ((with_reducible refine Ord.e_p (v := ?_) ?_ ?_ ?_ ?_); rotate_left; (· exact rfl); (· kernel_rfl); (· intro w2; go_simp; try with_reducible rfl))
  (try simp only [Act.put, List.setIfInBounds_toArray, List.set_cons_zero, List.set_cons_succ])
  ((with_reducible refine Ord.e_p (v := ?_) ?_ ?_ ?_ ?_); rotate_left; (· exact rfl); (· kernel_rfl); (· intro w2; go_simp; try with_reducible rfl))
  (try simp only [Act.put, List.setIfInBounds_toArray, List.set_cons_zero, List.set_cons_succ])
  ((with_reducible refine Ord.e_p (v := ?_) ?_ ?_ ?_ ?_); rotate_left; (· exact rfl); (· kernel_rfl); (· intro w2; go_simp; try with_reducible rfl))
  (try simp only [Act.put, List.setIfInBounds_toArray, List.set_cons_zero, List.set_cons_succ])
  ((with_reducible refine Ord.e_p (v := ?_) ?_ ?_ ?_ ?_); rotate_left; (· exact rfl); (· kernel_rfl); (· intro w2; go_simp; try with_reducible rfl))
  (try simp only [Act.put, List.setIfInBounds_toArray, List.set_cons_zero, List.set_cons_succ])
  ((with_reducible refine Ord.e_p (v := ?_) ?_ ?_ ?_ ?_); rotate_left; (· exact rfl); (· kernel_rfl); (· intro w2; go_simp; try with_reducible rfl))
  (try simp only [Act.put, List.setIfInBounds_toArray, List.set_cons_zero, List.set_cons_succ])
  ((with_reducible refine Ord.e_p (v := ?_) ?_ ?_ ?_ ?_); rotate_left; (· exact rfl); (· kernel_rfl); (· intro w2; go_simp; try with_reducible rfl))
  (try simp only [Act.put, List.setIfInBounds_toArray, List.set_cons_zero, List.set_cons_succ])
  ((with_reducible refine Ord.e_p (v := ?_) ?_ ?_ ?_ ?_); rotate_left; (· exact rfl); (· kernel_rfl); (· intro w2; go_simp; try with_reducible rfl))
  (try simp only [Act.put, List.setIfInBounds_toArray, List.set_cons_zero, List.set_cons_succ])
  ((with_reducible refine Ord.e_p (v := ?_) ?_ ?_ ?_ ?_); rotate_left; (· exact rfl); (· kernel_rfl); (· intro w2; go_simp; try with_reducible rfl))
  (try simp only [Act.put, List.setIfInBounds_toArray, List.set_cons_zero, List.set_cons_succ])
  ((with_reducible refine Ord.e_p (v := ?_) ?_ ?_ ?_ ?_); rotate_left; (· exact rfl); (· kernel_rfl); (· intro w2; go_simp; try with_reducible rfl))
  (try simp only [Act.put, List.setIfInBounds_toArray, List.set_cons_zero, List.set_cons_succ])
  ((with_reducible refine Ord.e_p (v := ?_) ?_ ?_ ?_ ?_); rotate_left; (· exact rfl); (· kernel_rfl); (· intro w2; go_simp; try with_reducible rfl))
  (try simp only [Act.put, List.setIfInBounds_toArray, List.set_cons_zero, List.set_cons_succ])
  ((with_reducible refine Ord.e_p (v := ?_) ?_ ?_ ?_ ?_); rotate_left; (· exact rfl); (· kernel_rfl); (· intro w2; go_simp; try with_reducible rfl))
  (try simp only [Act.put, List.setIfInBounds_toArray, List.set_cons_zero, List.set_cons_succ])
  ((with_reducible refine Ord.e_p (v := ?_) ?_ ?_ ?_ ?_); rotate_left; (· exact rfl); (· kernel_rfl); (· intro w2; go_simp; try with_reducible rfl))
  (try simp only [Act.put, List.setIfInBounds_toArray, List.set_cons_zero, List.set_cons_succ])
  ((with_reducible refine Ord.e_p (v := ?_) ?_ ?_ ?_ ?_); rotate_left; (· exact rfl); (· kernel_rfl); (· intro w2; go_simp; try with_reducible rfl))
  (try simp only [Act.put, List.setIfInBounds_toArray, List.set_cons_zero, List.set_cons_succ])
  ((with_reducible refine Ord.e_p (v := ?_) ?_ ?_ ?_ ?_); rotate_left; (· exact rfl); (· kernel_rfl); (· intro w2; go_simp; try with_reducible rfl))
  (try simp only [Act.put, List.setIfInBounds_toArray, List.set_cons_zero, List.set_cons_succ])
  ((with_reducible refine Ord.e_p (v := ?_) ?_ ?_ ?_ ?_); rotate_left; (· exact rfl); (· kernel_rfl); (· intro w2; go_simp; try with_reducible rfl))
  (try simp only [Act.put, List.setIfInBounds_toArray, List.set_cons_zero, List.set_cons_succ])
  ((with_reducible refine Ord.e_p (v := ?_) ?_ ?_ ?_ ?_); rotate_left; (· exact rfl); (· kernel_rfl); (· intro w2; go_simp; try with_reducible rfl))
  (try simp only [Act.put, List.setIfInBounds_toArray, List.set_cons_zero, List.set_cons_succ])
  ((with_reducible refine Ord.e_p (v := ?_) ?_ ?_ ?_ ?_); rotate_left; (· exact rfl); (· kernel_rfl); (· intro w2; go_simp; try with_reducible rfl))
  (try simp only [Act.put, List.setIfInBounds_toArray, List.set_cons_zero, List.set_cons_succ])
  ((with_reducible refine Ord.e_p (v := ?_) ?_ ?_ ?_ ?_); rotate_left; (· exact rfl); (· kernel_rfl); (· intro w2; go_simp; try with_reducible rfl))
  (try simp only [Act.put, List.setIfInBounds_toArray, List.set_cons_zero, List.set_cons_succ])
  ((with_reducible refine Ord.e_p (v := ?_) ?_ ?_ ?_ ?_); rotate_left; (· exact rfl); (· kernel_rfl); (· intro w2; go_simp; try with_reducible rfl))
  (try simp only [Act.put, List.setIfInBounds_toArray, List.set_cons_zero, List.set_cons_succ])
  ((with_reducible refine Ord.e_p (v := ?_) ?_ ?_ ?_ ?_); rotate_left; (· exact rfl); (· kernel_rfl); (· intro w2; go_simp; try with_reducible rfl))
  (try simp only [Act.put, List.setIfInBounds_toArray, List.set_cons_zero, List.set_cons_succ])
  ((with_reducible refine Ord.e_p (v := ?_) ?_ ?_ ?_ ?_); rotate_left; (· exact rfl); (· kernel_rfl); (· intro w2; go_simp; try with_reducible rfl))
  (try simp only [Act.put, List.setIfInBounds_toArray, List.set_cons_zero, List.set_cons_succ])
  ((with_reducible refine Ord.e_p (v := ?_) ?_ ?_ ?_ ?_); rotate_left; (· exact rfl); (· kernel_rfl); (· intro w2; go_simp; try with_reducible rfl))
  (try simp only [Act.put, List.setIfInBounds_toArray, List.set_cons_zero, List.set_cons_succ])
  ((with_reducible refine Ord.e_p (v := ?_) ?_ ?_ ?_ ?_); rotate_left; (· exact rfl); (· kernel_rfl); (· intro w2; go_simp; try with_reducible rfl))
  (try simp only [Act.put, List.setIfInBounds_toArray, List.set_cons_zero, List.set_cons_succ])
  ((with_reducible refine Ord.e_p (v := ?_) ?_ ?_ ?_ ?_); rotate_left; (· exact rfl); (· kernel_rfl); (· intro w2; go_simp; try with_reducible rfl))
  (try simp only [Act.put, List.setIfInBounds_toArray, List.set_cons_zero, List.set_cons_succ])
  ((with_reducible refine Ord.e_p (v := ?_) ?_ ?_ ?_ ?_); rotate_left; (· exact rfl); (· kernel_rfl); (· intro w2; go_simp; try with_reducible rfl))
  (try simp only [Act.put, List.setIfInBounds_toArray, List.set_cons_zero, List.set_cons_succ])
  ((with_reducible refine Ord.e_p (v := ?_) ?_ ?_ ?_ ?_); rotate_left; (· exact rfl); (· kernel_rfl); (· intro w2; go_simp; try with_reducible rfl))
  (try simp only [Act.put, List.setIfInBounds_toArray, List.set_cons_zero, List.set_cons_succ])
  ((with_reducible refine Ord.e_p (v := ?_) ?_ ?_ ?_ ?_); rotate_left; (· exact rfl); (· kernel_rfl); (· intro w2; go_simp; try with_reducible rfl))
  (try simp only [Act.put, List.setIfInBounds_toArray, List.set_cons_zero, List.set_cons_succ])
  ((with_reducible refine Ord.e_p (v := ?_) ?_ ?_ ?_ ?_); rotate_left; (· exact rfl); (· kernel_rfl); (· intro w2; go_simp; try with_reducible rfl))
  (try simp only [Act.put, List.setIfInBounds_toArray, List.set_cons_zero, List.set_cons_succ])
  ((with_reducible refine Ord.e_p (v := ?_) ?_ ?_ ?_ ?_); rotate_left; (· exact rfl); (· kernel_rfl); (· intro w2; go_simp; try with_reducible rfl))
  (try simp only [Act.put, List.setIfInBounds_toArray, List.set_cons_zero, List.set_cons_succ])
  ((with_reducible refine Ord.e_p (v := ?_) ?_ ?_ ?_ ?_); rotate_left; (· exact rfl); (· kernel_rfl); (· intro w2; go_simp; try with_reducible rfl))
  (try simp only [Act.put, List.setIfInBounds_toArray, List.set_cons_zero, List.set_cons_succ])
  ((with_reducible refine Ord.e_p (v := ?_) ?_ ?_ ?_ ?_); rotate_left; (· exact rfl); (· kernel_rfl); (· intro w2; go_simp; try with_reducible rfl))
  (try simp only [Act.put, List.setIfInBounds_toArray, List.set_cons_zero, List.set_cons_succ])
  ((with_reducible refine Ord.e_p (v := ?_) ?_ ?_ ?_ ?_); rotate_left; (· exact rfl); (· kernel_rfl); (· intro w2; go_simp; try with_reducible rfl))
  (try simp only [Act.put, List.setIfInBounds_toArray, List.set_cons_zero, List.set_cons_succ])
  ((with_reducible refine Ord.e_p (v := ?_) ?_ ?_ ?_ ?_); rotate_left; (· exact rfl); (· kernel_rfl); (· intro w2; go_simp; try with_reducible rfl))
  (try simp only [Act.put, List.setIfInBounds_toArray, List.set_cons_zero, List.set_cons_succ])
  ((with_reducible refine Ord.e_p (v := ?_) ?_ ?_ ?_ ?_); rotate_left; (· exact rfl); (· kernel_rfl); (· intro w2; go_simp; try with_reducible rfl))
  (try simp only [Act.put, List.setIfInBounds_toArray, List.set_cons_zero, List.set_cons_succ])
  ((with_reducible refine Ord.e_p (v := ?_) ?_ ?_ ?_ ?_); rotate_left; (· exact rfl); (· kernel_rfl); (· intro w2; go_simp; try with_reducible rfl))
  (try simp only [Act.put, List.setIfInBounds_toArray, List.set_cons_zero, List.set_cons_succ])
  ((with_reducible refine Ord.e_p (v := ?_) ?_ ?_ ?_ ?_); rotate_left; (· exact rfl); (· kernel_rfl); (· intro w2; go_simp; try with_reducible rfl))
  (try simp only [Act.put, List.setIfInBounds_toArray, List.set_cons_zero, List.set_cons_succ])
  ((with_reducible refine Ord.e_p (v := ?_) ?_ ?_ ?_ ?_); rotate_left; (· exact rfl); (· kernel_rfl); (· intro w2; go_simp; try with_reducible rfl))
  (try simp only [Act.put, List.setIfInBounds_toArray, List.set_cons_zero, List.set_cons_succ])
  ((with_reducible refine Ord.e_p (v := ?_) ?_ ?_ ?_ ?_); rotate_left; (· exact rfl); (· kernel_rfl); (· intro w2; go_simp; try with_reducible rfl))
  (try simp only [Act.put, List.setIfInBounds_toArray, List.set_cons_zero, List.set_cons_succ])
  ((with_reducible refine Ord.e_p (v := ?_) ?_ ?_ ?_ ?_); rotate_left; (· exact rfl); (· kernel_rfl); (· intro w2; go_simp; try with_reducible rfl))
  (try simp only [Act.put, List.setIfInBounds_toArray, List.set_cons_zero, List.set_cons_succ])
  ((with_reducible refine Ord.e_p (v := ?_) ?_ ?_ ?_ ?_); rotate_left; (· exact rfl); (· kernel_rfl); (· intro w2; go_simp; try with_reducible rfl))
  (try simp only [Act.put, List.setIfInBounds_toArray, List.set_cons_zero, List.set_cons_succ])
  ((with_reducible refine Ord.e_p (v := ?_) ?_ ?_ ?_ ?_); rotate_left; (· exact rfl); (· kernel_rfl); (· intro w2; go_simp; try with_reducible rfl))
  (try simp only [Act.put, List.setIfInBounds_toArray, List.set_cons_zero, List.set_cons_succ])
  ((with_reducible refine Ord.e_p (v := ?_) ?_ ?_ ?_ ?_); rotate_left; (· exact rfl); (· kernel_rfl); (· intro w2; go_simp; try with_reducible rfl))
  (try simp only [Act.put, List.setIfInBounds_toArray, List.set_cons_zero, List.set_cons_succ])
  ((with_reducible refine Ord.e_p (v := ?_) ?_ ?_ ?_ ?_); rotate_left; (· exact rfl); (· kernel_rfl); (· intro w2; go_simp; try with_reducible rfl))
  (try simp only [Act.put, List.setIfInBounds_toArray, List.set_cons_zero, List.set_cons_succ])
  ((with_reducible refine Ord.e_p (v := ?_) ?_ ?_ ?_ ?_); rotate_left; (· exact rfl); (· kernel_rfl); (· intro w2; go_simp; try with_reducible rfl))
  (try simp only [Act.put, List.setIfInBounds_toArray, List.set_cons_zero, List.set_cons_succ])
  refine Ord.e_x rfl (by kernel_rfl) ?_
  go_wp2
  have hn := heap_alloc_new w1 (.cells ((plc g gn).map pv).toArray 190)
  rw [Hs0.out] at hn
  have hbn := hb0.alloc hb0.size (.cells ((plc g gn).map pv).toArray 190)
  refine Ord.Seg.go trivial (fun h => by cases h) ?_
  (try simp only [Act.put, List.setIfInBounds_toArray, List.set_cons_zero, List.set_cons_succ])
  rw [Hs0.out]
  ((with_reducible refine Ord.e_p (v := ?_) ?_ ?_ ?_ ?_); rotate_left; (· exact rfl); (· kernel_rfl); (· intro w2; go_simp; try with_reducible rfl))
  (try simp only [Act.put, List.setIfInBounds_toArray, List.set_cons_zero, List.set_cons_succ])
  refine Ord.e_nil ?_
  go_wp2
  go_ret
  exact ⟨rfl, hn, hbn⟩

theorem i64s_one (vs : List Int) : ∀ u ∈ vs.map (Value.int .i64), u.oneCell' = true := by
  intro u hu
  obtain ⟨x, _, rfl⟩ := List.mem_map.1 hu
  rfl
/-- What Values gathers: the cell of the slice, the numbers by now. -/
def VaI (gO base : Nat) (xs : List Int) (w1 : World) (k : Nat) (w' : World) : Prop :=
  ∃ A c, w'.heap[gO]? = some (.cells #[.slice A k c] 96) ∧ w'.ownsRow base 2 1 (.slice A k c) k (((valsOf xs).take k).map (Value.int .i64)) ∧ Below gO w1 w' ∧ (∀ b, gO < b → b < base → w'.heap[b]? = w1.heap[b]?) ∧ base ≤ w'.heap.size
set_option maxRecDepth 10000 in
set_option maxHeartbeats 2000000 in
theorem values1_any (k gO base : Nat) (p : Addr) (x : Int) (A : Option Addr) (c : Nat) (l : List Int) (w : World) (hk : k < 1000) (hp : w.cell? p = some (.int .i64 x)) (hO : w.heap[gO]? = some (.cells #[.slice A k c] 96))
    (hown : w.ownsRow base 2 1 (.slice A k c) k (l.map (Value.int .i64))) (hg : gO < base) (hbase : base ≤ w.heap.size) :
    Calls Tryz.prog 127 #[.int .i64 k, .pointer (some p), .pointer (some ⟨gO, 0, none⟩)] w fun e w' => e = .returned (.tuple #[]) ∧ ∃ A' c', w'.heap[gO]? = some (.cells #[.slice A' (k + 1) c'] 96) ∧
      w'.ownsRow base 2 1 (.slice A' (k + 1) c') (k + 1) ((l ++ [x]).map (Value.int .i64)) ∧ (∀ b, b < base → b ≠ gO → w'.heap[b]? = w.heap[b]?) ∧ w.heap.size ≤ w'.heap.size ∧ Below gO w w' := by
  obtain ⟨i0, hi⟩ := info_parts i64_info
  have Hi := Lib.hid hi
  have c1 := blk_cell (i := 0) (v := .slice A k c) hO rfl
  have hlO := blk_lt hO
  clear hi
  go_enter Tryz.func127, Tryz.ntmps127
  go_wp2_with fail
  refine Ord.region_ (fun _ => True) true [5, 8] (by kernel_rfl) (by kernel_rfl) trivial ?_
  have hb0 : Below w.heap.size w w.drew := (Below.refl _ _).drew
  replace c1 : w.drew.cell? ⟨gO, 0, none⟩ = some (.slice A k c) := c1
  replace hp : w.drew.cell? p = some (.int .i64 x) := hp
  replace hO : w.drew.heap[gO]? = _ := hO
  have hown1 := own_up hown ((Below.refl w.heap.size w).drew) (Nat.le_refl _)
  generalize w.drew = w1 at *
  refine Ord.e_load Tryz.underlying96 rfl c1 rfl (by kernel_rfl) (by kernel_rfl) ?_
  (try simp only [Act.put, List.setIfInBounds_toArray, List.set_cons_zero, List.set_cons_succ])
  ((with_reducible refine Ord.e_p (v := ?_) ?_ ?_ ?_ ?_); rotate_left; (· exact rfl); (· kernel_rfl); (· intro w2; go_simp; try with_reducible rfl))
  ((with_reducible refine Ord.e_p (v := ?_) ?_ ?_ ?_ ?_); rotate_left; (· exact rfl); (· kernel_rfl); (· intro w2; go_simp; try with_reducible rfl))
  refine Ord.e_load Tryz.underlying2 rfl hp rfl (by kernel_rfl) (by kernel_rfl) ?_
  (try simp only [Act.put, List.setIfInBounds_toArray, List.set_cons_zero, List.set_cons_succ])
  refine Ord.e_x rfl (by kernel_rfl) ?_
  go_wp2
  have hbl : Below w1.heap.size w1 (w1.alloc (.cells #[.int .i64 x] 2)) := (Below.refl _ _).alloc (Nat.le_refl _) _
  refine Ord.Seg.go trivial (fun _ => hbl) ?_
  (try simp only [Act.put, List.setIfInBounds_toArray, List.set_cons_zero, List.set_cons_succ])
  have hnew : Rd (w1.alloc (.cells #[.int .i64 x] 2)) (w1.heap.size + 1) 1 (some ⟨w1.heap.size, 0, none⟩) 1 1 ([x].map (Value.int .i64)) := rd_lit' w1 2 [.int .i64 x] (by simp [maxLen])
  have hown2 := own_up hown1 hbl (Nat.le_refl _)
  have hb2 := bnx hb0 hbl
  have hO2 := blk_old hO hbl (blk_lt hO)
  generalize (w1.alloc (.cells #[.int .i64 x] 2)) = w2 at *
  refine Ord.e_x rfl (by kernel_rfl) ?_
  refine wpList_app (base := base) Tryz.underlying96 Hi.out rfl (by omega) hown2 rfl hnew rfl (i64s_one _) (k := k + 1) (ys := (l ++ [x]).map (Value.int .i64)) rfl (by rw [List.map_append]) (by unfold maxLen; omega) (by omega) (by have := hb2.size; omega) ?_
  intro A4 c4 w4 hown4 hup
  have hb4 := hup (hb2.mono hbase) (by have := hb2.size; omega) (Nat.le_refl _)
  have hs4 : w.heap.size ≤ w4.heap.size := Nat.le_trans hb2.size (hup (Below.refl base _) (by have := hb2.size; omega) (Nat.le_refl _)).size
  have hO4 := blk_old hO2 (hup (Below.refl base _) (by have := hb2.size; omega) (Nat.le_refl _)) hg
  clear hup hown2 hnew hb2 hO2 hbl hown1
  go_wp2_with fail
  refine Ord.Seg.go trivial (fun h => by cases h) ?_
  (try simp only [Act.put, List.setIfInBounds_toArray, List.set_cons_zero, List.set_cons_succ])
  have s1 := blk_cell (i := 0) (v := .slice A k c) hO4 rfl
  have s2 := blk_free (i := 0) hO4
  have hO5 := blk_set (i := 0) hO4 (.slice A4 (k + 1) c4)
  have hown5 := own_set hown4 hg (i := 0) (.slice A4 (k + 1) c4)
  have hA5 := ((Aw.refl (fun b => b = gO) w4).set (p := ⟨gO, 0, none⟩) (.slice A4 (k + 1) c4) rfl)
  refine Ord.e_x rfl (by kernel_rfl) ?_
  go_wp2
  refine Ord.Seg.go trivial (fun h => by cases h) ?_
  (try simp only [Act.put, List.setIfInBounds_toArray, List.set_cons_zero, List.set_cons_succ])
  refine Ord.e_nil ?_
  generalize (w4.setCell ⟨gO, 0, none⟩ (.slice A4 (k + 1) c4)) = w5 at *
  clear s1 s2 c1
  go_wp2
  ((try simp only [Exit.inBlock, Exit.then]); refine bodyPost_end (results_none rfl _ _ _) rfl ?_)
  refine ⟨rfl, A4, c4, hO5, hown5, fun b hb hne => (hA5.block b (by omega) hne).trans (hb4.block b hb), by have := hA5.size; omega, ?_⟩
  exact (hb4.mono (by omega)).trans ⟨hA5.os, hA5.tape, hA5.output, hA5.size, fun b hb => hA5.block b (by omega) (by omega)⟩

end Go.Proofs.YtmkidihcdljkiaaGreat

/-
  pvt.Values and Of walked.
-/
set_option linter.unusedSimpArgs false
set_option linter.unusedVariables false
namespace Go.Proofs.YtmkidihcdljkiaaGreat
open Go.RowKit NumLaw
attribute [local go_sem] Addr.add_mid

/-- Numbers in new memory. -/
def RetV (vs : List Int) (w : World) (e : Ending) (w' : World) : Prop :=
  ∃ A n c, e = .returned (.slice A n c) ∧ w'.ownsRow w.heap.size 2 1 (.slice A n c) n (vs.map (Value.int .i64)) ∧ Below w.heap.size w w'
theorem place_val {xs : List Int} {g gn k : Nat} {p : Addr} {w : World} (hl : xs.length = 32) (hp : (plc g gn)[k]? = some p) (hg : w.heap[g]? = some (.cells (pvC xs) 23)) (hn : w.heap[gn]? = some (.cells #[.int .i64 0] 2)) :
    ∃ v, (valsOf xs)[k]? = some v ∧ w.cell? p = some (.int .i64 v) := by
  obtain ⟨hk, hpe⟩ := plc_at g gn k p hp
  have hv := valsOf_at hl k
  split at hpe
  · rename_i h
    rw [if_pos h] at hv
    have hlt : k < xs.length := by omega
    rw [List.getElem?_eq_getElem hlt] at hv
    exact ⟨_, hv, by rw [hpe]; exact blk_cell hg (pvC_at (List.getElem?_eq_getElem hlt))⟩
  · rename_i h
    rw [if_neg h] at hv
    split at hpe
    · rename_i h2
      rw [if_pos h2] at hv
      exact ⟨_, hv, by rw [hpe]; exact blk_cell hn rfl⟩
    · rename_i h2
      rw [if_neg h2] at hv
      have hlt : k - 1 < xs.length := by omega
      rw [List.getElem?_eq_getElem hlt] at hv
      exact ⟨_, hv, by rw [hpe]; exact blk_cell hg (pvC_at (List.getElem?_eq_getElem hlt))⟩
theorem values_step (g : Nat) (xs : List Int) (w1 : World) (hl : xs.length = 32) (a0 : w1.heap[g]? = some (.cells (pvC xs) 23)) (a1 : w1.heap[g + 1]? = some (.cells #[.int .i64 0] 2))
    (k : Nat) (p : Addr) (w' : World) (hp : (plc g (g + 1))[k]? = some p) (hk : k < 33) (hI : VaI (g + 2) (g + 4) xs w1 k w') :
    Calls Tryz.prog 127 (#[.int .i64 k, pv p] ++ #[.pointer (some ⟨g + 2, 0, none⟩)]) w' fun e w2 => e = .returned (.tuple #[]) ∧ VaI (g + 2) (g + 4) xs w1 (k + 1) w2 := by
  obtain ⟨A, c, i1, i2, i3, i4, i5⟩ := hI
  have b0 := (i3.block g (by omega)).trans a0
  have b1 := (i3.block (g + 1) (by omega)).trans a1
  obtain ⟨v, hv, hc⟩ := place_val hl hp b0 b1
  refine (values1_any k (g + 2) (g + 4) p v A c _ w' (by omega) hc i1 i2 (by omega) i5).mono ?_
  rintro e w2 ⟨he, A', c', f1, f2, f3, f4, f5⟩
  rw [← take_succ hv] at f2
  exact ⟨he, A', c', f1, f2, i3.trans f5, fun b h1 h2 => (f3 b h2 (by omega)).trans (i4 b h1 h2), by omega⟩
set_option maxRecDepth 100000 in
set_option maxHeartbeats 1000000 in
theorem values_any (xs : List Int) (w : World) (hl : xs.length = 32) : Calls Tryz.prog 117 #[.agg (pvC xs)] w (RetV (valsOf xs) w) := by
  obtain ⟨a0, a1, a2, hs, hb⟩ := al3 w (.cells (pvC xs) 23) (.cells #[.int .i64 0] 2) (.cells #[.slice none 0 0] 96)
  have Hs := Lib.hid hs
  clear hs
  go_enter Tryz.func117, Tryz.ntmps117
  go_wp2_with fail
  generalize (((w.alloc (.cells (pvC xs) 23)).alloc (.cells #[.int .i64 0] 2)).alloc (.cells #[.slice none 0 0] 96)) = w1 at *
  have hpl := places_any w.heap.size (w.heap.size + 1) w1
  rw [Hs.out] at hpl
  go_fit hpl
  rintro e w2 ⟨rfl, a3, hb12⟩
  have hb2 := hb.trans (hb12.mono (by omega))
  have q0 := (hb12.block _ (by omega)).trans a0
  have q1 := (hb12.block _ (by omega)).trans a1
  have q2 := (hb12.block _ (by omega)).trans a2
  have hlt3 := blk_lt a3
  clear a0 a1 a2 hb12 hb hpl
  have heach := each_any 127 #[.pointer (some ⟨w.heap.size + 2, 0, none⟩)] (fun _ _ => by kernel_rfl) (some ⟨w.heap.size + 3, 0, none⟩) 33 33 (w.heap.size + 4) (plc w.heap.size (w.heap.size + 1)) w2
    (VaI (w.heap.size + 2) (w.heap.size + 4) xs w2) ⟨none, 0, q2, World.ownsRow_nil _ _ _ _, Below.refl _ _, fun _ _ _ => rfl, by omega⟩
    (fun k w' hI => by
      obtain ⟨A, c, i1, i2, i3, i4, i5⟩ := hI
      exact rd_ptrs (ps := plc w.heap.size (w.heap.size + 1)) ((i4 _ (by omega) (by omega)).trans a3) (by simp [plc, maxLen]))
    (fun k p w' hp hk hI => values_step w.heap.size xs w2 hl q0 q1 k p w' hp hk hI)
  go_wp2_with fail
  go_fit heach
  rintro e w3 ⟨rfl, A, c, i1, i2, i3, i4, i5⟩
  have c1 := blk_cell (i := 0) (v := .slice A 33 c) i1 rfl
  have ht : (valsOf xs).take 33 = valsOf xs := List.take_of_length_le (by rw [valsOf_len hl]; omega)
  rw [ht] at i2
  have hbf := hb2.trans (i3.mono (show w.heap.size ≤ w.heap.size + 2 by omega))
  have hown := own_mono i2 (show w.heap.size ≤ w.heap.size + 4 by omega)
  clear heach q0 q1 q2 a3 i1 i2 i3 i4 i5 hb2 hlt3 ht
  go_wp2
  go_ret
  exact ⟨A, 33, c, rfl, hown, hbf⟩

end Go.Proofs.YtmkidihcdljkiaaGreat
