/-
  pvt.each walked; structs of numbers as lists.
-/
import Derived.Test.YtkelepnipndbbaaPvt1
import Derived.Laws.StructEq
set_option linter.unusedSimpArgs false
set_option linter.unusedVariables false
namespace Go.Proofs.Ytkelepnipndbbaa
open Go.RowKit NumLaw
attribute [local go_sem] Addr.add_mid

def pv (p : Addr) : Value := .pointer (some p)
set_option maxHeartbeats 1000000 in
theorem each_any (F : Nat) (lb : Array Value) (heg : ∀ args w, (callFunc F args).run Try.prog w = .ok (.enter F args) w) (A : Option Addr) (n c B : Nat) (ps : List Addr) (w : World) (I : Nat → World → Prop)
    (h0 : I 0 w) (hrd : ∀ k w1, I k w1 → Rd w1 B 1 A n c (ps.map pv))
    (hstep : ∀ k p w1, ps[k]? = some p → k < n → I k w1 → Calls Try.prog F (#[.int .i64 k, pv p] ++ lb) w1 fun e w' => e = .returned (.tuple #[]) ∧ I (k + 1) w') :
    Calls Try.prog 113 #[.func (.func F) #[] lb, .slice A n c] w fun e w' => e = .returned (.tuple #[]) ∧ I n w' := by
  have h := hrd 0 w h0
  have hle := h.le
  have hmx := h.max
  unfold maxLen at hmx
  clear h
  go_enter Try.func113, Try.ntmps113
  go_wp2_with fail
  go_loopw [8] (fun i wr => ∃ k : Nat, k ≤ n ∧ i = .int .i64 k ∧ I k wr) (fun i _ => n - (intOf i).toNat)
  case atStart => exact ⟨0, by omega, rfl, h0⟩
  case round =>
    obtain ⟨k, hk, rfl, hI⟩ := hrel
    by_cases hlt : k < n
    · obtain ⟨ad, u, rfl, hu, hc⟩ := (hrd k wr hI).one hlt
      obtain ⟨p, hp, rfl⟩ : ∃ p, ps[k]? = some p ∧ pv p = u := by simpa using hu
      have hs := hstep k p wr hp hlt hI
      unfold pv at hs hc
      clear hu hp
      go_wp2_with fail
      go_fit hs
      rintro e w2 ⟨rfl, hI2⟩
      go_wp2
      go_roundw
      case rel => exact ⟨k + 1, by omega, by go_num, hI2⟩
      case measure => simp [intOf]; omega
    · obtain rfl : k = n := by omega
      go_wp2
      ((try simp only [Exit.inBlock, Exit.then]); refine bodyPost_end (results_none rfl _ _ _) rfl ?_)
      exact ⟨rfl, hI⟩

set_option maxHeartbeats 1000000 in
theorem speed1_any (k : Nat) (p : Addr) (x : Int) (gO gC : Nat) (cs : List Value) (cnt : Nat) (w : World) (hk : k < 3) (hcs : cs.length = 3) (hx : -2147483648 ≤ x ∧ x ≤ 2147483647) (hp : w.cell? p = some (.int .i64 x)) (hne : gO ≠ gC)
    (hO : w.heap[gO]? = some (.cells cs.toArray 128)) (hC : w.heap[gC]? = some (.cells #[.int .i64 cnt] 3)) (hcnt : cnt ≤ 100) :
    Calls Try.prog 114 #[.int .i64 k, .pointer (some p), .pointer (some ⟨gO, 0, none⟩), .pointer (some ⟨gC, 0, none⟩)] w fun e w' => e = .returned (.tuple #[]) ∧
      w'.heap[gO]? = some (.cells (cs.set k (.int .i32 (spdV x))).toArray 128) ∧ w'.heap[gC]? = some (.cells #[.int .i64 ((cnt + cutN (mil x) : Nat) : Int)] 3) ∧ Aw (fun b => b = gO ∨ b = gC) w w' := by
  have ho := fun w => fover_any (x * 65536) w (by omega)
  have hm := mil_bound hx
  have hcl := fun w => clamp_any (mil x) w (by omega)
  rw [show ovK (x * 65536) = mil x by unfold mil; rw [Int.mul_comm]] at ho
  unfold cutN spdV
  have hcb := clampV_b (mil x)
  generalize (clampV (mil x) != mil x) = b at *
  generalize clampV (mil x) = v at *
  have hk0 : (0 : Int) ≤ (k : Int) := by omega
  have hk3 : (k : Int) < 3 := by omega
  obtain ⟨u, hu⟩ : ∃ u, cs[k]? = some u := ⟨_, List.getElem?_eq_getElem (by omega)⟩
  go_enter Try.func114, Try.ntmps114
  go_wp2_with fail
  go_fit (ho _)
  rintro e w1 ⟨rfl, hb1⟩
  have hO1 := blk_old hO hb1 (blk_lt hO)
  have hC1 := blk_old hC hb1 (blk_lt hC)
  have s1 : w1.cell? ⟨gO, k, none⟩ = some u := blk_cell hO1 (by simpa using hu)
  have s2 := blk_free (i := k) hO1
  have hA1 : Aw (fun b => b = gO ∨ b = gC) w w1 := ⟨hb1.os, hb1.tape, hb1.output, hb1.size, fun k hk _ => hb1.block k hk⟩
  have hO2 := blk_set (i := k) hO1 (.int .i32 v)
  have hC2 : (w1.setCell ⟨gO, k, none⟩ (.int .i32 v)).heap[gC]? = _ := (((Aw.refl (fun k => k = gO) w1).set (p := ⟨gO, k, none⟩) (.int .i32 v) rfl).keep hC1 (fun h => hne h.symm))
  have hA2 := hA1.set (p := ⟨gO, k, none⟩) (.int .i32 v) (.inl rfl)
  rw [List.setIfInBounds_toArray] at hO2
  have c1 : (w1.setCell ⟨gO, k, none⟩ (.int .i32 v)).cell? ⟨gC, 0, none⟩ = some (.int .i64 cnt) := blk_cell hC2 rfl
  have c2 := blk_free (i := 0) hC2
  have Hcs := Lib.hid hcs
  clear hO hC hO1 hC1 hb1 hcs hu
  cases b with
  | false =>
    go_wp2_with fail
    go_fit (hcl _)
    rintro e w2 ⟨rfl, rfl⟩
    go_wp2
    ((try simp only [Exit.inBlock, Exit.then]); refine bodyPost_end (results_none rfl _ _ _) rfl ?_)
    exact ⟨rfl, hO2, hC2, hA2⟩
  | true =>
    have hO3 := ((Aw.refl (fun k => k = gC) _).set (p := ⟨gC, 0, none⟩) (.int .i64 ((cnt : Int) + 1)) rfl).keep hO2 hne
    have hC3 := blk_set (i := 0) hC2 (.int .i64 ((cnt : Int) + 1))
    have hA3 := hA2.set (p := ⟨gC, 0, none⟩) (.int .i64 ((cnt : Int) + 1)) (.inr rfl)
    go_wp2_with fail
    go_fit (hcl _)
    rintro e w2 ⟨rfl, rfl⟩
    go_wp2
    ((try simp only [Exit.inBlock, Exit.then]); refine bodyPost_end (results_none rfl _ _ _) rfl ?_)
    exact ⟨rfl, hO3, hC3, hA3⟩

end Go.Proofs.Ytkelepnipndbbaa
