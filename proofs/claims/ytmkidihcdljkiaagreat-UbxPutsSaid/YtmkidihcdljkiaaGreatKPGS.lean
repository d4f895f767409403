/-
  Several texts in one: SatsLaw Sats1.
-/
import Derived.Test.YtmkidihcdljkiaaGreatKPGE
import Derived.Test.YtmkidihcdljkiaaGreatKPGM
import Derived.Test.YtmkidihcdljkiaaGreatKPGA
/-
  The plain law of layer 17: satellites there and back.
-/
set_option linter.unusedSimpArgs false
set_option linter.unusedVariables false
namespace Go.Proofs.YtmkidihcdljkiaaGreat
open Go.RowKit NumLaw

def headF : List FieldV := [⟨4, false, 0, 604799999⟩, ⟨1, false, 1, 1⟩, ⟨1, false, 0, 64⟩, ⟨2, false, 0, 0⟩]
def satF : List FieldV := [⟨1, false, 0, 7⟩, ⟨1, false, 0, 255⟩, ⟨1, false, 0, 63⟩, ⟨1, true, -90, 90⟩, ⟨2, true, 0, 360⟩, ⟨2, true, -32768, 32767⟩, ⟨4, false, 0, 4294967295⟩]
theorem headF_b : FB headF := by intro f hf; simp [headF] at hf; rcases hf with rfl | rfl | rfl | rfl <;> simp
theorem satF_b : FB satF := by intro f hf; simp [satF] at hf; rcases hf with rfl | rfl | rfl | rfl | rfl | rfl | rfl <;> simp
theorem headF_right : rightL headF = true := by decide
theorem satF_right : rightL satF = true := by decide
theorem headF_sum : sumL headF = 8 := by decide
theorem satF_sum : sumL satF = 12 := by decide
/-- The head's numbers. -/
def hdV (t : Int) (l : List (List Int)) : List Int := [t, 1, l.length, 0]
def satsEL : List (List Int) → Nat
  | [] => 0
  | s :: l => if shE satF s = 0 then satsEL l else shE satF s
def satsE (t : Int) (l : List (List Int)) : Nat := if 64 < l.length then 7 else if shE headF (hdV t l) = 0 then satsEL l else shE headF (hdV t l)
def satsB (t : Int) (l : List (List Int)) : List UInt8 := shP headF (hdV t l) ++ l.flatMap (shP satF)
def satsP (t : Int) (l : List (List Int)) : List UInt8 := if satsE t l = 0 then satsB t l else []
theorem shP_len {l : List FieldV} {vs : List Int} (hr : rightL l = true) (h : shE l vs = 0) : (shP l vs).length = sumL l := by
  rw [(shape_there h).2.2]; unfold widthL; rw [if_pos hr]
theorem satsEL_zero {l : List (List Int)} : satsEL l = 0 ↔ ∀ s ∈ l, shE satF s = 0 := by
  induction l with
  | nil => simp [satsEL]
  | cons s l ih =>
    unfold satsEL
    by_cases h : shE satF s = 0
    · rw [if_pos h, ih]; simp [h]
    · rw [if_neg h]; simp [h]
end Go.Proofs.YtmkidihcdljkiaaGreat

/-
  The fields of layer 17, and the document's; a satellite's numbers, and the satellite of numbers (printed by gen_sats1.py).
-/
set_option linter.unusedSimpArgs false
set_option linter.unusedVariables false
namespace Go.Proofs.YtmkidihcdljkiaaGreat
open Go.RowKit NumLaw

theorem retF_lit7 (w w0 : World) (hb0 : Below w0.heap.size w0 w) (e : TypeId) (l : List FieldV) (cs : Array Value) (hcs : cs = (fcs l).toArray) (hm : l.length ≤ 1000) (hb : FB l) (n : Nat) (hn : l.length = n) : RetF l w0 (.returned (.slice (some ⟨w.heap.size, 0, none⟩) n n)) (w.alloc (.cells cs e)) := by
  subst hn
  refine ⟨_, _, _, rfl, hm, ?_, hb0.alloc hb0.size _⟩
  rw [World.size_alloc]
  exact rdF_lit w e l cs hcs (by unfold maxLen; omega) hb
theorem any1u : anyF 1 false = ⟨1, false, 0, 255⟩ := by simp [anyF, fitsF]
theorem any2s : anyF 2 true = ⟨2, true, -32768, 32767⟩ := by simp [anyF, fitsF]
theorem any4u : anyF 4 false = ⟨4, false, 0, 4294967295⟩ := by simp [anyF, fitsF]

set_option maxRecDepth 10000 in
set_option maxHeartbeats 2000000 in
theorem satsHead_any (w : World) : Calls Tryz.prog 146 #[] w (RetF headF w) := by
  have hb0 : Below w.heap.size w w := Below.refl _ _
  have a1 := fun w => shU_any 4 604799999 w
  rw [if_pos (by decide)] at a1
  unfold fv at a1
  have a2 := fun w => shU_any 1 64 w
  rw [if_pos (by decide)] at a2
  unfold fv at a2
  have a3 := fun w => shU_any 2 0 w
  rw [if_pos (by decide)] at a3
  unfold fv at a3
  go_enter Tryz.func146, Tryz.ntmps146
  go_wp2_with fail
  go_fit (a1 _)
  rintro e w1 ⟨rfl, hc1⟩
  have hb1 := bnx hb0 hc1
  clear hc1
  go_wp2_with fail
  go_fit (a2 _)
  rintro e w2 ⟨rfl, hc2⟩
  have hb2 := bnx hb1 hc2
  clear hc2
  go_wp2_with fail
  go_fit (a3 _)
  rintro e w3 ⟨rfl, hc3⟩
  have hb3 := bnx hb2 hc3
  clear hc3
  go_wp2
  go_ret
  exact retF_lit7 w3 w hb3 _ headF _ rfl (by simp [headF]) headF_b 4 rfl

set_option maxRecDepth 10000 in
set_option maxHeartbeats 2000000 in
theorem satsShape_any (w : World) : Calls Tryz.prog 147 #[] w (RetF satF w) := by
  have hb0 : Below w.heap.size w w := Below.refl _ _
  have a1 := fun w => shU_any 1 7 w
  rw [if_pos (by decide)] at a1
  unfold fv at a1
  have a2 := fun w => shAny_any 1 false w
  rw [any1u] at a2
  unfold fv at a2
  have a3 := fun w => shU_any 1 63 w
  rw [if_pos (by decide)] at a3
  unfold fv at a3
  have a4 := fun w => shI_any 1 (-90) 90 w
  rw [if_pos (by decide)] at a4
  unfold fv at a4
  have a5 := fun w => shI_any 2 0 360 w
  rw [if_pos (by decide)] at a5
  unfold fv at a5
  have a6 := fun w => shAny_any 2 true w
  rw [any2s] at a6
  unfold fv at a6
  have a7 := fun w => shAny_any 4 false w
  rw [any4u] at a7
  unfold fv at a7
  go_enter Tryz.func147, Tryz.ntmps147
  go_wp2_with fail
  go_fit (a1 _)
  rintro e w1 ⟨rfl, hc1⟩
  have hb1 := bnx hb0 hc1
  clear hc1
  go_wp2_with fail
  go_fit (a2 _)
  rintro e w2 ⟨rfl, hc2⟩
  have hb2 := bnx hb1 hc2
  clear hc2
  go_wp2_with fail
  go_fit (a3 _)
  rintro e w3 ⟨rfl, hc3⟩
  have hb3 := bnx hb2 hc3
  clear hc3
  go_wp2_with fail
  go_fit (a4 _)
  rintro e w4 ⟨rfl, hc4⟩
  have hb4 := bnx hb3 hc4
  clear hc4
  go_wp2_with fail
  go_fit (a5 _)
  rintro e w5 ⟨rfl, hc5⟩
  have hb5 := bnx hb4 hc5
  clear hc5
  go_wp2_with fail
  go_fit (a6 _)
  rintro e w6 ⟨rfl, hc6⟩
  have hb6 := bnx hb5 hc6
  clear hc6
  go_wp2_with fail
  go_fit (a7 _)
  rintro e w7 ⟨rfl, hc7⟩
  have hb7 := bnx hb6 hc7
  clear hc7
  go_wp2
  go_ret
  exact retF_lit7 w7 w hb7 _ satF _ rfl (by simp [satF]) satF_b 7 rfl

set_option maxRecDepth 10000 in
set_option maxHeartbeats 1000000 in
theorem qsatsHead_any (w : World) : Calls Tryz.prog 43 #[] w (RetF headF w) := by
  go_enter Tryz.func43, Tryz.ntmps43
  go_wp2
  go_ret
  exact retF_lit7 w w (Below.refl _ _) _ headF _ rfl (by simp [headF]) headF_b 4 rfl

set_option maxRecDepth 10000 in
set_option maxHeartbeats 1000000 in
theorem qsatsShape_any (w : World) : Calls Tryz.prog 44 #[] w (RetF satF w) := by
  go_enter Tryz.func44, Tryz.ntmps44
  go_wp2
  go_ret
  exact retF_lit7 w w (Below.refl _ _) _ satF _ rfl (by simp [satF]) satF_b 7 rfl

/-- A satellite as cells. -/
def saC (s : List Int) : List Value := s.map (Value.int .i64)
theorem len7 : ∀ (xs : List Int), xs.length = 7 → ∃ x0 x1 x2 x3 x4 x5 x6 : Int, xs = [x0, x1, x2, x3, x4, x5, x6]
  | x0 :: x1 :: x2 :: x3 :: x4 :: x5 :: x6 :: [], _ => ⟨_, _, _, _, _, _, _, rfl⟩
def RetV7 (vs : List Int) (w : World) (e : Ending) (w' : World) : Prop :=
  ∃ A n c, e = .returned (.slice A n c) ∧ w'.ownsRow w.heap.size 2 1 (.slice A n c) n (vs.map (Value.int .i64)) ∧ Below w.heap.size w w'
theorem own_lit7 (w w0 : World) (hb0 : Below w0.heap.size w0 w) (vs : List Int) (n : Nat) (hn : vs.length = n) (hm : n ≤ maxLen) : RetV7 vs w0 (.returned (.slice (some ⟨w.heap.size, 0, none⟩) n n)) (w.alloc (.cells (vs.map (Value.int .i64)).toArray 2)) := by
  subst hn
  refine ⟨_, _, _, rfl, ⟨by simp, .inr ⟨w.heap.size, vs.length, _, rfl, hb0.size, heap_alloc_new w _, Nat.le_refl _, hm, by simp, by show List.take _ (vs.map _) = _; exact List.take_of_length_le (by simp)⟩⟩, hb0.alloc hb0.size _⟩
set_option maxRecDepth 10000 in
set_option maxHeartbeats 1000000 in
theorem satsvalues_any (s : List Int) (hs : s.length = 7) (w : World) : Calls Tryz.prog 150 #[.agg (saC s).toArray] w (RetV7 s w) := by
  obtain ⟨x0, x1, x2, x3, x4, x5, x6, rfl⟩ := len7 s hs
  have hb0 : Below w.heap.size w (w.alloc (.cells (saC [x0, x1, x2, x3, x4, x5, x6]).toArray 99)) := (Below.refl _ _).alloc (Nat.le_refl _) _
  have hbox := heap_alloc_new w (.cells (saC [x0, x1, x2, x3, x4, x5, x6]).toArray 99)
  have c0 : (w.alloc (.cells (saC [x0, x1, x2, x3, x4, x5, x6]).toArray 99)).cell? ⟨w.heap.size, 0, none⟩ = some (.int .i64 x0) := blk_cell hbox rfl
  have c1 : (w.alloc (.cells (saC [x0, x1, x2, x3, x4, x5, x6]).toArray 99)).cell? ⟨w.heap.size, 1, none⟩ = some (.int .i64 x1) := blk_cell hbox rfl
  have c2 : (w.alloc (.cells (saC [x0, x1, x2, x3, x4, x5, x6]).toArray 99)).cell? ⟨w.heap.size, 2, none⟩ = some (.int .i64 x2) := blk_cell hbox rfl
  have c3 : (w.alloc (.cells (saC [x0, x1, x2, x3, x4, x5, x6]).toArray 99)).cell? ⟨w.heap.size, 3, none⟩ = some (.int .i64 x3) := blk_cell hbox rfl
  have c4 : (w.alloc (.cells (saC [x0, x1, x2, x3, x4, x5, x6]).toArray 99)).cell? ⟨w.heap.size, 4, none⟩ = some (.int .i64 x4) := blk_cell hbox rfl
  have c5 : (w.alloc (.cells (saC [x0, x1, x2, x3, x4, x5, x6]).toArray 99)).cell? ⟨w.heap.size, 5, none⟩ = some (.int .i64 x5) := blk_cell hbox rfl
  have c6 : (w.alloc (.cells (saC [x0, x1, x2, x3, x4, x5, x6]).toArray 99)).cell? ⟨w.heap.size, 6, none⟩ = some (.int .i64 x6) := blk_cell hbox rfl
  clear hbox
  go_enter Tryz.func150, Tryz.ntmps150
  go_wp2
  have hsz : (w.alloc (.cells (saC [x0, x1, x2, x3, x4, x5, x6]).toArray 99)).heap.size = w.heap.size + 1 := World.size_alloc _ _
  have hlast := own_lit7 _ w hb0 [x0, x1, x2, x3, x4, x5, x6] 7 rfl (by simp [maxLen])
  rw [hsz] at hlast
  go_ret
  exact hlast

end Go.Proofs.YtmkidihcdljkiaaGreat
