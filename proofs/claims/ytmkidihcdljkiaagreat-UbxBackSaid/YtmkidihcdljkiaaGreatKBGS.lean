/-
  Several texts in one: SatsLaw Sats1.
-/
import Derived.Test.YtmkidihcdljkiaaGreatKBGE
import Derived.Test.YtmkidihcdljkiaaGreatKBGC
import Derived.Test.YtmkidihcdljkiaaGreatKBGA
import Derived.Deep.QuietTactic
import Derived.BigQuiet
/-
  The plain law of layer 17: satellites there and back.
-/
set_option linter.unusedSimpArgs false
set_option linter.unusedVariables false
namespace Go.Proofs.YtmkidihcdljkiaaGreat
open Go.RowKit NumLaw

def headF : List FieldV := [⟨4, false, 0, 604799999⟩, ⟨1, false, 1, 1⟩, ⟨1, false, 0, 64⟩, ⟨2, false, 0, 0⟩]
def satF : List FieldV := [⟨1, false, 0, 7⟩, ⟨1, false, 0, 255⟩, ⟨1, false, 0, 63⟩, ⟨1, true, -90, 90⟩, ⟨2, true, 0, 360⟩, ⟨2, true, -32768, 32767⟩, ⟨4, false, 0, 4294967295⟩]
theorem headF_b : FB headF := by intro f hf; simp [headF] at hf; rcases hf with rfl | rfl | rfl | rfl <;> simp
theorem satF_b : FB satF := by intro f hf; simp [satF] at hf; rcases hf with rfl | rfl | rfl | rfl | rfl | rfl | rfl <;> simp
theorem headF_right : rightL headF = true := by decide
theorem satF_right : rightL satF = true := by decide
theorem headF_sum : sumL headF = 8 := by decide
theorem satF_sum : sumL satF = 12 := by decide
/-- The head's numbers. -/
def hdV (t : Int) (l : List (List Int)) : List Int := [t, 1, l.length, 0]
def satsEL : List (List Int) → Nat
  | [] => 0
  | s :: l => if shE satF s = 0 then satsEL l else shE satF s
def satsE (t : Int) (l : List (List Int)) : Nat := if 64 < l.length then 7 else if shE headF (hdV t l) = 0 then satsEL l else shE headF (hdV t l)
def satsB (t : Int) (l : List (List Int)) : List UInt8 := shP headF (hdV t l) ++ l.flatMap (shP satF)
def satsP (t : Int) (l : List (List Int)) : List UInt8 := if satsE t l = 0 then satsB t l else []
/-- The satellites that bytes begin with, n of them. -/
def satsTL : Nat → List UInt8 → Nat × List (List Int)
  | 0, _ => (0, [])
  | n + 1, r => if shTE satF (r.take 12) = 0 then ((satsTL n (r.drop 12)).1, shT satF (r.take 12) :: (satsTL n (r.drop 12)).2) else (shTE satF (r.take 12), [])
def satsN (b : List UInt8) : Nat := ((shT headF (b.take 8)).getD 2 0).toNat
def satsTE (b : List UInt8) : Nat :=
  if b.length < 8 then 2 else if shTE headF (b.take 8) = 0 then
    if b.length - 8 < 12 * satsN b then 2 else if 12 * satsN b < b.length - 8 then 7 else (satsTL (satsN b) (b.drop 8)).1
  else shTE headF (b.take 8)
def satsTt (b : List UInt8) : Int := if satsTE b = 0 then (shT headF (b.take 8)).getD 0 0 else 0
def satsTl (b : List UInt8) : List (List Int) := if satsTE b = 0 then (satsTL (satsN b) (b.drop 8)).2 else []

theorem shP_len {l : List FieldV} {vs : List Int} (hr : rightL l = true) (h : shE l vs = 0) : (shP l vs).length = sumL l := by
  rw [(shape_there h).2.2]; unfold widthL; rw [if_pos hr]
theorem satsEL_zero {l : List (List Int)} : satsEL l = 0 ↔ ∀ s ∈ l, shE satF s = 0 := by
  induction l with
  | nil => simp [satsEL]
  | cons s l ih =>
    unfold satsEL
    by_cases h : shE satF s = 0
    · rw [if_pos h, ih]; simp [h]
    · rw [if_neg h]; simp [h]
theorem satsE_zero {t : Int} {l : List (List Int)} (h : satsE t l = 0) : l.length ≤ 64 ∧ shE headF (hdV t l) = 0 ∧ ∀ s ∈ l, shE satF s = 0 := by
  unfold satsE at h
  split at h
  · cases h
  · split at h
    · exact ⟨by omega, by assumption, satsEL_zero.1 h⟩
    · exact absurd h (by assumption)
theorem flat12 {l : List (List Int)} (h : ∀ s ∈ l, shE satF s = 0) : (l.flatMap (shP satF)).length = 12 * l.length := by
  induction l with
  | nil => rfl
  | cons s l ih =>
    rw [List.flatMap_cons, List.length_append, ih (fun x hx => h x (List.mem_cons_of_mem _ hx)), shP_len satF_right (h s List.mem_cons_self), satF_sum, List.length_cons]
    omega
theorem satsTL_there : ∀ (l : List (List Int)), (∀ s ∈ l, shE satF s = 0) → satsTL l.length (l.flatMap (shP satF)) = (0, l)
  | [], _ => rfl
  | s :: l, h => by
    have h1 := h s List.mem_cons_self
    have hl : (shP satF s).length = 12 := by rw [shP_len satF_right h1, satF_sum]
    have e1 : ((s :: l).flatMap (shP satF)).take 12 = shP satF s := by rw [List.flatMap_cons, List.take_append_of_le_length (by omega), List.take_of_length_le (by omega)]
    have e2 : ((s :: l).flatMap (shP satF)).drop 12 = l.flatMap (shP satF) := by rw [List.flatMap_cons, List.drop_append_of_le_length (by omega), List.drop_of_length_le (by omega), List.nil_append]
    obtain ⟨t1, t2, _⟩ := shape_there h1
    show (if shTE satF _ = 0 then _ else _) = _
    rw [e1, e2, if_pos t1, t2, satsTL_there l (fun x hx => h x (List.mem_cons_of_mem _ hx))]
theorem satsTL_back : ∀ (n : Nat) (r : List UInt8), r.length = 12 * n → (satsTL n r).1 = 0 → (∀ s ∈ (satsTL n r).2, shE satF s = 0) ∧ (satsTL n r).2.flatMap (shP satF) = r ∧ (satsTL n r).2.length = n
  | 0, r, hr, _ => by
    obtain rfl : r = [] := List.eq_nil_of_length_eq_zero (by omega)
    exact ⟨by simp [satsTL], rfl, rfl⟩
  | n + 1, r, hr, h => by
    unfold satsTL at h ⊢
    by_cases h1 : shTE satF (r.take 12) = 0
    · rw [if_pos h1] at h ⊢
      obtain ⟨a, b, c⟩ := satsTL_back n (r.drop 12) (by rw [List.length_drop]; omega) h
      obtain ⟨t1, t2, _⟩ := shape_back h1
      refine ⟨fun s hs => ?_, ?_, by simp [c]⟩
      · rcases List.mem_cons.1 hs with rfl | hs
        · exact t1
        · exact a s hs
      · rw [List.flatMap_cons, t2, b, List.take_append_drop]
    · rw [if_neg h1] at h
      exact absurd h h1
/-- What is put is taken. -/
theorem sats_there {t : Int} {l : List (List Int)} (h : satsE t l = 0) : satsTE (satsP t l) = 0 ∧ satsTt (satsP t l) = t ∧ satsTl (satsP t l) = l ∧ (satsP t l).length = 8 + 12 * l.length := by
  obtain ⟨h64, hh, hs⟩ := satsE_zero h
  have hP : satsP t l = satsB t l := by unfold satsP; rw [if_pos h]
  have l1 : (shP headF (hdV t l)).length = 8 := by rw [shP_len headF_right hh, headF_sum]
  have l2 := flat12 hs
  have e1 : (satsB t l).take 8 = shP headF (hdV t l) := by unfold satsB; rw [List.take_append_of_le_length (by omega), List.take_of_length_le (by omega)]
  have e2 : (satsB t l).drop 8 = l.flatMap (shP satF) := by unfold satsB; rw [List.drop_append_of_le_length (by omega), List.drop_of_length_le (by omega), List.nil_append]
  have l3 : (satsB t l).length = 8 + 12 * l.length := by unfold satsB; rw [List.length_append, l1, l2]
  obtain ⟨t1, t2, _⟩ := shape_there hh
  have hN : satsN (satsB t l) = l.length := by unfold satsN; rw [e1, t2]; simp [hdV]
  have hE : satsTE (satsB t l) = 0 := by
    unfold satsTE
    rw [if_neg (by omega), e1, if_pos t1, hN, l3, if_neg (by omega), if_neg (by omega), e2, satsTL_there l hs]
  rw [hP]
  refine ⟨hE, ?_, ?_, l3⟩
  · unfold satsTt; rw [if_pos hE, e1, t2]; rfl
  · unfold satsTl; rw [if_pos hE, hN, e2, satsTL_there l hs]
theorem headT {b : List UInt8} (h : shTE headF b = 0) : ∃ t n : Int, shT headF b = [t, 1, n, 0] ∧ 0 ≤ n ∧ n ≤ 64 ∧ 0 ≤ t ∧ t ≤ 604799999 := by
  obtain ⟨h1, h2, h3⟩ := shape_back h
  have hl : (shT headF b).length = 4 := h3
  generalize shT headF b = v at *
  match v, hl with
  | [a0, a1, a2, a3], _ =>
    have hin : inAll headF [a0, a1, a2, a3] = true := by
      unfold shE at h1
      split at h1
      · split at h1
        · assumption
        · cases h1
      · cases h1
    simp [inAll, headF, inF] at hin
    obtain ⟨⟨p1, p2⟩, ⟨p3, p4⟩, ⟨p5, p6⟩, p7, p8⟩ := hin
    obtain rfl : a1 = 1 := by omega
    obtain rfl : a3 = 0 := by omega
    exact ⟨a0, a2, rfl, p5, p6, p1, p2⟩
/-- What is taken, put, is those bytes. -/
theorem sats_back {b : List UInt8} (h : satsTE b = 0) : satsE (satsTt b) (satsTl b) = 0 ∧ satsP (satsTt b) (satsTl b) = b := by
  have h0 := h
  have et : satsTt b = (shT headF (b.take 8)).getD 0 0 := by unfold satsTt; rw [if_pos h]
  have el : satsTl b = (satsTL (satsN b) (b.drop 8)).2 := by unfold satsTl; rw [if_pos h]
  unfold satsTE at h
  split at h
  · cases h
  · split at h
    · rename_i h8 hh
      split at h
      · cases h
      · split at h
        · cases h
        · rename_i h9 h10
          have hlen : (b.drop 8).length = 12 * satsN b := by rw [List.length_drop]; omega
          obtain ⟨a1, a2, a3⟩ := satsTL_back _ _ hlen h
          obtain ⟨t, n, hv, hn0, hn64, _⟩ := headT hh
          obtain ⟨t1, t2, _⟩ := shape_back hh
          have hN : satsN b = n.toNat := by unfold satsN; rw [hv]; rfl
          have hhd : hdV (satsTt b) (satsTl b) = shT headF (b.take 8) := by
            rw [et, el, hv]
            unfold hdV
            rw [a3, hN]
            simp only [List.getD_cons_zero]
            congr 3
            omega
          have hE : satsE (satsTt b) (satsTl b) = 0 := by
            unfold satsE
            rw [if_neg (by rw [el, a3, hN]; omega), hhd, if_pos t1, el]
            exact satsEL_zero.2 a1
          refine ⟨hE, ?_⟩
          unfold satsP
          rw [if_pos hE]
          unfold satsB
          rw [hhd, t2, el, a2, List.take_append_drop]
    · exact absurd h (by assumption)
theorem satsT_none {b : List UInt8} (h : satsTE b ≠ 0) : satsTt b = 0 ∧ satsTl b = [] := ⟨by unfold satsTt; rw [if_neg h], by unfold satsTl; rw [if_neg h]⟩

end Go.Proofs.YtmkidihcdljkiaaGreat

/-
  The fields of layer 17, and the document's; a satellite's numbers, and the satellite of numbers (printed by gen_sats1.py).
-/
set_option linter.unusedSimpArgs false
set_option linter.unusedVariables false
namespace Go.Proofs.YtmkidihcdljkiaaGreat
open Go.RowKit NumLaw

theorem retF_lit7 (w w0 : World) (hb0 : Below w0.heap.size w0 w) (e : TypeId) (l : List FieldV) (cs : Array Value) (hcs : cs = (fcs l).toArray) (hm : l.length ≤ 1000) (hb : FB l) (n : Nat) (hn : l.length = n) : RetF l w0 (.returned (.slice (some ⟨w.heap.size, 0, none⟩) n n)) (w.alloc (.cells cs e)) := by
  subst hn
  refine ⟨_, _, _, rfl, hm, ?_, hb0.alloc hb0.size _⟩
  rw [World.size_alloc]
  exact rdF_lit w e l cs hcs (by unfold maxLen; omega) hb
theorem any1u : anyF 1 false = ⟨1, false, 0, 255⟩ := by simp [anyF, fitsF]
theorem any2s : anyF 2 true = ⟨2, true, -32768, 32767⟩ := by simp [anyF, fitsF]
theorem any4u : anyF 4 false = ⟨4, false, 0, 4294967295⟩ := by simp [anyF, fitsF]

set_option maxRecDepth 10000 in
set_option maxHeartbeats 2000000 in
theorem satsHead_any (w : World) : Calls Tryz.prog 146 #[] w (RetF headF w) := by
  have hb0 : Below w.heap.size w w := Below.refl _ _
  have a1 := fun w => shU_any 4 604799999 w
  rw [if_pos (by decide)] at a1
  unfold fv at a1
  have a2 := fun w => shU_any 1 64 w
  rw [if_pos (by decide)] at a2
  unfold fv at a2
  have a3 := fun w => shU_any 2 0 w
  rw [if_pos (by decide)] at a3
  unfold fv at a3
  go_enter Tryz.func146, Tryz.ntmps146
  go_wp2_with fail
  go_fit (a1 _)
  rintro e w1 ⟨rfl, hc1⟩
  have hb1 := bnx hb0 hc1
  clear hc1
  go_wp2_with fail
  go_fit (a2 _)
  rintro e w2 ⟨rfl, hc2⟩
  have hb2 := bnx hb1 hc2
  clear hc2
  go_wp2_with fail
  go_fit (a3 _)
  rintro e w3 ⟨rfl, hc3⟩
  have hb3 := bnx hb2 hc3
  clear hc3
  go_wp2
  go_ret
  exact retF_lit7 w3 w hb3 _ headF _ rfl (by simp [headF]) headF_b 4 rfl

set_option maxRecDepth 10000 in
set_option maxHeartbeats 2000000 in
theorem satsShape_any (w : World) : Calls Tryz.prog 147 #[] w (RetF satF w) := by
  have hb0 : Below w.heap.size w w := Below.refl _ _
  have a1 := fun w => shU_any 1 7 w
  rw [if_pos (by decide)] at a1
  unfold fv at a1
  have a2 := fun w => shAny_any 1 false w
  rw [any1u] at a2
  unfold fv at a2
  have a3 := fun w => shU_any 1 63 w
  rw [if_pos (by decide)] at a3
  unfold fv at a3
  have a4 := fun w => shI_any 1 (-90) 90 w
  rw [if_pos (by decide)] at a4
  unfold fv at a4
  have a5 := fun w => shI_any 2 0 360 w
  rw [if_pos (by decide)] at a5
  unfold fv at a5
  have a6 := fun w => shAny_any 2 true w
  rw [any2s] at a6
  unfold fv at a6
  have a7 := fun w => shAny_any 4 false w
  rw [any4u] at a7
  unfold fv at a7
  go_enter Tryz.func147, Tryz.ntmps147
  go_wp2_with fail
  go_fit (a1 _)
  rintro e w1 ⟨rfl, hc1⟩
  have hb1 := bnx hb0 hc1
  clear hc1
  go_wp2_with fail
  go_fit (a2 _)
  rintro e w2 ⟨rfl, hc2⟩
  have hb2 := bnx hb1 hc2
  clear hc2
  go_wp2_with fail
  go_fit (a3 _)
  rintro e w3 ⟨rfl, hc3⟩
  have hb3 := bnx hb2 hc3
  clear hc3
  go_wp2_with fail
  go_fit (a4 _)
  rintro e w4 ⟨rfl, hc4⟩
  have hb4 := bnx hb3 hc4
  clear hc4
  go_wp2_with fail
  go_fit (a5 _)
  rintro e w5 ⟨rfl, hc5⟩
  have hb5 := bnx hb4 hc5
  clear hc5
  go_wp2_with fail
  go_fit (a6 _)
  rintro e w6 ⟨rfl, hc6⟩
  have hb6 := bnx hb5 hc6
  clear hc6
  go_wp2_with fail
  go_fit (a7 _)
  rintro e w7 ⟨rfl, hc7⟩
  have hb7 := bnx hb6 hc7
  clear hc7
  go_wp2
  go_ret
  exact retF_lit7 w7 w hb7 _ satF _ rfl (by simp [satF]) satF_b 7 rfl

/-- A satellite as cells. -/
def saC (s : List Int) : List Value := s.map (Value.int .i64)
theorem len7 : ∀ (xs : List Int), xs.length = 7 → ∃ x0 x1 x2 x3 x4 x5 x6 : Int, xs = [x0, x1, x2, x3, x4, x5, x6]
  | x0 :: x1 :: x2 :: x3 :: x4 :: x5 :: x6 :: [], _ => ⟨_, _, _, _, _, _, _, rfl⟩
def RetV7 (vs : List Int) (w : World) (e : Ending) (w' : World) : Prop :=
  ∃ A n c, e = .returned (.slice A n c) ∧ w'.ownsRow w.heap.size 2 1 (.slice A n c) n (vs.map (Value.int .i64)) ∧ Below w.heap.size w w'
theorem own_lit7 (w w0 : World) (hb0 : Below w0.heap.size w0 w) (vs : List Int) (n : Nat) (hn : vs.length = n) (hm : n ≤ maxLen) : RetV7 vs w0 (.returned (.slice (some ⟨w.heap.size, 0, none⟩) n n)) (w.alloc (.cells (vs.map (Value.int .i64)).toArray 2)) := by
  subst hn
  refine ⟨_, _, _, rfl, ⟨by simp, .inr ⟨w.heap.size, vs.length, _, rfl, hb0.size, heap_alloc_new w _, Nat.le_refl _, hm, by simp, by show List.take _ (vs.map _) = _; exact List.take_of_length_le (by simp)⟩⟩, hb0.alloc hb0.size _⟩
set_option maxRecDepth 10000 in
set_option maxHeartbeats 1000000 in
theorem satsvalues_any (s : List Int) (hs : s.length = 7) (w : World) : Calls Tryz.prog 150 #[.agg (saC s).toArray] w (RetV7 s w) := by
  obtain ⟨x0, x1, x2, x3, x4, x5, x6, rfl⟩ := len7 s hs
  have hb0 : Below w.heap.size w (w.alloc (.cells (saC [x0, x1, x2, x3, x4, x5, x6]).toArray 99)) := (Below.refl _ _).alloc (Nat.le_refl _) _
  have hbox := heap_alloc_new w (.cells (saC [x0, x1, x2, x3, x4, x5, x6]).toArray 99)
  have c0 : (w.alloc (.cells (saC [x0, x1, x2, x3, x4, x5, x6]).toArray 99)).cell? ⟨w.heap.size, 0, none⟩ = some (.int .i64 x0) := blk_cell hbox rfl
  have c1 : (w.alloc (.cells (saC [x0, x1, x2, x3, x4, x5, x6]).toArray 99)).cell? ⟨w.heap.size, 1, none⟩ = some (.int .i64 x1) := blk_cell hbox rfl
  have c2 : (w.alloc (.cells (saC [x0, x1, x2, x3, x4, x5, x6]).toArray 99)).cell? ⟨w.heap.size, 2, none⟩ = some (.int .i64 x2) := blk_cell hbox rfl
  have c3 : (w.alloc (.cells (saC [x0, x1, x2, x3, x4, x5, x6]).toArray 99)).cell? ⟨w.heap.size, 3, none⟩ = some (.int .i64 x3) := blk_cell hbox rfl
  have c4 : (w.alloc (.cells (saC [x0, x1, x2, x3, x4, x5, x6]).toArray 99)).cell? ⟨w.heap.size, 4, none⟩ = some (.int .i64 x4) := blk_cell hbox rfl
  have c5 : (w.alloc (.cells (saC [x0, x1, x2, x3, x4, x5, x6]).toArray 99)).cell? ⟨w.heap.size, 5, none⟩ = some (.int .i64 x5) := blk_cell hbox rfl
  have c6 : (w.alloc (.cells (saC [x0, x1, x2, x3, x4, x5, x6]).toArray 99)).cell? ⟨w.heap.size, 6, none⟩ = some (.int .i64 x6) := blk_cell hbox rfl
  clear hbox
  go_enter Tryz.func150, Tryz.ntmps150
  go_wp2
  have hsz : (w.alloc (.cells (saC [x0, x1, x2, x3, x4, x5, x6]).toArray 99)).heap.size = w.heap.size + 1 := World.size_alloc _ _
  have hlast := own_lit7 _ w hb0 [x0, x1, x2, x3, x4, x5, x6] 7 rfl (by simp [maxLen])
  rw [hsz] at hlast
  go_ret
  exact hlast

set_option maxRecDepth 10000 in
set_option maxHeartbeats 2000000 in
theorem satsof_any (A : Option Addr) (c B : Nat) (s : List Int) (hs : s.length = 7) (w : World) (h : Rd w B 1 A 7 c (s.map (Value.int .i64))) (hB : B ≤ w.heap.size) : Calls Tryz.prog 148 #[.slice A 7 c] w fun e w' => e = .returned (.agg (saC s).toArray) ∧ Below w.heap.size w w' := by
  obtain ⟨x0, x1, x2, x3, x4, x5, x6, rfl⟩ := len7 s hs
  have hle := h.le
  have hmx := h.max
  unfold maxLen at hmx
  have hb1 : Below w.heap.size w (w.alloc (.cells #[.int .i64 0, .int .i64 0, .int .i64 0, .int .i64 0, .int .i64 0, .int .i64 0, .int .i64 0] 99)) := (Below.refl _ _).alloc (Nat.le_refl _) _
  have hres := heap_alloc_new w (.cells #[.int .i64 0, .int .i64 0, .int .i64 0, .int .i64 0, .int .i64 0, .int .i64 0, .int .i64 0] 99)
  have hr1 := h.up (hb1.mono hB)
  obtain ⟨ad, rfl, hblk, hcell⟩ := hr1.at_ (by omega)
  have c0 : (w.alloc (.cells #[.int .i64 0, .int .i64 0, .int .i64 0, .int .i64 0, .int .i64 0, .int .i64 0, .int .i64 0] 99)).cell? ad = some (.int .i64 x0) := hcell 0 _ rfl
  have c1 : (w.alloc (.cells #[.int .i64 0, .int .i64 0, .int .i64 0, .int .i64 0, .int .i64 0, .int .i64 0, .int .i64 0] 99)).cell? ⟨ad.block, ad.off + 1, none⟩ = some (.int .i64 x1) := hcell 1 _ rfl
  have c2 : (w.alloc (.cells #[.int .i64 0, .int .i64 0, .int .i64 0, .int .i64 0, .int .i64 0, .int .i64 0, .int .i64 0] 99)).cell? ⟨ad.block, ad.off + 2, none⟩ = some (.int .i64 x2) := hcell 2 _ rfl
  have c3 : (w.alloc (.cells #[.int .i64 0, .int .i64 0, .int .i64 0, .int .i64 0, .int .i64 0, .int .i64 0, .int .i64 0] 99)).cell? ⟨ad.block, ad.off + 3, none⟩ = some (.int .i64 x3) := hcell 3 _ rfl
  have c4 : (w.alloc (.cells #[.int .i64 0, .int .i64 0, .int .i64 0, .int .i64 0, .int .i64 0, .int .i64 0, .int .i64 0] 99)).cell? ⟨ad.block, ad.off + 4, none⟩ = some (.int .i64 x4) := hcell 4 _ rfl
  have c5 : (w.alloc (.cells #[.int .i64 0, .int .i64 0, .int .i64 0, .int .i64 0, .int .i64 0, .int .i64 0, .int .i64 0] 99)).cell? ⟨ad.block, ad.off + 5, none⟩ = some (.int .i64 x5) := hcell 5 _ rfl
  have c6 : (w.alloc (.cells #[.int .i64 0, .int .i64 0, .int .i64 0, .int .i64 0, .int .i64 0, .int .i64 0, .int .i64 0] 99)).cell? ⟨ad.block, ad.off + 6, none⟩ = some (.int .i64 x6) := hcell 6 _ rfl
  clear hcell hr1 h
  go_enter Tryz.func148, Tryz.ntmps148
  go_wp2_with fail
  generalize (w.alloc (.cells #[.int .i64 0, .int .i64 0, .int .i64 0, .int .i64 0, .int .i64 0, .int .i64 0, .int .i64 0] 99)) = w1 at *
  refine Ord.region_ (fun w' => Below w.heap.size w1 w') false [] (by kernel_rfl) (by kernel_rfl) ((Below.refl _ _).drew) ?_
  have h2 : Below w.heap.size w1 w1.drew := (Below.refl _ _).drew
  replace hb1 := hb1.drew
  replace hres : w1.drew.heap[w.heap.size]? = _ := hres
  have hbl2 : ad.block < w.heap.size := by omega
  generalize w1.drew = w2 at *
  ((with_reducible refine Ord.e_p (v := ?_) ?_ ?_ ?_ ?_); rotate_left; (· exact rfl); (· kernel_rfl); (· intro w2; go_simp; try with_reducible rfl))
  (try simp only [Act.put, List.setIfInBounds_toArray, List.set_cons_zero, List.set_cons_succ])
  ((with_reducible refine Ord.e_p (v := ?_) ?_ ?_ ?_ ?_); rotate_left; (· exact rfl); (· kernel_rfl); (· intro w2; go_simp; try with_reducible rfl))
  (try simp only [Act.put, List.setIfInBounds_toArray, List.set_cons_zero, List.set_cons_succ])
  refine Ord.e_loadS Tryz.underlying2 rfl (fun w' hS => ((show Below _ w1 w' from hS).cell (p := ad) hbl2).trans c0) h2 rfl (by kernel_rfl) ?_
  (try simp only [Act.put, List.setIfInBounds_toArray, List.set_cons_zero, List.set_cons_succ])
  ((with_reducible refine Ord.e_p (v := ?_) ?_ ?_ ?_ ?_); rotate_left; (· exact rfl); (· kernel_rfl); (· intro w2; go_simp; try with_reducible rfl))
  (try simp only [Act.put, List.setIfInBounds_toArray, List.set_cons_zero, List.set_cons_succ])
  ((with_reducible refine Ord.e_p (v := ?_) ?_ ?_ ?_ ?_); rotate_left; (· exact rfl); (· kernel_rfl); (· intro w2; go_simp; try with_reducible rfl))
  (try simp only [Act.put, List.setIfInBounds_toArray, List.set_cons_zero, List.set_cons_succ])
  refine Ord.e_loadS Tryz.underlying2 rfl (fun w' hS => ((show Below _ w1 w' from hS).cell (p := ⟨ad.block, ad.off + 1, none⟩) hbl2).trans c1) h2 rfl (by kernel_rfl) ?_
  (try simp only [Act.put, List.setIfInBounds_toArray, List.set_cons_zero, List.set_cons_succ])
  ((with_reducible refine Ord.e_p (v := ?_) ?_ ?_ ?_ ?_); rotate_left; (· exact rfl); (· kernel_rfl); (· intro w2; go_simp; try with_reducible rfl))
  (try simp only [Act.put, List.setIfInBounds_toArray, List.set_cons_zero, List.set_cons_succ])
  ((with_reducible refine Ord.e_p (v := ?_) ?_ ?_ ?_ ?_); rotate_left; (· exact rfl); (· kernel_rfl); (· intro w2; go_simp; try with_reducible rfl))
  (try simp only [Act.put, List.setIfInBounds_toArray, List.set_cons_zero, List.set_cons_succ])
  refine Ord.e_loadS Tryz.underlying2 rfl (fun w' hS => ((show Below _ w1 w' from hS).cell (p := ⟨ad.block, ad.off + 2, none⟩) hbl2).trans c2) h2 rfl (by kernel_rfl) ?_
  (try simp only [Act.put, List.setIfInBounds_toArray, List.set_cons_zero, List.set_cons_succ])
  ((with_reducible refine Ord.e_p (v := ?_) ?_ ?_ ?_ ?_); rotate_left; (· exact rfl); (· kernel_rfl); (· intro w2; go_simp; try with_reducible rfl))
  (try simp only [Act.put, List.setIfInBounds_toArray, List.set_cons_zero, List.set_cons_succ])
  ((with_reducible refine Ord.e_p (v := ?_) ?_ ?_ ?_ ?_); rotate_left; (· exact rfl); (· kernel_rfl); (· intro w2; go_simp; try with_reducible rfl))
  (try simp only [Act.put, List.setIfInBounds_toArray, List.set_cons_zero, List.set_cons_succ])
  refine Ord.e_loadS Tryz.underlying2 rfl (fun w' hS => ((show Below _ w1 w' from hS).cell (p := ⟨ad.block, ad.off + 3, none⟩) hbl2).trans c3) h2 rfl (by kernel_rfl) ?_
  (try simp only [Act.put, List.setIfInBounds_toArray, List.set_cons_zero, List.set_cons_succ])
  ((with_reducible refine Ord.e_p (v := ?_) ?_ ?_ ?_ ?_); rotate_left; (· exact rfl); (· kernel_rfl); (· intro w2; go_simp; try with_reducible rfl))
  (try simp only [Act.put, List.setIfInBounds_toArray, List.set_cons_zero, List.set_cons_succ])
  ((with_reducible refine Ord.e_p (v := ?_) ?_ ?_ ?_ ?_); rotate_left; (· exact rfl); (· kernel_rfl); (· intro w2; go_simp; try with_reducible rfl))
  (try simp only [Act.put, List.setIfInBounds_toArray, List.set_cons_zero, List.set_cons_succ])
  refine Ord.e_loadS Tryz.underlying2 rfl (fun w' hS => ((show Below _ w1 w' from hS).cell (p := ⟨ad.block, ad.off + 4, none⟩) hbl2).trans c4) h2 rfl (by kernel_rfl) ?_
  (try simp only [Act.put, List.setIfInBounds_toArray, List.set_cons_zero, List.set_cons_succ])
  ((with_reducible refine Ord.e_p (v := ?_) ?_ ?_ ?_ ?_); rotate_left; (· exact rfl); (· kernel_rfl); (· intro w2; go_simp; try with_reducible rfl))
  (try simp only [Act.put, List.setIfInBounds_toArray, List.set_cons_zero, List.set_cons_succ])
  ((with_reducible refine Ord.e_p (v := ?_) ?_ ?_ ?_ ?_); rotate_left; (· exact rfl); (· kernel_rfl); (· intro w2; go_simp; try with_reducible rfl))
  (try simp only [Act.put, List.setIfInBounds_toArray, List.set_cons_zero, List.set_cons_succ])
  refine Ord.e_loadS Tryz.underlying2 rfl (fun w' hS => ((show Below _ w1 w' from hS).cell (p := ⟨ad.block, ad.off + 5, none⟩) hbl2).trans c5) h2 rfl (by kernel_rfl) ?_
  (try simp only [Act.put, List.setIfInBounds_toArray, List.set_cons_zero, List.set_cons_succ])
  ((with_reducible refine Ord.e_p (v := ?_) ?_ ?_ ?_ ?_); rotate_left; (· exact rfl); (· kernel_rfl); (· intro w2; go_simp; try with_reducible rfl))
  (try simp only [Act.put, List.setIfInBounds_toArray, List.set_cons_zero, List.set_cons_succ])
  ((with_reducible refine Ord.e_p (v := ?_) ?_ ?_ ?_ ?_); rotate_left; (· exact rfl); (· kernel_rfl); (· intro w2; go_simp; try with_reducible rfl))
  (try simp only [Act.put, List.setIfInBounds_toArray, List.set_cons_zero, List.set_cons_succ])
  refine Ord.e_loadS Tryz.underlying2 rfl (fun w' hS => ((show Below _ w1 w' from hS).cell (p := ⟨ad.block, ad.off + 6, none⟩) hbl2).trans c6) h2 rfl (by kernel_rfl) ?_
  (try simp only [Act.put, List.setIfInBounds_toArray, List.set_cons_zero, List.set_cons_succ])
  ((with_reducible refine Ord.e_p (v := ?_) ?_ ?_ ?_ ?_); rotate_left; (· exact rfl); (· kernel_rfl); (· intro w2; go_simp; try with_reducible rfl))
  (try simp only [Act.put, List.setIfInBounds_toArray, List.set_cons_zero, List.set_cons_succ])
  refine Ord.e_x rfl (by kernel_rfl) ?_
  refine wpList_store_row rfl _ _ _ rfl w.heap.size #[.int .i64 x0, .int .i64 x1, .int .i64 x2, .int .i64 x3, .int .i64 x4, .int .i64 x5, .int .i64 x6] rfl rfl _ _ hres (by kernel_rfl) rfl (by kernel_rfl) ?_
  have h3 := below_setRow h2 (Nat.le_refl _) (#[.int .i64 x0, .int .i64 x1, .int .i64 x2, .int .i64 x3, .int .i64 x4, .int .i64 x5, .int .i64 x6] : Array Value)
  have hb5 := below_setRow hb1 (Nat.le_refl _) (#[.int .i64 x0, .int .i64 x1, .int .i64 x2, .int .i64 x3, .int .i64 x4, .int .i64 x5, .int .i64 x6] : Array Value)
  have hres5 := setRow_heap _ _ _ (#[.int .i64 x0, .int .i64 x1, .int .i64 x2, .int .i64 x3, .int .i64 x4, .int .i64 x5, .int .i64 x6] : Array Value) _ _ hres
  generalize (w2.setRow w.heap.size #[.int .i64 x0, .int .i64 x1, .int .i64 x2, .int .i64 x3, .int .i64 x4, .int .i64 x5, .int .i64 x6]) = w5 at *
  go_wp2_with fail
  refine Ord.Seg.go h3 (fun h => by cases h) ?_
  (try simp only [Act.put, List.setIfInBounds_toArray, List.set_cons_zero, List.set_cons_succ])
  refine Ord.e_nil ?_
  clear h2 h3 hres hb1 c0 c1 c2 c3 c4 c5 c6
  go_wp2
  have hr := results_cell_row (P := Tryz.prog) (fn := Tryz.f148) Tryz.results148
  refine bodyPost_ret (v := .agg #[.int .i64 x0, .int .i64 x1, .int .i64 x2, .int .i64 x3, .int .i64 x4, .int .i64 x5, .int .i64 x6]) (hr _ w5 w.heap.size _ _ (0, 0) _ rfl hres5 Tryz.underlying99 rfl (by kernel_rfl)) rfl ?_
  exact ⟨rfl, hb5⟩

end Go.Proofs.YtmkidihcdljkiaaGreat
