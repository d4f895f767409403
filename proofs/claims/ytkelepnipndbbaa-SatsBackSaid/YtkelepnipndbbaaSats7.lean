/-
  num, knows of layer 17's law; SatsPuts walked (printed by gen_sats7.py).
-/
import Derived.Test.YtkelepnipndbbaaSats6
set_option linter.unusedSimpArgs false
set_option linter.unusedVariables false
namespace Go.Proofs.Ytkelepnipndbbaa
open Go.RowKit NumLaw

theorem num17_any (n : Int) (w : World) : Calls Try.prog 65 #[.int .i64 n] w fun e w' => e = .returned (.int .i64 n) ∧ w = w' := by
  go_enter Try.func65, Try.ntmps65
  go_wp2
  go_ret
  exact ⟨rfl, rfl⟩
set_option maxRecDepth 10000 in
set_option maxHeartbeats 1000000 in
theorem knows17 (w : World) : Calls Try.prog 60 #[] w fun e w' => e = .returned (.bool true) ∧ Below w.heap.size w w' := by
  have hp := satsPut_any 0 none 0 0 [] w (RdR.none_ _ _ _) (by omega) (by simp) (by simp)
  have e1 : satsP 0 [] = [0, 0, 0, 0, 1, 0, 0, 0] := by decide
  have e2 : satsE 0 [] = 0 := by decide
  unfold RetPS at hp
  rw [e1, e2] at hp
  have Hp := Lib.hid hp
  clear e1 e2 hp
  go_enter Try.func60, Try.ntmps60
  go_wp2_with fail
  go_fit Hp.out
  rintro e w1 ⟨A1, n1, c1, rfl, hown1, hb1⟩
  have v1 := run_str w1 46 9 5 Try.underlying46 Try.underlying5 Try.underlying9 (Rd.own hown1)
  have r2 : Rd (w1.alloc (.cells #[.int .u8 0, .int .u8 0, .int .u8 0, .int .u8 0, .int .u8 1, .int .u8 0, .int .u8 0, .int .u8 0] 5)) (w1.heap.size + 1) 1 (some ⟨w1.heap.size, 0, none⟩) 8 8 (bv [0, 0, 0, 0, 1, 0, 0, 0]) := rd_const w1 5 [0, 0, 0, 0, 1, 0, 0, 0] (0, 0) (by simp [maxLen])
  have v2 := run_str _ 46 9 5 Try.underlying46 Try.underlying5 Try.underlying9 r2
  go_wp2_with fail
  go_fit (num17_any 0 _)
  rintro e w2 ⟨rfl, rfl⟩
  go_wp2
  go_ret
  exact ⟨rfl, hb1.alloc hb1.size _⟩

set_option maxRecDepth 10000 in
set_option maxHeartbeats 2000000 in
theorem satsputs_any (t : Int) (A : Option Addr) (n c : Nat) (l : List (List Int)) (w : World) (hr : RdR w w.heap.size 7 A n c (l.map saC)) (ht : -9223372036854775808 ≤ t ∧ t ≤ 9223372036854775807) (hl : ∀ s ∈ l, ∀ z ∈ s, -9223372036854775808 ≤ z ∧ z ≤ 9223372036854775807) (hlen : ∀ s ∈ l, s.length = 7) :
    Calls Try.prog 14 #[.agg #[.int .i64 t, .slice A n c]] w fun e w' => e = .returned (.bool true) ∧ Below w.heap.size w w' := by
  have hmx := hr.2.2.2.1
  have hle := hr.2.2.1
  unfold maxLen at hmx
  have h1 : Below w.heap.size w (w.alloc (.cells #[.int .i64 t, .slice A n c] 89)) := (Below.refl _ _).alloc (Nat.le_refl _) _
  have hbox := heap_alloc_new w (.cells #[.int .i64 t, .slice A n c] 89)
  have c1 := blk_cell (i := 1) (v := .slice A n c) hbox rfl
  have hlb := blk_lt hbox
  go_enter Try.func14, Try.ntmps14
  by_cases hn : 70 < n
  · go_wp2_with fail
    go_fit (knows17 _)
    rintro e w1 ⟨rfl, hb1⟩
    go_wp2
    go_ret
    exact ⟨rfl, bnx h1 hb1⟩
  · go_wp2_with fail
    go_fit (knows17 _)
    rintro e w1 ⟨rfl, hb1⟩
    replace hbox := blk_old hbox hb1 hlb
    have hb2 := bnx h1 hb1
    clear h1 hb1 hlb c1
    have p1 := satsPut_any t A n c l w1 (hr.nx hb2) ht hl hlen
    unfold RetPS at p1
    have P1 := Lib.hid p1
    clear p1
    have c0 : w1.cell? ⟨w.heap.size, 0, none⟩ = some (.int .i64 t) := blk_cell hbox rfl
    have c1 : w1.cell? ⟨w.heap.size, 1, none⟩ = some (.slice A n c) := blk_cell hbox rfl
    go_wp2_with fail
    go_fit P1.out
    rintro e w2 ⟨A2, n2, c2, rfl, hown2, hb12⟩
    have hr2 := Rd.own hown2
    replace hbox := blk_old hbox hb12 (blk_lt hbox)
    have hb3 := bnx hb2 hb12
    clear hown2 hb2 hb12 P1 c0 c1
    have p1 := qsatsPut_any t A n c l w2 (hr.nx hb3) hlen
    unfold RetPS at p1
    have P1 := Lib.hid p1
    clear p1
    have c0 : w2.cell? ⟨w.heap.size, 0, none⟩ = some (.int .i64 t) := blk_cell hbox rfl
    have c1 : w2.cell? ⟨w.heap.size, 1, none⟩ = some (.slice A n c) := blk_cell hbox rfl
    go_wp2_with fail
    go_fit P1.out
    rintro e w3 ⟨A3, n3, c3, rfl, hown3, hb23⟩
    have hr3 := Rd.own hown3
    replace hr2 := hr2.nx hb23
    replace hbox := blk_old hbox hb23 (blk_lt hbox)
    have hb4 := bnx hb3 hb23
    clear hown3 hb3 hb23 P1 c0 c1
    have P1 := Lib.hid (satsUsed_any t A n c l w3 (hr.nx hb4) hlen hl)
    have c0 : w3.cell? ⟨w.heap.size, 0, none⟩ = some (.int .i64 t) := blk_cell hbox rfl
    have c1 : w3.cell? ⟨w.heap.size, 1, none⟩ = some (.slice A n c) := blk_cell hbox rfl
    go_wp2_with fail
    go_fit P1.out
    rintro e w4 ⟨rfl, hb34⟩
    replace hr2 := hr2.nx hb34
    replace hr3 := hr3.nx hb34
    replace hbox := blk_old hbox hb34 (blk_lt hbox)
    have hb5 := bnx hb4 hb34
    clear hb4 hb34 P1 c0 c1
    have P1 := Lib.hid (qsatsUsed_any t A n c l w4 (hr.nx hb5) hlen)
    have c0 : w4.cell? ⟨w.heap.size, 0, none⟩ = some (.int .i64 t) := blk_cell hbox rfl
    have c1 : w4.cell? ⟨w.heap.size, 1, none⟩ = some (.slice A n c) := blk_cell hbox rfl
    go_wp2_with fail
    go_fit P1.out
    rintro e w5 ⟨rfl, hb45⟩
    replace hr2 := hr2.nx hb45
    replace hr3 := hr3.nx hb45
    have hb6 := bnx hb5 hb45
    clear hb5 hb45 P1 c0 c1 hbox
    generalize (usedV l).1 = u1 at *
    generalize (usedV l).2 = u2 at *
    generalize satsE t l = oE at *
    generalize satsP t l = oP at *
    have v1 := run_str w5 46 9 5 Try.underlying46 Try.underlying5 Try.underlying9 hr2
    have v2 := run_str w5 46 9 5 Try.underlying46 Try.underlying5 Try.underlying9 hr3
    go_wp2_with fail
    go_fit (num17_any _ _)
    rintro e w6 ⟨rfl, rfl⟩
    go_wp2_with fail
    go_fit (num17_any _ _)
    rintro e w6 ⟨rfl, rfl⟩
    go_wp2
    go_ret
    exact ⟨rfl, hb6⟩

end Go.Proofs.Ytkelepnipndbbaa
