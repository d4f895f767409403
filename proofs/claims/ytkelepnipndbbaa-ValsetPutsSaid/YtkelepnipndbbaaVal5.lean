/-
  ValsetPuts walked (printed by gen_val5.py).
-/
import Derived.Test.YtkelepnipndbbaaVal4
set_option linter.unusedSimpArgs false
set_option linter.unusedVariables false
namespace Go.Proofs.Ytkelepnipndbbaa
open Go.RowKit NumLaw

set_option maxRecDepth 10000 in
set_option maxHeartbeats 4000000 in
theorem valputs_any (t : Int) (A : Option Addr) (n c : Nat) (l : List (Int × Int)) (key : Int) (w : World) (hr : RdR w w.heap.size 2 A n c (l.map prC)) (ht : -9223372036854775808 ≤ t ∧ t ≤ 9223372036854775807) (hl : ∀ p ∈ l, (-9223372036854775808 ≤ p.1 ∧ p.1 ≤ 9223372036854775807) ∧ -9223372036854775808 ≤ p.2 ∧ p.2 ≤ 9223372036854775807) (hk : -9223372036854775808 ≤ key ∧ key ≤ 9223372036854775807) :
    Calls Try.prog 17 #[.agg #[.int .i64 t, .slice A n c], .int .i64 key] w fun e w' => e = .returned (.bool true) ∧ Below w.heap.size w w' := by
  have hmx := hr.2.2.2.1
  have hle := hr.2.2.1
  unfold maxLen at hmx
  have h1 : Below w.heap.size w (w.alloc (.cells #[.int .i64 t, .slice A n c] 101)) := (Below.refl _ _).alloc (Nat.le_refl _) _
  have hbox := heap_alloc_new w (.cells #[.int .i64 t, .slice A n c] 101)
  have c1 := blk_cell (i := 1) (v := .slice A n c) hbox rfl
  have hlb := blk_lt hbox
  go_enter Try.func17, Try.ntmps17
  by_cases hn : 40 < n
  · go_wp2_with fail
    go_fit (knows20 _)
    rintro e w1 ⟨rfl, hb1⟩
    go_wp2
    go_ret
    exact ⟨rfl, bnx h1 hb1⟩
  go_wp2_with fail
  go_fit (knows20 _)
  rintro e w1 ⟨rfl, hb1⟩
  replace hbox := blk_old hbox hb1 hlb
  have hb2 := bnx h1 hb1
  clear h1 hb1 hlb c1
  have hl' := Lib.hid hl
  clear hl
  have p1 := valPut_any t A n c l w1 (hr.nx hb2) ht
  unfold RetPS at p1
  have P1 := Lib.hid p1
  clear p1
  have c0 : w1.cell? ⟨w.heap.size, 0, none⟩ = some (.int .i64 t) := blk_cell hbox rfl
  have c1 : w1.cell? ⟨w.heap.size, 1, none⟩ = some (.slice A n c) := blk_cell hbox rfl
  go_wp2_with fail
  go_fit P1.out
  rintro e w2 ⟨A2, n2, c2, rfl, hown2, hb12⟩
  have hr2 := Rd.own hown2
  replace hbox := blk_old hbox hb12 (blk_lt hbox)
  have hb3 := bnx hb2 hb12
  clear hown2 hb2 hb12 P1 c0 c1
  have p1 := qvalPut_any t A n c l w2 (hr.nx hb3) ht hl'.out
  unfold RetPS at p1
  have P1 := Lib.hid p1
  clear p1
  have c0 : w2.cell? ⟨w.heap.size, 0, none⟩ = some (.int .i64 t) := blk_cell hbox rfl
  have c1 : w2.cell? ⟨w.heap.size, 1, none⟩ = some (.slice A n c) := blk_cell hbox rfl
  go_wp2_with fail
  go_fit P1.out
  rintro e w3 ⟨A3, n3, c3, rfl, hown3, hb23⟩
  have hr3 := Rd.own hown3
  replace hr2 := hr2.nx hb23
  replace hbox := blk_old hbox hb23 (blk_lt hbox)
  have hb4 := bnx hb3 hb23
  clear hown3 hb3 hb23 P1 c0 c1
  have S1 := fun w => vsize_any key w
  have S2 := fun w => qvsize_any key w hk
  have M1 := fun w => vmost_any key w
  have M2 := fun w => qvmost_any key w hk
  generalize decide (szN key ≠ 0) = oB at *
  generalize szN key = oS at *
  generalize msN key = oM at *
  go_wp2_with fail
  go_fit (S1 _)
  rintro e w4 ⟨rfl, hb34⟩
  replace hr2 := hr2.nx hb34
  replace hr3 := hr3.nx hb34
  replace hbox := blk_old hbox hb34 (blk_lt hbox)
  have hb5 := bnx hb4 hb34
  clear hb4 hb34
  go_wp2_with fail
  go_fit (S2 _)
  rintro e w5 ⟨rfl, hb45⟩
  replace hr2 := hr2.nx hb45
  replace hr3 := hr3.nx hb45
  replace hbox := blk_old hbox hb45 (blk_lt hbox)
  have hb6 := bnx hb5 hb45
  clear hb5 hb45 S1 S2
  have P1 := Lib.hid (valGet_any t A n c l key w5 (hr.nx hb6))
  have c0 : w5.cell? ⟨w.heap.size, 0, none⟩ = some (.int .i64 t) := blk_cell hbox rfl
  have c1 : w5.cell? ⟨w.heap.size, 1, none⟩ = some (.slice A n c) := blk_cell hbox rfl
  go_wp2_with fail
  go_fit P1.out
  rintro e w6 ⟨rfl, hb56⟩
  replace hr2 := hr2.nx hb56
  replace hr3 := hr3.nx hb56
  replace hbox := blk_old hbox hb56 (blk_lt hbox)
  have hb7 := bnx hb6 hb56
  clear hb6 hb56 P1 c0 c1
  have P1 := Lib.hid (qvalGet_any t A n c l key w6 (hr.nx hb7))
  have c0 : w6.cell? ⟨w.heap.size, 0, none⟩ = some (.int .i64 t) := blk_cell hbox rfl
  have c1 : w6.cell? ⟨w.heap.size, 1, none⟩ = some (.slice A n c) := blk_cell hbox rfl
  go_wp2_with fail
  go_fit P1.out
  rintro e w7 ⟨rfl, hb67⟩
  replace hr2 := hr2.nx hb67
  replace hr3 := hr3.nx hb67
  have hb8 := bnx hb7 hb67
  clear hb7 hb67 P1 c0 c1 hbox
  generalize (getV key l).1 = g1 at *
  generalize (getV key l).2 = g2 at *
  generalize valE t l = oE at *
  generalize valP t l = oP at *
  have v1 := run_str w7 46 9 5 Try.underlying46 Try.underlying5 Try.underlying9 hr2
  have v2 := run_str w7 46 9 5 Try.underlying46 Try.underlying5 Try.underlying9 hr3
  go_wp2_with fail
  go_fit (num20_any _ _)
  rintro e w8 ⟨rfl, rfl⟩
  go_wp2_with fail
  go_fit (num20_any _ _)
  rintro e w8 ⟨rfl, rfl⟩
  go_wp2_with fail
  go_fit (M1 _)
  rintro e w8 ⟨rfl, hb78⟩
  have hb9 := bnx hb8 hb78
  clear v1 v2 hr2 hr3 hb8 hb78
  go_wp2_with fail
  go_fit (M2 _)
  rintro e w9 ⟨rfl, hb89⟩
  have hba := bnx hb9 hb89
  go_wp2
  go_ret
  exact ⟨rfl, hba⟩

end Go.Proofs.Ytkelepnipndbbaa
