/-
  The laws AckNil and AckTells walked; what layer 19 must know.
-/
import Derived.Test.YtkelepnipndbbaaAck7
import Derived.Test.YtkelepnipndbbaaOpenRow
set_option linter.unusedSimpArgs false
set_option linter.unusedVariables false
namespace Go.Proofs.Ytkelepnipndbbaa
open Go.RowKit NumLaw
attribute [local go_sem] Addr.add_mid

theorem num19_any (n : Int) (w : World) : Calls Try.prog 34 #[.int .i64 n] w fun e w' => e = .returned (.int .i64 n) ∧ w = w' := by
  go_enter Try.func34, Try.ntmps34
  go_wp2
  go_ret
  exact ⟨rfl, rfl⟩
set_option maxRecDepth 10000 in
set_option maxHeartbeats 1000000 in
theorem knows19 (w : World) : Calls Try.prog 20 #[] w fun e w' => e = .returned (.bool true) ∧ Below w.heap.size w w' := by
  go_enter Try.func20, Try.ntmps20
  go_wp2_with fail
  go_fit (ackNew_any w)
  rintro e w1 ⟨rfl, hk1, hb1⟩
  generalize hg : w.heap.size = g at *
  have hgl : g < w1.heap.size := blk_lt hk1.hp
  have a1 := ask_any g none 0 0 [] 0 0 0 6 1 w1 hk1 (by omega) (by omega) (by omega)
  rw [show (ackOk 6 1 && decide (([] : List (Int × Int)).length < 16)) = true by decide, if_pos rfl] at a1
  go_wp2_with fail
  go_fit a1
  rintro e w2 ⟨rfl, A2, n2, c2, hk2, ha2, hA2⟩
  have hb2 : Below g w w2 := by rw [← hg] at *; exact ⟨ha2.os.trans hb1.os, ha2.tape.trans hb1.tape, ha2.output.trans hb1.output, Nat.le_trans hb1.size ha2.size, fun k hk => (ha2.block k (by have := hb1.size; omega) (by rintro (h | ⟨a, h, _⟩); omega; cases h)).trans (hb1.block k hk)⟩
  have hn2 : n2 = 1 := hk2.rd.1.symm
  have a2 := hear_any g A2 n2 c2 _ 0 0 0 true 6 1 w2 hk2 (by omega) (by omega) (by omega) (by omega)
  rw [show idxI (6, 1) 0 (([] : List (Int × Int)) ++ [(6, 1)]) = 0 by decide] at a2
  rw [show dropAt (([] : List (Int × Int)) ++ [(6, 1)]) 0 = [] by decide] at a2
  simp only [Int.lt_irrefl, if_false, if_true, Nat.zero_add, Int.le_refl, decide_true] at a2
  go_wp2_with fail
  go_fit a2
  rintro e w3 ⟨rfl, A3, n3, c3, hk3, ha3, hA3⟩
  have hb3 : Below g w w3 := ⟨ha3.os.trans hb2.os, ha3.tape.trans hb2.tape, ha3.output.trans hb2.output, Nat.le_trans hb2.size ha3.size, fun k hk => (ha3.block k (by have := hb2.size; omega) (by rintro (h | ⟨a, h, h'⟩); omega; have := (hk2.ne a h).1; omega)).trans (hb2.block k hk)⟩
  have hn3 : n3 = 0 := hk3.rd.1.symm
  have a3' := hear_any g A3 n3 c3 _ 1 0 0 false 6 1 w3 hk3 (by omega) (by omega) (by omega) (by omega)
  rw [show idxI (6, 1) 0 ([] : List (Int × Int)) = -1 by decide] at a3'
  rw [show dropAt ([] : List (Int × Int)) (-1) = [] by decide] at a3'
  rw [if_pos (by decide), if_pos (by decide), if_pos (by decide), show decide ((0 : Int) ≤ -1) = false by decide] at a3'
  go_wp2_with fail
  go_fit a3'
  rintro e w4 ⟨rfl, A4, n4, c4, hk4, ha4, hA4⟩
  have hb4 : Below g w w4 := ⟨ha4.os.trans hb3.os, ha4.tape.trans hb3.tape, ha4.output.trans hb3.output, Nat.le_trans hb3.size ha4.size, fun k hk => (ha4.block k (by have := hb3.size; omega) (by rintro (h | ⟨a, h, h'⟩); omega; have := (hk3.ne a h).1; omega)).trans (hb3.block k hk)⟩
  go_wp2_with fail
  go_fit (counts_any g A4 n4 c4 _ 1 0 1 w4 hk4)
  rintro e w5 ⟨rfl, hb5⟩
  have hb5' : Below g w w5 := hb4.trans (hb5.mono (by have := hb4.size; have := blk_lt hk4.hp; omega))
  go_wp2
  go_ret
  exact ⟨rfl, by rw [hg]; exact hb5'⟩

set_option maxRecDepth 10000 in
set_option maxHeartbeats 1000000 in
theorem acknil_any (y : Bool) (c i : Int) (w : World) (hc : -9223372036854775808 ≤ c ∧ c ≤ 9223372036854775807) (hi : -9223372036854775808 ≤ i ∧ i ≤ 9223372036854775807) :
    Calls Try.prog 5 #[.agg #[.bool y, .int .i64 c, .int .i64 i]] w fun e w' => e = .returned (.bool true) ∧ Below w.heap.size w w' := by
  have hb1 : Below w.heap.size w (w.alloc (.cells #[.bool y, .int .i64 c, .int .i64 i] 30)) := (Below.refl _ _).alloc (Nat.le_refl _) _
  have hbox := heap_alloc_new w (.cells #[.bool y, .int .i64 c, .int .i64 i] 30)
  go_enter Try.func5, Try.ntmps5
  go_wp2_with fail
  generalize (w.alloc (.cells #[.bool y, .int .i64 c, .int .i64 i] 30)) = w1 at *
  go_loopw [3, 4] (fun p j wr => ∃ k : Nat, k ≤ 2 ∧ j = .int .i64 k ∧ Below w.heap.size w wr ∧ wr.heap[w.heap.size]? = some (.cells #[.bool y, .int .i64 c, .int .i64 i] 30) ∧ ((k = 0 ∧ p = .pointer none) ∨ ∃ g, p = .pointer (some ⟨g, 0, none⟩) ∧ wr.heap[g]? = some (.cells #[.bool false, .slice none 0 0, .int .i64 0, .int .i64 0, .int .i64 0] 45))) (fun _ j _ => 2 - (intOf j).toNat)
  case atStart => exact ⟨0, by omega, rfl, hb1, hbox, .inl ⟨rfl, rfl⟩⟩
  case round =>
    clear hb1 hbox w1
    obtain ⟨k, hk, rfl, hb, hbox, hp⟩ := hrel
    by_cases hlt : k < 2
    · have c0 : wr.cell? ⟨w.heap.size, 0, none⟩ = some (.bool y) := blk_cell hbox rfl
      have c1 : wr.cell? ⟨w.heap.size, 1, none⟩ = some (.int .i64 c) := blk_cell hbox rfl
      have c2 : wr.cell? ⟨w.heap.size, 2, none⟩ = some (.int .i64 i) := blk_cell hbox rfl
      rcases hp with ⟨rfl, rfl⟩ | ⟨g, rfl, hp⟩
      · go_wp2_with fail
        go_fit (counts_nil _)
        rintro e w2 ⟨rfl, hw2⟩
        subst hw2
        go_wp2_with fail
        go_fit (ask_nil c i _ hc hi)
        rintro e w2 ⟨rfl, hb12⟩
        have hb2 := bnx hb hb12
        replace hbox := blk_old hbox hb12 (blk_lt hbox)
        replace c0 : w2.cell? ⟨w.heap.size, 0, none⟩ = some (.bool y) := blk_cell hbox rfl
        replace c1 : w2.cell? ⟨w.heap.size, 1, none⟩ = some (.int .i64 c) := blk_cell hbox rfl
        replace c2 : w2.cell? ⟨w.heap.size, 2, none⟩ = some (.int .i64 i) := blk_cell hbox rfl
        clear hb12 hb
        go_wp2_with fail
        go_fit (hear_nil y c i _)
        rintro e w3 ⟨rfl, hb23⟩
        have hb3 := bnx hb2 hb23
        replace hbox := blk_old hbox hb23 (blk_lt hbox)
        clear hb23 hb2 c0 c1 c2
        go_wp2_with fail
        go_fit (open_nil _)
        rintro e w4 ⟨rfl, hw4⟩
        subst hw4
        have hb4 := hb3.alloc hb3.size (.cells #[.bool false, .slice none 0 0, .int .i64 0, .int .i64 0, .int .i64 0] 45)
        replace hbox := (heap_alloc_old w3 (.cells #[.bool false, .slice none 0 0, .int .i64 0, .int .i64 0, .int .i64 0] 45) (blk_lt hbox)).trans hbox
        have hnew := heap_alloc_new w3 (.cells #[.bool false, .slice none 0 0, .int .i64 0, .int .i64 0, .int .i64 0] 45)
        go_wp2
        go_roundw
        case rel => exact ⟨1, by omega, by go_num, hb4, hbox, .inr ⟨w3.heap.size, rfl, hnew⟩⟩
        case measure => simp [intOf]
      · have p0 : wr.cell? ⟨g, 0, none⟩ = some (.bool false) := blk_cell hp rfl
        go_wp2_with fail
        go_fit (counts_un g _ p0)
        rintro e w2 ⟨rfl, hw2⟩
        subst hw2
        go_wp2_with fail
        go_fit (ask_un g c i _ p0 (blk_lt hp) hc hi)
        rintro e w2 ⟨rfl, hb12⟩
        have hb2 := bnx hb hb12
        replace hbox := blk_old hbox hb12 (blk_lt hbox)
        replace hp := blk_old hp hb12 (blk_lt hp)
        replace p0 : w2.cell? ⟨g, 0, none⟩ = some (.bool false) := blk_cell hp rfl
        replace c0 : w2.cell? ⟨w.heap.size, 0, none⟩ = some (.bool y) := blk_cell hbox rfl
        replace c1 : w2.cell? ⟨w.heap.size, 1, none⟩ = some (.int .i64 c) := blk_cell hbox rfl
        replace c2 : w2.cell? ⟨w.heap.size, 2, none⟩ = some (.int .i64 i) := blk_cell hbox rfl
        clear hb12 hb
        go_wp2_with fail
        go_fit (hear_un g y c i _ p0 (blk_lt hp))
        rintro e w3 ⟨rfl, hb23⟩
        have hb3 := bnx hb2 hb23
        replace hbox := blk_old hbox hb23 (blk_lt hbox)
        replace hp := blk_old hp hb23 (blk_lt hp)
        replace p0 : w3.cell? ⟨g, 0, none⟩ = some (.bool false) := blk_cell hp rfl
        clear hb23 hb2 c0 c1 c2
        go_wp2_with fail
        go_fit (open_un g _ p0)
        rintro e w4 ⟨rfl, hw4⟩
        subst hw4
        have hb4 := hb3.alloc hb3.size (.cells #[.bool false, .slice none 0 0, .int .i64 0, .int .i64 0, .int .i64 0] 45)
        replace hbox := (heap_alloc_old w3 (.cells #[.bool false, .slice none 0 0, .int .i64 0, .int .i64 0, .int .i64 0] 45) (blk_lt hbox)).trans hbox
        have hnew := heap_alloc_new w3 (.cells #[.bool false, .slice none 0 0, .int .i64 0, .int .i64 0, .int .i64 0] 45)
        go_wp2
        go_roundw
        case rel => exact ⟨k + 1, by omega, by go_num, hb4, hbox, .inr ⟨w3.heap.size, rfl, hnew⟩⟩
        case measure => simp [intOf]; omega
    · go_wp2_with fail
      go_fit (knows19 _)
      rintro e w2 ⟨rfl, hb2⟩
      go_wp2
      go_ret
      exact ⟨rfl, bnx hb hb2⟩
theorem ack_same (y : Bool) (c i : Int) (w : World) : (binOp .eql 30 (.agg #[.bool y, .int .i64 c, .int .i64 i]) (.agg #[.bool y, .int .i64 c, .int .i64 i])).run Try.prog w = .ok (.bool true) w := by
  rw [ack_eq]; simp
theorem ack_nsame (y : Bool) (c i : Int) (w : World) : (binOp .neq 30 (.agg #[.bool y, .int .i64 c, .int .i64 i]) (.agg #[.bool y, .int .i64 c, .int .i64 i])).run Try.prog w = .ok (.bool false) w := by
  rw [run_neq_struct, run_equalIn_agg w 9999 _ _ _ (by simp only [Program.fieldsOf, Try.underlying30]) ack_held]
  simp [Program.fieldsOf, Try.underlying30, Op.eqFields, part, run_equalIn_int w _ _ _ _ _ _ Try.underlying2, run_equalIn_bool3 w _ _ _ _ Try.underlying4]
section
open Go.ChangeShapes Go.WideShapes Go.ChangeAt
variable {H : Type} {enc : TypeId × Value → H} {W : World}
set_option maxRecDepth 10000 in
theorem open_ack {b0 : Nat} {v : Value} {d : DataW H} {p : List MemPlace} (hv : Value.okWide Try.prog W .any b0 30 v) (h : DataW.Trod enc Try.prog W 0 (fun _ => true) true 30 v d p) :
    ∃ (y : Bool) (c i : Int), v = .agg #[.bool y, .int .i64 c, .int .i64 i] ∧ (-9223372036854775808 ≤ c ∧ c ≤ 9223372036854775807) ∧ (-9223372036854775808 ≤ i ∧ i ≤ 9223372036854775807) := by
  obtain ⟨cs, rfl, hs, hat⟩ := open_row Try.underlying30 (by kernel_rfl) (by kernel_rfl) hv h
  obtain ⟨u0, m0, y0, c0, t0⟩ := hat 0 _ rfl
  obtain ⟨u1, m1, y1, c1, t1⟩ := hat 1 _ rfl
  obtain ⟨u2, m2, y2, c2, t2⟩ := hat 2 _ rfl
  obtain ⟨z0, e0, _⟩ := DataW.trod_bool Try.underlying4 t0
  obtain ⟨z1, e1, _, w1⟩ := DataW.trod_int Try.underlying2 t1
  obtain ⟨z2, e2, _, w2⟩ := DataW.trod_int Try.underlying2 t2
  injection e0 with e0; injection e1 with e1; injection e2 with e2
  subst e0; subst e1; subst e2
  refine ⟨z0, z1, z2, ?_, bounds_i64 w1, bounds_i64 w2⟩
  have hs3 : cs.size = 3 := hs
  congr 1
  apply Array.ext
  · simpa using hs3
  · intro i h1 h2
    have h2 : i < 3 := by simpa using h2
    match i, h2 with
    | 0, _ => simpa [Array.getElem?_eq_getElem h1] using c0
    | 1, _ => simpa [Array.getElem?_eq_getElem h1] using c1
    | 2, _ => simpa [Array.getElem?_eq_getElem h1] using c2
end
set_option maxRecDepth 10000 in
set_option maxHeartbeats 4000000 in
theorem acktells_any (y : Bool) (c i : Int) (A : Option Addr) (n k : Nat) (b : List UInt8) (w : World) (hx : ∀ z ∈ [c, i], -9223372036854775808 ≤ z ∧ z ≤ 9223372036854775807) (h : Rd w w.heap.size 1 A n k (bv b)) :
    Calls Try.prog 6 #[.agg #[.bool y, .int .i64 c, .int .i64 i], .slice A n k] w fun e w' => e = .returned (.bool true) ∧ Below w.heap.size w w' := by
  have hput := fun w => ackPut_any c i y w hx
  have hqput := fun w => qackPut_any c i y w hx
  have hb0 : Below w.heap.size w (w.alloc (.cells #[.bool y, .int .i64 c, .int .i64 i] 30)) := (Below.refl _ _).alloc (Nat.le_refl _) _
  have hd := heap_alloc_new w (.cells #[.bool y, .int .i64 c, .int .i64 i] 30)
  obtain ⟨vs, hvs⟩ : ∃ vs, vs = [c, i] := ⟨_, rfl⟩
  rw [← hvs] at hput hqput
  have hthere := @takeD_there ackF vs
  have hlen := @shape_there ackF vs
  have hwd : widthL ackF = 2 := by decide
  rw [hwd] at hlen
  generalize shP ackF vs = oP at *
  generalize shE ackF vs = oE at *
  have hlen2 : oE = 0 → oP.length = 2 := fun h => (hlen h).2.2
  have Hput := Lib.hid hput
  have Hqput := Lib.hid hqput
  have Hthere := Lib.hid hthere
  have Hlen2 := Lib.hid hlen2
  have Hvs := Lib.hid hvs
  clear hput hqput hthere hlen hlen2 hvs hwd hx
  have hltd := blk_lt hd
  go_enter Try.func6, Try.ntmps6
  by_cases hn : 50 < n
  · go_wp2_with fail
    go_fit (knows19 _)
    rintro e w1 ⟨rfl, hb1⟩
    go_wp2
    go_ret
    exact ⟨rfl, bnx hb0 hb1⟩
  · go_wp2_with fail
    generalize (w.alloc (.cells #[.bool y, .int .i64 c, .int .i64 i] 30)) = w0 at *
    go_fit (knows19 _)
    rintro e w1 ⟨rfl, hb1⟩
    replace hd := blk_old hd hb1 hltd
    replace hb1 := bnx hb0 hb1
    clear hb0 hltd
    have d0 : w1.cell? ⟨w.heap.size, 0, none⟩ = some (.bool y) := blk_cell hd rfl
    have d1 : w1.cell? ⟨w.heap.size, 1, none⟩ = some (.int .i64 c) := blk_cell hd rfl
    have d2 : w1.cell? ⟨w.heap.size, 2, none⟩ = some (.int .i64 i) := blk_cell hd rfl
    go_wp2_with fail
    go_fit (Hput.out _)
    rintro e w2 ⟨A2, n2, c2, rfl, hown2, hb2⟩
    have hp2 := Rd.own hown2
    replace hd := blk_old hd hb2 (blk_lt hd)
    replace hb2 := bnx hb1 hb2
    have hlp := own_len hown2
    clear hown2 hb1 d0 d1 d2
    have d0 : w2.cell? ⟨w.heap.size, 0, none⟩ = some (.bool y) := blk_cell hd rfl
    have d1 : w2.cell? ⟨w.heap.size, 1, none⟩ = some (.int .i64 c) := blk_cell hd rfl
    have d2 : w2.cell? ⟨w.heap.size, 2, none⟩ = some (.int .i64 i) := blk_cell hd rfl
    go_wp2_with fail
    go_fit (Hqput.out _)
    rintro e w3 ⟨A3, n3, c3, rfl, hown3, hb3⟩
    have hp3 := Rd.own hown3
    replace hp2 := hp2.nx hb3
    replace hd := blk_old hd hb3 (blk_lt hd)
    replace hb3 := bnx hb2 hb3
    clear hown3 hb2 d0 d1 d2
    have d0 : w3.cell? ⟨w.heap.size, 0, none⟩ = some (.bool y) := blk_cell hd rfl
    have d1 : w3.cell? ⟨w.heap.size, 1, none⟩ = some (.int .i64 c) := blk_cell hd rfl
    have d2 : w3.cell? ⟨w.heap.size, 2, none⟩ = some (.int .i64 i) := blk_cell hd rfl
    go_wp2_with fail
    go_fit (ackTake_any A n k w.heap.size b y _ (h.up hb3) hb3.size (by omega))
    rintro e w4 ⟨y0, y1, hy, rfl, hb4⟩
    generalize hyy : (if shTE ackF b = 0 then y else false) = yy at *
    have Hyy := Lib.hid hyy
    clear hyy
    replace hb4 := hb4.alloc hb4.size (.cells #[.bool yy, .int .i64 y0, .int .i64 y1] 30)
    have hm := heap_alloc_new w4 (.cells #[.bool yy, .int .i64 y0, .int .i64 y1] 30)
    replace hp2 := hp2.nx hb4
    replace hp3 := hp3.nx hb4
    replace hd := blk_old hd hb4 (blk_lt hd)
    replace hb4 := bnx hb3 hb4
    clear hb3 d0 d1 d2
    have d0 : (w4.alloc (.cells #[.bool yy, .int .i64 y0, .int .i64 y1] 30)).cell? ⟨w.heap.size, 0, none⟩ = some (.bool y) := blk_cell hd rfl
    have d1 : (w4.alloc (.cells #[.bool yy, .int .i64 y0, .int .i64 y1] 30)).cell? ⟨w.heap.size, 1, none⟩ = some (.int .i64 c) := blk_cell hd rfl
    have d2 : (w4.alloc (.cells #[.bool yy, .int .i64 y0, .int .i64 y1] 30)).cell? ⟨w.heap.size, 2, none⟩ = some (.int .i64 i) := blk_cell hd rfl
    go_wp2_with fail
    generalize (w4.alloc (.cells #[.bool yy, .int .i64 y0, .int .i64 y1] 30)) = w5 at *
    generalize w4.heap.size = gm at *
    go_fit (qackTake_any A n k w.heap.size b y _ (h.up hb4) hb4.size (by omega))
    rintro e w6 ⟨z0, z1, hz, rfl, hb6⟩
    rw [Hyy.out]
    obtain ⟨rfl, rfl⟩ : z0 = y0 ∧ z1 = y1 := by
      rw [← hy] at hz
      simpa using hz
    clear hy hz
    generalize shTE ackF b = oG at *
    replace hb6 := hb6.alloc hb6.size (.cells #[.bool yy, .int .i64 z0, .int .i64 z1] 30)
    have hm2 := heap_alloc_new w6 (.cells #[.bool yy, .int .i64 z0, .int .i64 z1] 30)
    replace hp2 := hp2.nx hb6
    replace hp3 := hp3.nx hb6
    replace hd := blk_old hd hb6 (blk_lt hd)
    replace hm := blk_old hm hb6 (blk_lt hm)
    replace hb6 := bnx hb4 hb6
    clear hb4 d0 d1 d2
    go_wp2_with fail
    generalize (w6.alloc (.cells #[.bool yy, .int .i64 z0, .int .i64 z1] 30)) = w7 at *
    generalize w6.heap.size = gm2 at *
    go_fit (num19_any _ _)
    rintro e v ⟨rfl, hv⟩
    subst hv
    by_cases he : oE = 0
    · obtain ⟨q1, q2⟩ := Hthere.out he
      have htake := ackTake_any A2 n2 c2 _ oP y w7 hp2 (Nat.le_refl _) (by have := Hlen2.out he; omega)
      rw [q1, q2, if_pos rfl] at htake
      have he' : (oE : Int) = 0 := by omega
      have d0 : w7.cell? ⟨w.heap.size, 0, none⟩ = some (.bool y) := blk_cell hd rfl
      have d1 : w7.cell? ⟨w.heap.size, 1, none⟩ = some (.int .i64 c) := blk_cell hd rfl
      have d2 : w7.cell? ⟨w.heap.size, 2, none⟩ = some (.int .i64 i) := blk_cell hd rfl
      go_wp2_with fail
      go_fit htake
      rintro e w8 ⟨x0, x1, hx, rfl, hb8⟩
      rw [Hvs.out] at hx
      obtain ⟨rfl, rfl⟩ : x0 = c ∧ x1 = i := by simpa using hx
      clear hx htake q1 q2 d0 d1 d2
      replace hb8 := hb8.alloc hb8.size (.cells #[.bool y, .int .i64 x0, .int .i64 x1] 30)
      have hn8 := heap_alloc_new w8 (.cells #[.bool y, .int .i64 x0, .int .i64 x1] 30)
      replace hp2 := hp2.nx hb8
      replace hp3 := hp3.nx hb8
      replace hd := blk_old hd hb8 (blk_lt hd)
      replace hm := blk_old hm hb8 (blk_lt hm)
      replace hm2 := blk_old hm2 hb8 (blk_lt hm2)
      replace hb8 := bnx hb6 hb8
      clear hb6
      have d0 := blk_cell (i := 0) (v := .bool y) hd rfl
      have d1 := blk_cell (i := 1) (v := .int .i64 x0) hd rfl
      have d2 := blk_cell (i := 2) (v := .int .i64 x1) hd rfl
      have q0 := blk_cell (i := 0) (v := .bool y) hn8 rfl
      have q1 := blk_cell (i := 1) (v := .int .i64 x0) hn8 rfl
      have q2 := blk_cell (i := 2) (v := .int .i64 x1) hn8 rfl
      have hns := ack_nsame y x0 x1
      go_wp2_with fail
      generalize (w8.alloc (.cells #[.bool y, .int .i64 x0, .int .i64 x1] 30)) = w9 at *
      clear hns d0 d1 d2 q0 q1 q2 hn8 hd
      go_fit (num19_any _ _)
      rintro e v ⟨rfl, hv⟩
      subst hv
      have e0 : w9.cell? ⟨gm, 0, none⟩ = some (.bool yy) := blk_cell hm rfl
      have e1 : w9.cell? ⟨gm, 1, none⟩ = some (.int .i64 z0) := blk_cell hm rfl
      have e2 : w9.cell? ⟨gm, 2, none⟩ = some (.int .i64 z1) := blk_cell hm rfl
      have f0 : w9.cell? ⟨gm2, 0, none⟩ = some (.bool yy) := blk_cell hm2 rfl
      have f1 : w9.cell? ⟨gm2, 1, none⟩ = some (.int .i64 z0) := blk_cell hm2 rfl
      have f2 : w9.cell? ⟨gm2, 2, none⟩ = some (.int .i64 z1) := blk_cell hm2 rfl
      have v1 := run_str w9 46 9 5 Try.underlying46 Try.underlying5 Try.underlying9 hp2
      have v2 := run_str w9 46 9 5 Try.underlying46 Try.underlying5 Try.underlying9 hp3
      have hsame := ack_same yy z0 z1
      go_wp2_with fail
      go_fit (num19_any _ _)
      rintro e v ⟨rfl, hv⟩
      subst hv
      go_wp2_with fail
      go_fit (num19_any _ _)
      rintro e v ⟨rfl, hv⟩
      subst hv
      go_wp2_with fail
      go_fit (num19_any _ _)
      rintro e v ⟨rfl, hv⟩
      subst hv
      go_wp2_with fail
      go_fit (num19_any _ _)
      rintro e v ⟨rfl, hv⟩
      subst hv
      go_wp2
      go_ret
      exact ⟨by simp, hb8⟩
    · have he' : ¬ (oE : Int) = 0 := by omega
      have e0 : w7.cell? ⟨gm, 0, none⟩ = some (.bool yy) := blk_cell hm rfl
      have e1 : w7.cell? ⟨gm, 1, none⟩ = some (.int .i64 z0) := blk_cell hm rfl
      have e2 : w7.cell? ⟨gm, 2, none⟩ = some (.int .i64 z1) := blk_cell hm rfl
      have f0 : w7.cell? ⟨gm2, 0, none⟩ = some (.bool yy) := blk_cell hm2 rfl
      have f1 : w7.cell? ⟨gm2, 1, none⟩ = some (.int .i64 z0) := blk_cell hm2 rfl
      have f2 : w7.cell? ⟨gm2, 2, none⟩ = some (.int .i64 z1) := blk_cell hm2 rfl
      have v1 := run_str w7 46 9 5 Try.underlying46 Try.underlying5 Try.underlying9 hp2
      have v2 := run_str w7 46 9 5 Try.underlying46 Try.underlying5 Try.underlying9 hp3
      have hsame := ack_same yy z0 z1
      go_wp2_with fail
      go_fit (num19_any _ _)
      rintro e v ⟨rfl, hv⟩
      subst hv
      go_wp2_with fail
      go_fit (num19_any _ _)
      rintro e v ⟨rfl, hv⟩
      subst hv
      go_wp2_with fail
      go_fit (num19_any _ _)
      rintro e v ⟨rfl, hv⟩
      subst hv
      go_wp2_with fail
      go_fit (num19_any _ _)
      rintro e v ⟨rfl, hv⟩
      subst hv
      go_wp2
      go_ret
      exact ⟨by simp, hb6⟩

end Go.Proofs.Ytkelepnipndbbaa
