/-
  A key's value in a message: the program's Get and the document's, walked; knows of layer 20's law.
-/
import Derived.Test.YtkelepnipndbbaaVal3
set_option linter.unusedSimpArgs false
set_option linter.unusedVariables false
namespace Go.Proofs.Ytkelepnipndbbaa
open Go.RowKit NumLaw
attribute [local go_sem] Addr.add_mid

theorem getV_at {key : Int} {l : List (Int × Int)} {k : Nat} {p : Int × Int} (h : l[k]? = some p) : getV key (l.take (k + 1)) = if p.1 = key then (p.2, true) else getV key (l.take k) := by
  rw [take_succ h, getV_snoc]
set_option maxRecDepth 10000 in
set_option maxHeartbeats 4000000 in
theorem valGet_any (t : Int) (A : Option Addr) (n c : Nat) (l : List (Int × Int)) (key : Int) (w : World) (hr : RdR w w.heap.size 2 A n c (l.map prC)) :
    Calls Try.prog 78 #[.agg #[.int .i64 t, .slice A n c], .int .i64 key] w fun e w' => e = .returned (.tuple #[.int .i64 (getV key l).1, .bool (getV key l).2]) ∧ Below w.heap.size w w' := by
  have hll : l.length = n := by have := hr.1; simpa using this
  have hle := hr.2.2.1
  have hmx := hr.2.2.2.1
  unfold maxLen at hmx
  have Hll := Lib.hid hll
  clear hll
  have hb1 : Below w.heap.size w (w.alloc (.cells #[.int .i64 t, .slice A n c] 101)) := (Below.refl _ _).alloc (Nat.le_refl _) _
  have hbox := heap_alloc_new w (.cells #[.int .i64 t, .slice A n c] 101)
  have c1 : (w.alloc (.cells #[.int .i64 t, .slice A n c] 101)).cell? ⟨w.heap.size, 1, none⟩ = some (.slice A n c) := blk_cell hbox rfl
  obtain ⟨oV, hoV⟩ : ∃ v, v = (getV key l).1 := ⟨_, rfl⟩
  obtain ⟨oB, hoB⟩ : ∃ v, v = (getV key l).2 := ⟨_, rfl⟩
  rw [← hoV, ← hoB]
  have Ho : Hid ((oV, oB) = getV key l) := Lib.hid (by rw [hoV, hoB])
  clear hoV hoB
  go_enter Try.func78, Try.ntmps78
  go_wp2_with fail
  generalize (w.alloc (.cells #[.int .i64 t, .slice A n c] 101)) = w1 at *
  have hlt := blk_lt hbox
  clear hbox
  have hn1 : IntKind.i64.wrap ((n : Int) - 1) = (n : Int) - 1 := by rw [IntKind.wrap_i64]; omega
  go_loopw [6] (fun i wr => ∃ (k : Nat), k ≤ n ∧ i = .int .i64 ((k : Int) - 1) ∧ Below w1.heap.size w1 wr ∧ Hid (∀ j p, k ≤ j → l[j]? = some p → p.1 ≠ key)) (fun i _ => (intOf i + 1).toNat)
  case atStart => exact ⟨n, Nat.le_refl _, by first | rfl | simp [hn1], Below.refl _ _, Lib.hid (fun j p hj hp => by have := (List.getElem?_eq_some_iff.1 hp).1; rw [Hll.out] at this; omega)⟩
  case round =>
    clear hn1
    obtain ⟨k, hk, rfl, hb, hno⟩ := hrel
    have hbw := hb1.trans (hb.mono hb1.size)
    have d1 := (hb.cell (p := ⟨w.heap.size, 1, none⟩) hlt).trans c1
    by_cases h0 : k = 0
    · subst h0
      have e := getV_late key l 0 (Nat.zero_le _) (fun j p hj hp => hno.out j p hj hp)
      rw [List.take_zero, ← Ho.out] at e
      have e : ((0 : Int), false) = (oV, oB) := e
      injection e with e1 e2
      subst e1
      subst e2
      go_wp2
      go_ret2
      exact ⟨rfl, hbw⟩
    · obtain ⟨j, rfl⟩ : ∃ j, k = j + 1 := ⟨k - 1, by omega⟩
      rw [show (((j + 1 : Nat) : Int) - 1) = (j : Int) by omega]
      have hlt2 : j < n := by omega
      obtain ⟨g1, off, rr, hA, hg1, hx, hrl, hrow⟩ := hr.at_ hlt2
      obtain ⟨⟨kx, vx⟩, hs, rfl⟩ : ∃ p, l[j]? = some p ∧ prC p = rr := by simpa using hx
      have q0 : wr.cell? ⟨g1, off + j * 2, none⟩ = some (.int .i64 kx) := (hbw.cell (p := ⟨g1, off + j * 2 + 0, none⟩) hg1).trans (hrow 0 _ rfl)
      have q1 : wr.cell? ⟨g1, off + j * 2 + 1, none⟩ = some (.int .i64 vx) := (hbw.cell (p := ⟨g1, off + j * 2 + 1, none⟩) hg1).trans (hrow 1 _ rfl)
      have hat := getV_at (key := key) hs
      have hlate := getV_late key l (j + 1) (by rw [Hll.out]; omega) (fun i p hi hp => hno.out i p hi hp)
      have Hs := Lib.hid hs
      rw [hlate, ← Ho.out] at hat
      clear hx hrl hrow hs hlate
      subst hA
      by_cases hkk : kx = key
      · subst hkk
        rw [if_pos rfl] at hat
        injection hat with e1 e2
        subst e1
        subst e2
        go_wp2
        go_ret2
        exact ⟨rfl, hbw⟩
      · have hj1 : IntKind.i64.wrap ((j : Int) - 1) = (j : Int) - 1 := by rw [IntKind.wrap_i64]; omega
        have Hat := Lib.hid hat
        clear hat
        go_wp2
        go_roundw
        case rel =>
          refine ⟨j, by omega, by first | rfl | go_num | simp [hj1], hb, Lib.hid (fun i p hi hp => ?_)⟩
          by_cases hij : i = j
          · subst hij
            rw [Hs.out] at hp
            injection hp with hp
            rw [← hp]
            exact hkk
          · exact hno.out i p (by omega) hp
        case measure => first | (simp [intOf]; done) | (simp [intOf]; omega)

set_option maxRecDepth 10000 in
set_option maxHeartbeats 4000000 in
theorem qvalGet_any (t : Int) (A : Option Addr) (n c : Nat) (l : List (Int × Int)) (key : Int) (w : World) (hr : RdR w w.heap.size 2 A n c (l.map prC)) :
    Calls Try.prog 79 #[.agg #[.int .i64 t, .slice A n c], .int .i64 key] w fun e w' => e = .returned (.tuple #[.int .i64 (getV key l).1, .bool (getV key l).2]) ∧ Below w.heap.size w w' := by
  have hll : l.length = n := by have := hr.1; simpa using this
  have hle := hr.2.2.1
  have hmx := hr.2.2.2.1
  unfold maxLen at hmx
  have Hll := Lib.hid hll
  clear hll
  have hb1 : Below w.heap.size w (w.alloc (.cells #[.int .i64 t, .slice A n c] 101)) := (Below.refl _ _).alloc (Nat.le_refl _) _
  have hbox := heap_alloc_new w (.cells #[.int .i64 t, .slice A n c] 101)
  have c1 : (w.alloc (.cells #[.int .i64 t, .slice A n c] 101)).cell? ⟨w.heap.size, 1, none⟩ = some (.slice A n c) := blk_cell hbox rfl
  obtain ⟨oV, hoV⟩ : ∃ v, v = (getV key l).1 := ⟨_, rfl⟩
  obtain ⟨oB, hoB⟩ : ∃ v, v = (getV key l).2 := ⟨_, rfl⟩
  rw [← hoV, ← hoB]
  have Ho : Hid ((oV, oB) = getV key l) := Lib.hid (by rw [hoV, hoB])
  clear hoV hoB
  go_enter Try.func79, Try.ntmps79
  go_wp2_with fail
  generalize (w.alloc (.cells #[.int .i64 t, .slice A n c] 101)) = w1 at *
  have hlt := blk_lt hbox
  clear hbox
  go_loopw [6, 7, 8] (fun v b i wr => ∃ (k : Nat) (x : Int) (y : Bool), k ≤ n ∧ v = .int .i64 x ∧ b = .bool y ∧ i = .int .i64 k ∧ Below w1.heap.size w1 wr ∧ Hid ((x, y) = getV key (l.take k))) (fun _ _ i _ => n - (intOf i).toNat)
  case atStart => exact ⟨0, 0, false, by omega, rfl, rfl, rfl, Below.refl _ _, Lib.hid rfl⟩
  case round =>
    obtain ⟨k, x, y, hk, rfl, rfl, rfl, hb, hxy⟩ := hrel
    have hbw := hb1.trans (hb.mono hb1.size)
    have d1 := (hb.cell (p := ⟨w.heap.size, 1, none⟩) hlt).trans c1
    by_cases hlt2 : k < n
    · obtain ⟨g1, off, rr, hA, hg1, hx, hrl, hrow⟩ := hr.at_ hlt2
      obtain ⟨⟨kx, vx⟩, hs, rfl⟩ : ∃ p, l[k]? = some p ∧ prC p = rr := by simpa using hx
      have q0 : wr.cell? ⟨g1, off + k * 2, none⟩ = some (.int .i64 kx) := (hbw.cell (p := ⟨g1, off + k * 2 + 0, none⟩) hg1).trans (hrow 0 _ rfl)
      have q1 : wr.cell? ⟨g1, off + k * 2 + 1, none⟩ = some (.int .i64 vx) := (hbw.cell (p := ⟨g1, off + k * 2 + 1, none⟩) hg1).trans (hrow 1 _ rfl)
      have hat := getV_at (key := key) hs
      rw [← hxy.out] at hat
      clear hx hrl hrow hs
      subst hA
      by_cases hkk : kx = key
      · subst hkk
        rw [if_pos rfl] at hat
        have Hat := Lib.hid hat
        clear hat
        go_wp2
        go_roundw
        case rel => exact ⟨k + 1, vx, true, by omega, rfl, rfl, by go_num, hb, Lib.hid Hat.out.symm⟩
        case measure => simp [intOf]; omega
      · rw [if_neg hkk] at hat
        have Hat := Lib.hid hat
        clear hat
        go_wp2
        go_roundw
        case rel => exact ⟨k + 1, x, y, by omega, rfl, rfl, by go_num, hb, Lib.hid Hat.out.symm⟩
        case measure => simp [intOf]; omega
    · obtain rfl : k = n := by omega
      have e := hxy.out
      rw [List.take_of_length_le (by rw [Hll.out]; exact Nat.le_refl _), ← Ho.out] at e
      injection e with e1 e2
      subst e1
      subst e2
      go_wp2
      go_ret2
      exact ⟨rfl, hbw⟩

set_option maxRecDepth 10000 in
set_option maxHeartbeats 1000000 in
theorem knows20 (w : World) : Calls Try.prog 73 #[] w fun e w' => e = .returned (.bool true) ∧ Below w.heap.size w w' := by
  have hb0 : Below w.heap.size w (w.alloc (.cells #[.int .i64 268435457, .int .i64 1] 147)) := (Below.refl _ _).alloc (Nat.le_refl _) _
  have hp := valPut_any 1 (some ⟨w.heap.size, 0, none⟩) 1 1 [(268435457, 1)] (w.alloc (.cells #[.int .i64 268435457, .int .i64 1] 147)) ⟨rfl, by intro r h; simp [prC] at h; rw [h]; rfl, Nat.le_refl _, by simp [maxLen], fun _ => ⟨w.heap.size, 0, rfl, blk_lt (heap_alloc_new w _), fun k r h => by
    match k, h with
    | 0, h =>
      injection h with h
      subst h
      intro j v hv
      match j, hv with
      | 0, hv => injection hv with hv; subst hv; exact blk_cell (heap_alloc_new w _) rfl
      | 1, hv => injection hv with hv; subst hv; exact blk_cell (heap_alloc_new w _) rfl⟩⟩ (by omega)
  have e1 : valP 1 [(268435457, 1)] = [0, 1, 0, 0, 1, 0, 0, 16, 1] := by decide
  have e2 : valE 1 [(268435457, 1)] = 0 := by decide
  unfold RetPS at hp
  rw [e1, e2] at hp
  have Hp := Lib.hid hp
  clear e1 e2 hp
  go_enter Try.func73, Try.ntmps73
  go_wp2_with fail
  generalize (w.alloc (.cells #[.int .i64 268435457, .int .i64 1] 147)) = w0 at *
  go_fit Hp.out
  rintro e w1 ⟨A1, n1, c1, rfl, hown1, hb1⟩
  have hb2 := bnx hb0 hb1
  have v1 := run_str w1 46 9 5 Try.underlying46 Try.underlying5 Try.underlying9 (Rd.own hown1)
  have r2 : Rd (w1.alloc (.cells #[.int .u8 0, .int .u8 1, .int .u8 0, .int .u8 0, .int .u8 1, .int .u8 0, .int .u8 0, .int .u8 16, .int .u8 1] 5)) (w1.heap.size + 1) 1 (some ⟨w1.heap.size, 0, none⟩) 9 9 (bv [0, 1, 0, 0, 1, 0, 0, 16, 1]) := rd_const w1 5 [0, 1, 0, 0, 1, 0, 0, 16, 1] (0, 0) (by simp [maxLen])
  have v2 := run_str _ 46 9 5 Try.underlying46 Try.underlying5 Try.underlying9 r2
  go_wp2_with fail
  go_fit (num20_any 0 _)
  rintro e w2 ⟨rfl, rfl⟩
  go_wp2
  go_ret
  exact ⟨rfl, hb2.alloc hb2.size _⟩

end Go.Proofs.Ytkelepnipndbbaa
