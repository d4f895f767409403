/-
  Used of layer 17 walked, the program's and the document's (printed by gen_sats5.py).
-/
import Derived.Test.YtkelepnipndbbaaSats4
import Derived.Laws.StructEq
import Derived.Laws.Bits128
set_option linter.unusedSimpArgs false
set_option linter.unusedVariables false
namespace Go.Proofs.Ytkelepnipndbbaa
open Go.RowKit NumLaw
attribute [local go_sem] Addr.add_mid
attribute [-go_sem] run_eql_struct

theorem i64_and1 (n : Int) : bits .and .i64 n 1 = n % 2 := by
  have h1 : (BitVec.ofInt 64 1).toNat = 2 ^ 1 - 1 := by decide
  have key : (BitVec.ofInt 64 n &&& BitVec.ofInt 64 1).toNat = (n % ((2 ^ 64 : Nat) : Int)).toNat % 2 ^ 1 := by
    rw [BitVec.toNat_and, BitVec.toNat_ofInt, h1, Nat.and_two_pow_sub_one_eq_mod]
  show IntKind.i64.wrap ((BitVec.ofInt 64 n &&& BitVec.ofInt 64 1).toNat : Nat) = n % 2
  rw [key, IntKind.wrap_i64]
  omega
theorem and_pow (n k : Nat) : n &&& 2 ^ k = (n.testBit k).toNat * 2 ^ k := by
  apply Nat.eq_of_testBit_eq
  intro i
  rw [Nat.testBit_and, Nat.testBit_two_pow]
  by_cases h : k = i
  · subst h
    cases hh : n.testBit k with
    | false => simp
    | true => simp
  · cases hh : n.testBit k with
    | false => simp [h]
    | true => simp [h]
/-- Is a satellite used? -/
def flg (f : Int) : Bool := decide (f / 8 % 2 = 1)
theorem i64_and8 (n : Int) : bits .and .i64 n 8 = if flg n = true then 8 else 0 := by
  have h1 : (BitVec.ofInt 64 8).toNat = 2 ^ 3 := by decide
  have key : (BitVec.ofInt 64 n &&& BitVec.ofInt 64 8).toNat = ((n % ((2 ^ 64 : Nat) : Int)).toNat.testBit 3).toNat * 2 ^ 3 := by
    rw [BitVec.toNat_and, BitVec.toNat_ofInt, h1, and_pow]
  show IntKind.i64.wrap ((BitVec.ofInt 64 n &&& BitVec.ofInt 64 8).toNat : Nat) = _
  rw [key]
  have ht : (n % ((2 ^ 64 : Nat) : Int)).toNat.testBit 3 = flg n := by
    rw [Nat.testBit_eq_decide_div_mod_eq]
    unfold flg
    rw [Bool.eq_iff_iff]
    simp
    omega
  rw [ht]
  cases flg n <;> decide
/-- One satellite more: how many are used, the best level. -/
def usd (st : Nat × Int) (s : List Int) : Nat × Int := if flg (s.getD 6 0) = true then (st.1 + 1, if st.1 = 0 ∨ st.2 < s.getD 2 0 then s.getD 2 0 else st.2) else st
def usedV (l : List (List Int)) : Nat × Int := l.foldl usd (0, 0)
theorem usedV_succ {l : List (List Int)} {k : Nat} {s : List Int} (h : l[k]? = some s) : usedV (l.take (k + 1)) = usd (usedV (l.take k)) s := by
  unfold usedV
  rw [take_succ h, List.foldl_append]
  rfl
theorem usedV_le (l : List (List Int)) : (usedV l).1 ≤ l.length := by
  unfold usedV
  suffices h : ∀ (l : List (List Int)) (st : Nat × Int), (l.foldl usd st).1 ≤ st.1 + l.length by simpa using h l (0, 0)
  intro l
  induction l with
  | nil => intro st; simp
  | cons s l ih =>
    intro st
    rw [List.foldl_cons]
    have := ih (usd st s)
    have h2 : (usd st s).1 ≤ st.1 + 1 := by unfold usd; split <;> simp
    simp
    omega
theorem sat_held : Try.prog.stoodInHeld 143 = false := by kernel_rfl
theorem sat_zero (w : World) : (binOp .eql 143 (.agg #[.int .i64 0, .int .i64 0, .int .i64 0, .int .i64 0, .int .i64 0, .int .i64 0, .int .i64 0]) (.agg #[.int .i64 0, .int .i64 0, .int .i64 0, .int .i64 0, .int .i64 0, .int .i64 0, .int .i64 0])).run Try.prog w = .ok (.bool true) w := by
  rw [run_eql_struct, run_equalIn_agg w 9999 _ _ _ (by simp only [Program.fieldsOf, Try.underlying143]) sat_held]
  simp [Program.fieldsOf, Try.underlying143, Op.eqFields, part, run_equalIn_int w _ _ _ _ _ _ Try.underlying2]
theorem sat_nzero (x0 x1 x2 x3 x4 x5 x6 : Int) (w : World) (h6 : x6 ≠ 0) : (binOp .eql 143 (.agg #[.int .i64 x0, .int .i64 x1, .int .i64 x2, .int .i64 x3, .int .i64 x4, .int .i64 x5, .int .i64 x6]) (.agg #[.int .i64 0, .int .i64 0, .int .i64 0, .int .i64 0, .int .i64 0, .int .i64 0, .int .i64 0])).run Try.prog w = .ok (.bool false) w := by
  rw [run_eql_struct, run_equalIn_agg w 9999 _ _ _ (by simp only [Program.fieldsOf, Try.underlying143]) sat_held]
  have e := fun (d : Nat) (a b : Int) => run_equalIn_int (P := Try.prog) w d 2 .i64 _ a b Try.underlying2
  by_cases g0 : x0 ≠ 0
  · simp [Program.fieldsOf, Try.underlying143, Op.eqFields, part, e, g0]
  replace g0 := Decidable.not_not.mp g0
  by_cases g1 : x1 ≠ 0
  · simp [Program.fieldsOf, Try.underlying143, Op.eqFields, part, e, g0, g1]
  replace g1 := Decidable.not_not.mp g1
  by_cases g2 : x2 ≠ 0
  · simp [Program.fieldsOf, Try.underlying143, Op.eqFields, part, e, g0, g1, g2]
  replace g2 := Decidable.not_not.mp g2
  by_cases g3 : x3 ≠ 0
  · simp [Program.fieldsOf, Try.underlying143, Op.eqFields, part, e, g0, g1, g2, g3]
  replace g3 := Decidable.not_not.mp g3
  by_cases g4 : x4 ≠ 0
  · simp [Program.fieldsOf, Try.underlying143, Op.eqFields, part, e, g0, g1, g2, g3, g4]
  replace g4 := Decidable.not_not.mp g4
  by_cases g5 : x5 ≠ 0
  · simp [Program.fieldsOf, Try.underlying143, Op.eqFields, part, e, g0, g1, g2, g3, g4, g5]
  replace g5 := Decidable.not_not.mp g5
  simp [Program.fieldsOf, Try.underlying143, Op.eqFields, part, e, g0, g1, g2, g3, g4, g5, h6]

/-- What Used's rounds keep: the count, the best one. -/
def UsI (g : Nat) (w1 : World) (st : Nat × Int) (wr : World) : Prop :=
  ∃ b : List Int, b.length = 7 ∧ wr.heap[g]? = some (.cells (saC b).toArray 143) ∧ Aw (fun k => k = g) w1 wr ∧ b.getD 2 0 = st.2 ∧ (st.1 = 0 → b = [0, 0, 0, 0, 0, 0, 0]) ∧ (st.1 ≠ 0 → b.getD 6 0 ≠ 0)
theorem aw_setRow {w : World} (g : Nat) (cs : Array Value) : Aw (fun k => k = g) w (w.setRow g cs) :=
  ⟨setRow_os w g cs, setRow_tape w g cs, setRow_output w g cs, by rw [setRow_size]; exact Nat.le_refl _, fun k _ hu => setRow_other w g k cs hu⟩
theorem flg_ne {f : Int} (h : flg f = true) : f ≠ 0 := by
  intro h0
  subst h0
  cases h
set_option maxRecDepth 10000 in
set_option maxHeartbeats 8000000 in
theorem satsUsed_any (t : Int) (A : Option Addr) (n c : Nat) (l : List (List Int)) (w : World) (hr : RdR w w.heap.size 7 A n c (l.map saC)) (hlen : ∀ s ∈ l, s.length = 7) (hl : ∀ s ∈ l, ∀ z ∈ s, -9223372036854775808 ≤ z ∧ z ≤ 9223372036854775807) :
    Calls Try.prog 63 #[.agg #[.int .i64 t, .slice A n c]] w fun e w' => e = .returned (.tuple #[.int .i64 ((usedV l).1 : Int), .int .i64 (usedV l).2]) ∧ Below w.heap.size w w' := by
  have hll : l.length = n := by have := hr.1; simpa using this
  have hle := hr.2.2.1
  have hmx := hr.2.2.2.1
  unfold maxLen at hmx
  have Hll := Lib.hid hll
  have Hlen := Lib.hid hlen
  have Hl := Lib.hid hl
  clear hlen hl hll
  obtain ⟨a0, a1, hs, hb⟩ := al2 w (.cells #[.int .i64 t, .slice A n c] 89) (.cells #[.int .i64 0, .int .i64 0, .int .i64 0, .int .i64 0, .int .i64 0, .int .i64 0, .int .i64 0] 143)
  have c1 : ((w.alloc (.cells #[.int .i64 t, .slice A n c] 89)).alloc (.cells #[.int .i64 0, .int .i64 0, .int .i64 0, .int .i64 0, .int .i64 0, .int .i64 0, .int .i64 0] 143)).cell? ⟨w.heap.size, 1, none⟩ = some (.slice A n c) := blk_cell a0 rfl
  have hr1 := hr.up hb
  obtain ⟨oU, hoU⟩ : ∃ u, u = usedV l := ⟨_, rfl⟩
  rw [← hoU]
  have HoU := Lib.hid hoU
  have Hs := Lib.hid hs
  clear hoU hs
  go_enter Try.func63, Try.ntmps63
  go_wp2_with fail
  generalize ((w.alloc (.cells #[.int .i64 t, .slice A n c] 89)).alloc (.cells #[.int .i64 0, .int .i64 0, .int .i64 0, .int .i64 0, .int .i64 0, .int .i64 0, .int .i64 0] 143)) = w1 at *
  clear c1
  go_loopw [4, 12] (fun s i wr => ∃ (k m : Nat) (v : Int), k ≤ n ∧ i = .int .i64 k ∧ s = .int .i64 m ∧ m ≤ k ∧ UsI (w.heap.size + 1) w1 (m, v) wr ∧ Hid (usedV (l.take k) = (m, v))) (fun _ i _ => n - (intOf i).toNat)
  case atStart => exact ⟨0, 0, 0, by omega, rfl, rfl, by omega, ⟨[0, 0, 0, 0, 0, 0, 0], rfl, a1, Aw.refl _ _, rfl, fun _ => rfl, fun h => absurd rfl h⟩, Lib.hid rfl⟩
  case round =>
    obtain ⟨k, m, v, hk, rfl, rfl, hmk, ⟨b, hb7, hbb, haw, hlev, hz, hnz⟩, hst⟩ := hrel
    by_cases hlt : k < n
    · obtain ⟨g1, off, rr, hA, hg1, hx, hrl, hrow⟩ := hr1.at_ hlt
      obtain ⟨s, hs, rfl⟩ : ∃ s, l[k]? = some s ∧ saC s = rr := by simpa using hx
      have hs7 := Hlen.out s (List.mem_of_getElem? hs)
      have hsb := Hl.out s (List.mem_of_getElem? hs)
      have hstep := usedV_succ hs
      rw [hst.out] at hstep
      obtain ⟨x0, x1, x2, x3, x4, x5, x6, rfl⟩ := len7 s hs7
      have hrow2 : wr.rangeAt g1 (off + k * 7) (saC [x0, x1, x2, x3, x4, x5, x6]) := fun j v hv => by
        have := hrow j v hv
        have hb1 := World.block_lt_of_cell? w1 _ this
        rw [World.cell?] at this ⊢
        rw [haw.block g1 hb1 (by omega)]
        exact this
      have hbx : Below wr.heap.size wr (wr.alloc (.cells #[.int .i64 x0, .int .i64 x1, .int .i64 x2, .int .i64 x3, .int .i64 x4, .int .i64 x5, .int .i64 x6] 143)) := (Below.refl _ _).alloc (Nat.le_refl _) _
      have hsbox := heap_alloc_new wr (.cells #[.int .i64 x0, .int .i64 x1, .int .i64 x2, .int .i64 x3, .int .i64 x4, .int .i64 x5, .int .i64 x6] 143)
      have hbb2 := blk_old hbb hbx (blk_lt hbb)
      have haw2 := haw.alloc (.cells #[.int .i64 x0, .int .i64 x1, .int .i64 x2, .int .i64 x3, .int .i64 x4, .int .i64 x5, .int .i64 x6] 143)
      have hgb : w.heap.size + 1 < wr.heap.size := blk_lt hbb
      have Hstep := Lib.hid hstep
      have Hb7 := Lib.hid hb7
      have Hlev := Lib.hid hlev
      have Hz := Lib.hid hz
      have Hnz := Lib.hid hnz
      have q0 : wr.cell? ⟨g1, off + k * 7, none⟩ = some (.int .i64 x0) := hrow2 0 _ rfl
      have q1 : wr.cell? ⟨g1, off + k * 7 + 1, none⟩ = some (.int .i64 x1) := hrow2 1 _ rfl
      have q2 : wr.cell? ⟨g1, off + k * 7 + 2, none⟩ = some (.int .i64 x2) := hrow2 2 _ rfl
      have q3 : wr.cell? ⟨g1, off + k * 7 + 3, none⟩ = some (.int .i64 x3) := hrow2 3 _ rfl
      have q4 : wr.cell? ⟨g1, off + k * 7 + 4, none⟩ = some (.int .i64 x4) := hrow2 4 _ rfl
      have q5 : wr.cell? ⟨g1, off + k * 7 + 5, none⟩ = some (.int .i64 x5) := hrow2 5 _ rfl
      have q6 : wr.cell? ⟨g1, off + k * 7 + 6, none⟩ = some (.int .i64 x6) := hrow2 6 _ rfl
      clear hs hx hrow hrow2 hrl hs7 hsb hstep hb7 hlev hz hnz hbb haw hst
      subst hA
      go_wp2_with (with_reducible refine stop_loadT 2 ?_)
      refine go_ ?_
      clear q0 q1 q2 q3 q4 q5 q6
      generalize (wr.alloc (.cells #[.int .i64 x0, .int .i64 x1, .int .i64 x2, .int .i64 x3, .int .i64 x4, .int .i64 x5, .int .i64 x6] 143)) = v1 at *
      generalize wr.heap.size = gv at *
      have z2 := blk_cell (i := 2) (v := .int .i64 x2) hsbox rfl
      have z6 := blk_cell (i := 6) (v := .int .i64 x6) hsbox rfl
      cases hf : flg x6 with
      | false =>
        have e8 := i64_and8 x6
        rw [hf] at e8
        simp only [Bool.false_eq_true, if_false] at e8
        have hU : Hid (usedV (l.take (k + 1)) = (m, v)) := Lib.hid (by rw [Hstep.out]; unfold usd; rw [if_neg (by show ¬ flg x6 = true; rw [hf]; simp)])
        clear hf
        go_wp2
        go_roundw
        case rel => exact ⟨k + 1, m, v, by omega, by go_num, rfl, by omega, ⟨b, Hb7.out, hbb2, haw2, Hlev.out, Hz.out, Hnz.out⟩, hU⟩
        case measure => simp [intOf]; omega
      | true =>
        have e8 := i64_and8 x6
        rw [hf] at e8
        simp only [if_true] at e8
        have h60 := flg_ne hf
        have H60 := Lib.hid h60
        have hU : Hid (usedV (l.take (k + 1)) = (m + 1, if m = 0 ∨ v < x2 then x2 else v)) := Lib.hid (by rw [Hstep.out]; unfold usd; rw [if_pos (by show flg x6 = true; exact hf)]; rfl)
        clear hf h60
        obtain ⟨b0, b1, b2, b3, b4, b5, b6, rfl⟩ := len7 b Hb7.out
        by_cases hm : m = 0
        · have hb0 := Hz.out hm
          injection hb0 with r0 hb0; injection hb0 with r1 hb0; injection hb0 with r2 hb0; injection hb0 with r3 hb0; injection hb0 with r4 hb0; injection hb0 with r5 hb0; injection hb0 with r6 hb0
          subst r0; subst r1; subst r2; subst r3; subst r4; subst r5; subst r6
          rw [if_pos (.inl hm)] at hU
          have hzz := sat_zero
          clear hb0
          have hbb3 : v1.heap[w.heap.size + 1]? = some (.cells #[.int .i64 0, .int .i64 0, .int .i64 0, .int .i64 0, .int .i64 0, .int .i64 0, .int .i64 0] 143) := hbb2
          clear hbb2
          go_wp2_with (first | (with_reducible refine stop_loadT 143 ?_) | (with_reducible refine stop_storeT 143 ?_))
          refine go_ (wpList_load_row rfl _ _ rfl (w.heap.size + 1) rfl _ _ _ _ hbb3 Try.underlying143 rfl (by kernel_rfl) ?_)
          go_wp2_with (first | (with_reducible refine stop_loadT 143 ?_) | (with_reducible refine stop_storeT 143 ?_))
          refine go_ (wpList_load_row rfl _ _ rfl gv rfl _ _ _ _ hsbox Try.underlying143 rfl (by kernel_rfl) ?_)
          go_wp2_with (first | (with_reducible refine stop_loadT 143 ?_) | (with_reducible refine stop_storeT 143 ?_))
          refine go_ (wpList_store_row rfl _ _ _ rfl (w.heap.size + 1) #[.int .i64 x0, .int .i64 x1, .int .i64 x2, .int .i64 x3, .int .i64 x4, .int .i64 x5, .int .i64 x6] rfl rfl _ _ hbb3 (by kernel_rfl) rfl (by kernel_rfl) ?_)
          have hres5 := setRow_heap _ _ _ (#[.int .i64 x0, .int .i64 x1, .int .i64 x2, .int .i64 x3, .int .i64 x4, .int .i64 x5, .int .i64 x6] : Array Value) _ _ hbb3
          have haw5 : Aw (fun k => k = w.heap.size + 1) w1 (v1.setRow (w.heap.size + 1) #[.int .i64 x0, .int .i64 x1, .int .i64 x2, .int .i64 x3, .int .i64 x4, .int .i64 x5, .int .i64 x6]) := haw2.trans (aw_setRow _ _)
          generalize (v1.setRow (w.heap.size + 1) #[.int .i64 x0, .int .i64 x1, .int .i64 x2, .int .i64 x3, .int .i64 x4, .int .i64 x5, .int .i64 x6]) = v5 at *
          clear hbb3 haw2 hsbox z2 z6
          go_wp2
          go_roundw
          case rel => exact ⟨k + 1, m + 1, x2, by omega, by go_num, by go_num, by omega, ⟨[x0, x1, x2, x3, x4, x5, x6], rfl, hres5, haw5, rfl, fun h => absurd h (by omega), fun _ => H60.out⟩, hU⟩
          case measure => simp [intOf]; omega
        · have hn6 := Hnz.out hm
          have hn6' : b6 ≠ 0 := hn6
          have hzz := fun w => sat_nzero b0 b1 b2 b3 b4 b5 b6 w hn6'
          have Hn6 := Lib.hid hn6'
          have hv2 : b2 = v := Hlev.out
          clear hn6 hn6' hm
          have cb2 := blk_cell (i := 2) (v := .int .i64 b2) hbb2 rfl
          have hbb3 : v1.heap[w.heap.size + 1]? = some (.cells #[.int .i64 b0, .int .i64 b1, .int .i64 b2, .int .i64 b3, .int .i64 b4, .int .i64 b5, .int .i64 b6] 143) := hbb2
          clear hbb2
          by_cases hlv : v < x2
          · rw [if_pos (.inr hlv)] at hU
            have hlv' : b2 < x2 := by omega
            clear hv2 hlv
            go_wp2_with (first | (with_reducible refine stop_loadT 143 ?_) | (with_reducible refine stop_storeT 143 ?_))
            refine go_ (wpList_load_row rfl _ _ rfl (w.heap.size + 1) rfl _ _ _ _ hbb3 Try.underlying143 rfl (by kernel_rfl) ?_)
            go_wp2_with (first | (with_reducible refine stop_loadT 143 ?_) | (with_reducible refine stop_storeT 143 ?_))
            refine go_ (wpList_load_row rfl _ _ rfl gv rfl _ _ _ _ hsbox Try.underlying143 rfl (by kernel_rfl) ?_)
            go_wp2_with (first | (with_reducible refine stop_loadT 143 ?_) | (with_reducible refine stop_storeT 143 ?_))
            refine go_ (wpList_store_row rfl _ _ _ rfl (w.heap.size + 1) #[.int .i64 x0, .int .i64 x1, .int .i64 x2, .int .i64 x3, .int .i64 x4, .int .i64 x5, .int .i64 x6] rfl rfl _ _ hbb3 (by kernel_rfl) rfl (by kernel_rfl) ?_)
            have hres5 := setRow_heap _ _ _ (#[.int .i64 x0, .int .i64 x1, .int .i64 x2, .int .i64 x3, .int .i64 x4, .int .i64 x5, .int .i64 x6] : Array Value) _ _ hbb3
            have haw5 : Aw (fun k => k = w.heap.size + 1) w1 (v1.setRow (w.heap.size + 1) #[.int .i64 x0, .int .i64 x1, .int .i64 x2, .int .i64 x3, .int .i64 x4, .int .i64 x5, .int .i64 x6]) := haw2.trans (aw_setRow _ _)
            generalize (v1.setRow (w.heap.size + 1) #[.int .i64 x0, .int .i64 x1, .int .i64 x2, .int .i64 x3, .int .i64 x4, .int .i64 x5, .int .i64 x6]) = v5 at *
            clear hbb3 haw2 hsbox cb2 z2 z6
            go_wp2
            go_roundw
            case rel => exact ⟨k + 1, m + 1, x2, by omega, by go_num, by go_num, by omega, ⟨[x0, x1, x2, x3, x4, x5, x6], rfl, hres5, haw5, rfl, fun h => absurd h (by omega), fun _ => H60.out⟩, hU⟩
            case measure => simp [intOf]; omega
          · have hlv' : ¬ b2 < x2 := by omega
            have hm0 : m ≠ 0 := fun h => by
              have := Hz.out h
              injection this with _ this; injection this with _ this; injection this with _ this; injection this with _ this; injection this with _ this; injection this with _ this; injection this with this _
              exact Hn6.out this
            have hU2 : Hid (usedV (l.take (k + 1)) = (m + 1, v)) := Lib.hid (by
              rw [hU.out, if_neg (fun h => h.elim hm0 hlv)])
            clear hm0
            clear hv2 hlv hU
            go_wp2_with (first | (with_reducible refine stop_loadT 143 ?_) | (with_reducible refine stop_storeT 143 ?_))
            refine go_ (wpList_load_row rfl _ _ rfl (w.heap.size + 1) rfl _ _ _ _ hbb3 Try.underlying143 rfl (by kernel_rfl) ?_)
            go_wp2
            go_roundw
            case rel => exact ⟨k + 1, m + 1, v, by omega, by go_num, by go_num, by omega, ⟨[b0, b1, b2, b3, b4, b5, b6], rfl, hbb3, haw2, Hlev.out, fun h => absurd h (by omega), fun _ => Hn6.out⟩, hU2⟩
            case measure => simp [intOf]; omega
    · obtain rfl : k = n := by omega
      have ht : l.take k = l := List.take_of_length_le (by rw [Hll.out]; exact Nat.le_refl _)
      have hfin := hst.out
      rw [ht, ← HoU.out] at hfin
      subst hfin
      obtain ⟨b0, b1, b2, b3, b4, b5, b6, rfl⟩ := len7 b hb7
      have cb2 := blk_cell (i := 2) (v := .int .i64 b2) hbb rfl
      have hv2 : b2 = v := hlev
      subst hv2
      have hbf := below_aw hb haw (fun k hk => by omega) (by have := Hs.out; omega)
      clear ht hz hnz hlev hb7
      go_wp2_with fail
      refine Ord.region_ (fun w' => Below wr.heap.size wr w') false [] (by kernel_rfl) (by kernel_rfl) ((Below.refl _ _).drew) ?_
      have h2 : Below wr.heap.size wr wr.drew := (Below.refl _ _).drew
      have hgb : w.heap.size + 1 < wr.heap.size := blk_lt hbb
      replace hbf := hbf.drew
      generalize wr.drew = w9 at *
      ((with_reducible refine Ord.e_p (v := ?_) ?_ ?_ ?_ ?_); rotate_left; (· exact rfl); (· kernel_rfl); (· intro w2; go_simp; try with_reducible rfl))
      (try simp only [Act.put, List.setIfInBounds_toArray, List.set_cons_zero, List.set_cons_succ])
      ((with_reducible refine Ord.e_p (v := ?_) ?_ ?_ ?_ ?_); rotate_left; (· exact rfl); (· kernel_rfl); (· intro w2; go_simp; try with_reducible rfl))
      (try simp only [Act.put, List.setIfInBounds_toArray, List.set_cons_zero, List.set_cons_succ])
      refine Ord.e_loadS Try.underlying2 rfl (fun w' hS => ((show Below _ wr w' from hS).cell (p := ⟨w.heap.size + 1, 2, none⟩) hgb).trans cb2) h2 rfl (by kernel_rfl) ?_
      (try simp only [Act.put, List.setIfInBounds_toArray, List.set_cons_zero, List.set_cons_succ])
      ((with_reducible refine Ord.e_p (v := ?_) ?_ ?_ ?_ ?_); rotate_left; (· exact rfl); (· kernel_rfl); (· intro w2; go_simp; try with_reducible rfl))
      (try simp only [Act.put, List.setIfInBounds_toArray, List.set_cons_zero, List.set_cons_succ])
      ((with_reducible refine Ord.e_p (v := ?_) ?_ ?_ ?_ ?_); rotate_left; (· exact rfl); (· kernel_rfl); (· intro w2; go_simp; try with_reducible rfl))
      (try simp only [Act.put, List.setIfInBounds_toArray, List.set_cons_zero, List.set_cons_succ])
      refine Ord.e_nil ?_
      clear h2 cb2
      go_wp2
      go_ret2
      exact ⟨rfl, hbf⟩

end Go.Proofs.Ytkelepnipndbbaa
