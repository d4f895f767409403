/-
  The law PvtBack walked; how a message of layer 16 that came in is opened (printed by gen_pvt14.py).
-/
import Derived.Test.YtkelepnipndbbaaPvt12
import Derived.Test.YtkelepnipndbbaaBig2
import Derived.Test.YtkelepnipndbbaaOpenRow
set_option linter.unusedSimpArgs false
set_option linter.unusedVariables false
namespace Go.Proofs.Ytkelepnipndbbaa
open Go.RowKit NumLaw Go.ChangeShapes Go.WideShapes Go.ChangeAt

section
variable {H : Type} {enc : TypeId × Value → H} {W : World}
set_option maxRecDepth 10000 in
set_option maxHeartbeats 2000000 in
theorem open_pvt {b0 : Nat} {v : Value} {d : DataW H} {p : List MemPlace} (hv : Value.okWide Try.prog W .any b0 66 v) (h : DataW.Trod enc Try.prog W 0 (fun _ => true) true 66 v d p) :
    ∃ xs : List Int, v = .agg (pvC xs) ∧ xs.length = 32 ∧ ∀ z ∈ xs, -9223372036854775808 ≤ z ∧ z ≤ 9223372036854775807 := by
  obtain ⟨cs, rfl, hs, hat⟩ := open_row Try.underlying66 (by kernel_rfl) (by kernel_rfl) hv h
  have hs3 : cs.size = 32 := hs
  obtain ⟨z0, c0, w0⟩ : ∃ z : Int, cs[0]? = some (.int .i64 z) ∧ (-9223372036854775808 ≤ z ∧ z ≤ 9223372036854775807) := by
    obtain ⟨u, m, y, c, t⟩ := hat 0 _ rfl
    obtain ⟨z, e, _, wf⟩ := DataW.trod_int Try.underlying2 t
    injection e with e; subst e
    exact ⟨z, c, bounds_i64 wf⟩
  obtain ⟨z1, c1, w1⟩ : ∃ z : Int, cs[1]? = some (.int .i64 z) ∧ (-9223372036854775808 ≤ z ∧ z ≤ 9223372036854775807) := by
    obtain ⟨u, m, y, c, t⟩ := hat 1 _ rfl
    obtain ⟨z, e, _, wf⟩ := DataW.trod_int Try.underlying2 t
    injection e with e; subst e
    exact ⟨z, c, bounds_i64 wf⟩
  obtain ⟨z2, c2, w2⟩ : ∃ z : Int, cs[2]? = some (.int .i64 z) ∧ (-9223372036854775808 ≤ z ∧ z ≤ 9223372036854775807) := by
    obtain ⟨u, m, y, c, t⟩ := hat 2 _ rfl
    obtain ⟨z, e, _, wf⟩ := DataW.trod_int Try.underlying2 t
    injection e with e; subst e
    exact ⟨z, c, bounds_i64 wf⟩
  obtain ⟨z3, c3, w3⟩ : ∃ z : Int, cs[3]? = some (.int .i64 z) ∧ (-9223372036854775808 ≤ z ∧ z ≤ 9223372036854775807) := by
    obtain ⟨u, m, y, c, t⟩ := hat 3 _ rfl
    obtain ⟨z, e, _, wf⟩ := DataW.trod_int Try.underlying2 t
    injection e with e; subst e
    exact ⟨z, c, bounds_i64 wf⟩
  obtain ⟨z4, c4, w4⟩ : ∃ z : Int, cs[4]? = some (.int .i64 z) ∧ (-9223372036854775808 ≤ z ∧ z ≤ 9223372036854775807) := by
    obtain ⟨u, m, y, c, t⟩ := hat 4 _ rfl
    obtain ⟨z, e, _, wf⟩ := DataW.trod_int Try.underlying2 t
    injection e with e; subst e
    exact ⟨z, c, bounds_i64 wf⟩
  obtain ⟨z5, c5, w5⟩ : ∃ z : Int, cs[5]? = some (.int .i64 z) ∧ (-9223372036854775808 ≤ z ∧ z ≤ 9223372036854775807) := by
    obtain ⟨u, m, y, c, t⟩ := hat 5 _ rfl
    obtain ⟨z, e, _, wf⟩ := DataW.trod_int Try.underlying2 t
    injection e with e; subst e
    exact ⟨z, c, bounds_i64 wf⟩
  obtain ⟨z6, c6, w6⟩ : ∃ z : Int, cs[6]? = some (.int .i64 z) ∧ (-9223372036854775808 ≤ z ∧ z ≤ 9223372036854775807) := by
    obtain ⟨u, m, y, c, t⟩ := hat 6 _ rfl
    obtain ⟨z, e, _, wf⟩ := DataW.trod_int Try.underlying2 t
    injection e with e; subst e
    exact ⟨z, c, bounds_i64 wf⟩
  obtain ⟨z7, c7, w7⟩ : ∃ z : Int, cs[7]? = some (.int .i64 z) ∧ (-9223372036854775808 ≤ z ∧ z ≤ 9223372036854775807) := by
    obtain ⟨u, m, y, c, t⟩ := hat 7 _ rfl
    obtain ⟨z, e, _, wf⟩ := DataW.trod_int Try.underlying2 t
    injection e with e; subst e
    exact ⟨z, c, bounds_i64 wf⟩
  obtain ⟨z8, c8, w8⟩ : ∃ z : Int, cs[8]? = some (.int .i64 z) ∧ (-9223372036854775808 ≤ z ∧ z ≤ 9223372036854775807) := by
    obtain ⟨u, m, y, c, t⟩ := hat 8 _ rfl
    obtain ⟨z, e, _, wf⟩ := DataW.trod_int Try.underlying2 t
    injection e with e; subst e
    exact ⟨z, c, bounds_i64 wf⟩
  obtain ⟨z9, c9, w9⟩ : ∃ z : Int, cs[9]? = some (.int .i64 z) ∧ (-9223372036854775808 ≤ z ∧ z ≤ 9223372036854775807) := by
    obtain ⟨u, m, y, c, t⟩ := hat 9 _ rfl
    obtain ⟨z, e, _, wf⟩ := DataW.trod_int Try.underlying2 t
    injection e with e; subst e
    exact ⟨z, c, bounds_i64 wf⟩
  obtain ⟨z10, c10, w10⟩ : ∃ z : Int, cs[10]? = some (.int .i64 z) ∧ (-9223372036854775808 ≤ z ∧ z ≤ 9223372036854775807) := by
    obtain ⟨u, m, y, c, t⟩ := hat 10 _ rfl
    obtain ⟨z, e, _, wf⟩ := DataW.trod_int Try.underlying2 t
    injection e with e; subst e
    exact ⟨z, c, bounds_i64 wf⟩
  obtain ⟨z11, c11, w11⟩ : ∃ z : Int, cs[11]? = some (.int .i64 z) ∧ (-9223372036854775808 ≤ z ∧ z ≤ 9223372036854775807) := by
    obtain ⟨u, m, y, c, t⟩ := hat 11 _ rfl
    obtain ⟨z, e, _, wf⟩ := DataW.trod_int Try.underlying2 t
    injection e with e; subst e
    exact ⟨z, c, bounds_i64 wf⟩
  obtain ⟨z12, c12, w12⟩ : ∃ z : Int, cs[12]? = some (.int .i64 z) ∧ (-9223372036854775808 ≤ z ∧ z ≤ 9223372036854775807) := by
    obtain ⟨u, m, y, c, t⟩ := hat 12 _ rfl
    obtain ⟨z, e, _, wf⟩ := DataW.trod_int Try.underlying2 t
    injection e with e; subst e
    exact ⟨z, c, bounds_i64 wf⟩
  obtain ⟨z13, c13, w13⟩ : ∃ z : Int, cs[13]? = some (.int .i64 z) ∧ (-9223372036854775808 ≤ z ∧ z ≤ 9223372036854775807) := by
    obtain ⟨u, m, y, c, t⟩ := hat 13 _ rfl
    obtain ⟨z, e, _, wf⟩ := DataW.trod_int Try.underlying2 t
    injection e with e; subst e
    exact ⟨z, c, bounds_i64 wf⟩
  obtain ⟨z14, c14, w14⟩ : ∃ z : Int, cs[14]? = some (.int .i64 z) ∧ (-9223372036854775808 ≤ z ∧ z ≤ 9223372036854775807) := by
    obtain ⟨u, m, y, c, t⟩ := hat 14 _ rfl
    obtain ⟨z, e, _, wf⟩ := DataW.trod_int Try.underlying2 t
    injection e with e; subst e
    exact ⟨z, c, bounds_i64 wf⟩
  obtain ⟨z15, c15, w15⟩ : ∃ z : Int, cs[15]? = some (.int .i64 z) ∧ (-9223372036854775808 ≤ z ∧ z ≤ 9223372036854775807) := by
    obtain ⟨u, m, y, c, t⟩ := hat 15 _ rfl
    obtain ⟨z, e, _, wf⟩ := DataW.trod_int Try.underlying2 t
    injection e with e; subst e
    exact ⟨z, c, bounds_i64 wf⟩
  obtain ⟨z16, c16, w16⟩ : ∃ z : Int, cs[16]? = some (.int .i64 z) ∧ (-9223372036854775808 ≤ z ∧ z ≤ 9223372036854775807) := by
    obtain ⟨u, m, y, c, t⟩ := hat 16 _ rfl
    obtain ⟨z, e, _, wf⟩ := DataW.trod_int Try.underlying2 t
    injection e with e; subst e
    exact ⟨z, c, bounds_i64 wf⟩
  obtain ⟨z17, c17, w17⟩ : ∃ z : Int, cs[17]? = some (.int .i64 z) ∧ (-9223372036854775808 ≤ z ∧ z ≤ 9223372036854775807) := by
    obtain ⟨u, m, y, c, t⟩ := hat 17 _ rfl
    obtain ⟨z, e, _, wf⟩ := DataW.trod_int Try.underlying2 t
    injection e with e; subst e
    exact ⟨z, c, bounds_i64 wf⟩
  obtain ⟨z18, c18, w18⟩ : ∃ z : Int, cs[18]? = some (.int .i64 z) ∧ (-9223372036854775808 ≤ z ∧ z ≤ 9223372036854775807) := by
    obtain ⟨u, m, y, c, t⟩ := hat 18 _ rfl
    obtain ⟨z, e, _, wf⟩ := DataW.trod_int Try.underlying2 t
    injection e with e; subst e
    exact ⟨z, c, bounds_i64 wf⟩
  obtain ⟨z19, c19, w19⟩ : ∃ z : Int, cs[19]? = some (.int .i64 z) ∧ (-9223372036854775808 ≤ z ∧ z ≤ 9223372036854775807) := by
    obtain ⟨u, m, y, c, t⟩ := hat 19 _ rfl
    obtain ⟨z, e, _, wf⟩ := DataW.trod_int Try.underlying2 t
    injection e with e; subst e
    exact ⟨z, c, bounds_i64 wf⟩
  obtain ⟨z20, c20, w20⟩ : ∃ z : Int, cs[20]? = some (.int .i64 z) ∧ (-9223372036854775808 ≤ z ∧ z ≤ 9223372036854775807) := by
    obtain ⟨u, m, y, c, t⟩ := hat 20 _ rfl
    obtain ⟨z, e, _, wf⟩ := DataW.trod_int Try.underlying2 t
    injection e with e; subst e
    exact ⟨z, c, bounds_i64 wf⟩
  obtain ⟨z21, c21, w21⟩ : ∃ z : Int, cs[21]? = some (.int .i64 z) ∧ (-9223372036854775808 ≤ z ∧ z ≤ 9223372036854775807) := by
    obtain ⟨u, m, y, c, t⟩ := hat 21 _ rfl
    obtain ⟨z, e, _, wf⟩ := DataW.trod_int Try.underlying2 t
    injection e with e; subst e
    exact ⟨z, c, bounds_i64 wf⟩
  obtain ⟨z22, c22, w22⟩ : ∃ z : Int, cs[22]? = some (.int .i64 z) ∧ (-9223372036854775808 ≤ z ∧ z ≤ 9223372036854775807) := by
    obtain ⟨u, m, y, c, t⟩ := hat 22 _ rfl
    obtain ⟨z, e, _, wf⟩ := DataW.trod_int Try.underlying2 t
    injection e with e; subst e
    exact ⟨z, c, bounds_i64 wf⟩
  obtain ⟨z23, c23, w23⟩ : ∃ z : Int, cs[23]? = some (.int .i64 z) ∧ (-9223372036854775808 ≤ z ∧ z ≤ 9223372036854775807) := by
    obtain ⟨u, m, y, c, t⟩ := hat 23 _ rfl
    obtain ⟨z, e, _, wf⟩ := DataW.trod_int Try.underlying2 t
    injection e with e; subst e
    exact ⟨z, c, bounds_i64 wf⟩
  obtain ⟨z24, c24, w24⟩ : ∃ z : Int, cs[24]? = some (.int .i64 z) ∧ (-9223372036854775808 ≤ z ∧ z ≤ 9223372036854775807) := by
    obtain ⟨u, m, y, c, t⟩ := hat 24 _ rfl
    obtain ⟨z, e, _, wf⟩ := DataW.trod_int Try.underlying2 t
    injection e with e; subst e
    exact ⟨z, c, bounds_i64 wf⟩
  obtain ⟨z25, c25, w25⟩ : ∃ z : Int, cs[25]? = some (.int .i64 z) ∧ (-9223372036854775808 ≤ z ∧ z ≤ 9223372036854775807) := by
    obtain ⟨u, m, y, c, t⟩ := hat 25 _ rfl
    obtain ⟨z, e, _, wf⟩ := DataW.trod_int Try.underlying2 t
    injection e with e; subst e
    exact ⟨z, c, bounds_i64 wf⟩
  obtain ⟨z26, c26, w26⟩ : ∃ z : Int, cs[26]? = some (.int .i64 z) ∧ (-9223372036854775808 ≤ z ∧ z ≤ 9223372036854775807) := by
    obtain ⟨u, m, y, c, t⟩ := hat 26 _ rfl
    obtain ⟨z, e, _, wf⟩ := DataW.trod_int Try.underlying2 t
    injection e with e; subst e
    exact ⟨z, c, bounds_i64 wf⟩
  obtain ⟨z27, c27, w27⟩ : ∃ z : Int, cs[27]? = some (.int .i64 z) ∧ (-9223372036854775808 ≤ z ∧ z ≤ 9223372036854775807) := by
    obtain ⟨u, m, y, c, t⟩ := hat 27 _ rfl
    obtain ⟨z, e, _, wf⟩ := DataW.trod_int Try.underlying2 t
    injection e with e; subst e
    exact ⟨z, c, bounds_i64 wf⟩
  obtain ⟨z28, c28, w28⟩ : ∃ z : Int, cs[28]? = some (.int .i64 z) ∧ (-9223372036854775808 ≤ z ∧ z ≤ 9223372036854775807) := by
    obtain ⟨u, m, y, c, t⟩ := hat 28 _ rfl
    obtain ⟨z, e, _, wf⟩ := DataW.trod_int Try.underlying2 t
    injection e with e; subst e
    exact ⟨z, c, bounds_i64 wf⟩
  obtain ⟨z29, c29, w29⟩ : ∃ z : Int, cs[29]? = some (.int .i64 z) ∧ (-9223372036854775808 ≤ z ∧ z ≤ 9223372036854775807) := by
    obtain ⟨u, m, y, c, t⟩ := hat 29 _ rfl
    obtain ⟨z, e, _, wf⟩ := DataW.trod_int Try.underlying2 t
    injection e with e; subst e
    exact ⟨z, c, bounds_i64 wf⟩
  obtain ⟨z30, c30, w30⟩ : ∃ z : Int, cs[30]? = some (.int .i64 z) ∧ (-9223372036854775808 ≤ z ∧ z ≤ 9223372036854775807) := by
    obtain ⟨u, m, y, c, t⟩ := hat 30 _ rfl
    obtain ⟨z, e, _, wf⟩ := DataW.trod_int Try.underlying2 t
    injection e with e; subst e
    exact ⟨z, c, bounds_i64 wf⟩
  obtain ⟨z31, c31, w31⟩ : ∃ z : Int, cs[31]? = some (.int .i64 z) ∧ (-9223372036854775808 ≤ z ∧ z ≤ 9223372036854775807) := by
    obtain ⟨u, m, y, c, t⟩ := hat 31 _ rfl
    obtain ⟨z, e, _, wf⟩ := DataW.trod_int Try.underlying2 t
    injection e with e; subst e
    exact ⟨z, c, bounds_i64 wf⟩
  refine ⟨[z0, z1, z2, z3, z4, z5, z6, z7, z8, z9, z10, z11, z12, z13, z14, z15, z16, z17, z18, z19, z20, z21, z22, z23, z24, z25, z26, z27, z28, z29, z30, z31], ?_, rfl, ?_⟩
  · congr 1
    apply Array.ext
    · simpa [pvC] using hs3
    · intro i h1 h2
      have h3 : i < 32 := by omega
      have key : cs[i]? = (pvC [z0, z1, z2, z3, z4, z5, z6, z7, z8, z9, z10, z11, z12, z13, z14, z15, z16, z17, z18, z19, z20, z21, z22, z23, z24, z25, z26, z27, z28, z29, z30, z31])[i]? := by
        rcases (by omega : i = 0 ∨ i = 1 ∨ i = 2 ∨ i = 3 ∨ i = 4 ∨ i = 5 ∨ i = 6 ∨ i = 7 ∨ i = 8 ∨ i = 9 ∨ i = 10 ∨ i = 11 ∨ i = 12 ∨ i = 13 ∨ i = 14 ∨ i = 15 ∨ i = 16 ∨ i = 17 ∨ i = 18 ∨ i = 19 ∨ i = 20 ∨ i = 21 ∨ i = 22 ∨ i = 23 ∨ i = 24 ∨ i = 25 ∨ i = 26 ∨ i = 27 ∨ i = 28 ∨ i = 29 ∨ i = 30 ∨ i = 31) with rfl | rfl | rfl | rfl | rfl | rfl | rfl | rfl | rfl | rfl | rfl | rfl | rfl | rfl | rfl | rfl | rfl | rfl | rfl | rfl | rfl | rfl | rfl | rfl | rfl | rfl | rfl | rfl | rfl | rfl | rfl | rfl
        · exact c0
        · exact c1
        · exact c2
        · exact c3
        · exact c4
        · exact c5
        · exact c6
        · exact c7
        · exact c8
        · exact c9
        · exact c10
        · exact c11
        · exact c12
        · exact c13
        · exact c14
        · exact c15
        · exact c16
        · exact c17
        · exact c18
        · exact c19
        · exact c20
        · exact c21
        · exact c22
        · exact c23
        · exact c24
        · exact c25
        · exact c26
        · exact c27
        · exact c28
        · exact c29
        · exact c30
        · exact c31
      rw [Array.getElem?_eq_getElem h1, Array.getElem?_eq_getElem h2] at key
      injection key
  · intro z hz
    simp only [List.mem_cons, List.not_mem_nil, or_false] at hz
    rcases hz with rfl | rfl | rfl | rfl | rfl | rfl | rfl | rfl | rfl | rfl | rfl | rfl | rfl | rfl | rfl | rfl | rfl | rfl | rfl | rfl | rfl | rfl | rfl | rfl | rfl | rfl | rfl | rfl | rfl | rfl | rfl | rfl
    · exact w0
    · exact w1
    · exact w2
    · exact w3
    · exact w4
    · exact w5
    · exact w6
    · exact w7
    · exact w8
    · exact w9
    · exact w10
    · exact w11
    · exact w12
    · exact w13
    · exact w14
    · exact w15
    · exact w16
    · exact w17
    · exact w18
    · exact w19
    · exact w20
    · exact w21
    · exact w22
    · exact w23
    · exact w24
    · exact w25
    · exact w26
    · exact w27
    · exact w28
    · exact w29
    · exact w30
    · exact w31
end

set_option maxRecDepth 100000 in
set_option maxHeartbeats 8000000 in
theorem pvtback_any (xs : List Int) (A : Option Addr) (n c : Nat) (b : List UInt8) (w : World) (hl : xs.length = 32) (hx : ∀ z ∈ xs, -9223372036854775808 ≤ z ∧ z ≤ 9223372036854775807) (h : Rd w w.heap.size 1 A n c (bv b)) :
    Calls Try.prog 13 #[.agg (pvC xs), .slice A n c] w fun e w' => e = .returned (.bool true) ∧ Below w.heap.size w w' := by
  have hle := h.le
  have hmx := h.max
  unfold maxLen at hmx
  have hb0 : Below w.heap.size w (w.alloc (.cells (pvC xs) 66)) := (Below.refl _ _).alloc (Nat.le_refl _) _
  have hbox := heap_alloc_new w (.cells (pvC xs) 66)
  by_cases g1 : 200 < n
  · go_enter Try.func13, Try.ntmps13
    go_wp2_with fail
    go_fit (knows16 _)
    rintro e w1 ⟨rfl, hb1⟩
    go_wp2
    go_ret
    exact ⟨rfl, bnx hb0 hb1⟩
  have hthere := fun he => ptake_there (xs := xs) hl he
  obtain ⟨oP, hoP⟩ : ∃ oP, oP = shP pvtF (valsOf xs) := ⟨_, rfl⟩
  obtain ⟨oE, hoE⟩ : ∃ oE, oE = shE pvtF (valsOf xs) := ⟨_, rfl⟩
  have hnone : oE ≠ 0 → oP = [] := fun he => by rw [hoP]; exact shP_none (by rw [← hoE]; exact he)
  have Hput := Lib.hid (fun w => pvtPut_any xs w hl hx)
  rw [← hoP, ← hoE] at Hput
  rw [← hoP, ← hoE] at hthere
  obtain ⟨ms, hms⟩ : ∃ m, m = ptake b := ⟨_, rfl⟩
  have hml := ptake_len b
  have hmb := ptake_bounds b
  obtain ⟨oG, hoG⟩ : ∃ m, m = shTE pvtF b := ⟨_, rfl⟩
  have hback := @ptake_back b
  have hback2 := @ptake_none b
  rw [← hms] at hml hmb hback hback2
  rw [← hoG] at hback hback2
  have Hq := Lib.hid (fun (w1 : World) (hb : Below w.heap.size w w1) => pvtTake_any A n c w.heap.size b w1 (h.up hb) hb.size (by omega))
  unfold RetPT at Hq
  rw [← hms, ← hoG] at Hq
  have Hback : Hid (oG = 0 → True ∧ ∀ w, Calls Try.prog 48 #[.agg (pvC ms)] w (RetPS w b 0)) := Lib.hid (fun he => ⟨trivial, fun w => by
    have := pvtPut_any ms w hml hmb
    rw [(hback he).1, (hback he).2] at this
    exact this⟩)
  have Hback2 := Lib.hid hback2
  have Hthere := Lib.hid hthere
  have Hnone := Lib.hid hnone
  have HsM : Hid ((Try.prog.info? 66).map (·.size) = some (pvC ms).size) := Lib.hid (by rw [pvC_size, hml, pvt_size])
  have HsX : Hid ((Try.prog.info? 66).map (·.size) = some (pvC xs).size) := Lib.hid (by rw [pvC_size, hl, pvt_size])
  have Hml := Lib.hid hml
  have Hl := Lib.hid hl
  clear hthere hnone hms hml hmb hback hback2 hoG hoP hoE hx hl
  go_enter Try.func13, Try.ntmps13
  go_wp2_with fail
  generalize (w.alloc (.cells (pvC xs) 66)) = w0 at *
  go_fit (knows16 _)
  rintro e w1 ⟨rfl, hb1⟩
  replace hbox := blk_old hbox hb1 (blk_lt hbox)
  have hb := bnx hb0 hb1
  clear hb0 hb1
  go_wp2_with (first | (with_reducible refine stop_loadT 66 ?_) | (with_reducible refine stop_storeT 66 ?_) | (with_reducible refine stop_loadG 66 ?_))
  refine go_ (wpList_load_row rfl _ _ rfl w.heap.size rfl _ _ _ _ hbox Try.underlying66 rfl HsX.out ?_)
  go_wp2_with (first | (with_reducible refine stop_loadT 66 ?_) | (with_reducible refine stop_storeT 66 ?_) | (with_reducible refine stop_loadG 66 ?_))
  go_fit (Hput.out _)
  rintro e w2 ⟨A2, n2, c2, rfl, hown2, hc⟩
  have hp2 := Rd.own hown2
  replace hbox := blk_old hbox hc (blk_lt hbox)
  replace hb := bnx hb hc
  have hlp := own_len hown2
  have hcp := hp2.max
  have hcp2 := hp2.le
  unfold maxLen at hcp
  clear hown2 hc
  by_cases he : oE = 0
  · obtain ⟨p1, p2, p3⟩ := Hthere.out he
    have htake := pvtTake_any A2 n2 c2 w2.heap.size oP w2 hp2 (Nat.le_refl _) (by omega)
    unfold RetPT at htake
    rw [p1, p2] at htake
    have Htake := Lib.hid htake
    obtain rfl : n2 = 92 := by omega
    have he' : (oE : Int) = 0 := by omega
    have hns := pvt_nsame xs Hl.out
    clear htake p1 p2 p3 hp2 hlp
    go_wp2_with fail
    go_fit (num16_any _ _)
    rintro e v ⟨rfl, rfl⟩
    go_wp2_with fail
    go_fit Htake.out
    rintro e w3 ⟨rfl, hc⟩
    have hs0 := hb.size
    replace hb := bnx hb hc
    replace hbox := blk_old hbox hc (blk_lt hbox)
    have q1 := heap_alloc_new w3 (.cells #[.int .i64 0, .int .i64 0, .int .i64 0, .int .i64 0, .int .i64 0, .int .i64 0, .int .i64 0, .int .i64 0, .int .i64 0, .int .i64 0, .int .i64 0, .int .i64 0, .int .i64 0, .int .i64 0, .int .i64 0, .int .i64 0, .int .i64 0, .int .i64 0, .int .i64 0, .int .i64 0, .int .i64 0, .int .i64 0, .int .i64 0, .int .i64 0, .int .i64 0, .int .i64 0, .int .i64 0, .int .i64 0, .int .i64 0, .int .i64 0, .int .i64 0, .int .i64 0] 66)
    have hd1 : Below w3.heap.size w3 (w3.alloc (.cells #[.int .i64 0, .int .i64 0, .int .i64 0, .int .i64 0, .int .i64 0, .int .i64 0, .int .i64 0, .int .i64 0, .int .i64 0, .int .i64 0, .int .i64 0, .int .i64 0, .int .i64 0, .int .i64 0, .int .i64 0, .int .i64 0, .int .i64 0, .int .i64 0, .int .i64 0, .int .i64 0, .int .i64 0, .int .i64 0, .int .i64 0, .int .i64 0, .int .i64 0, .int .i64 0, .int .i64 0, .int .i64 0, .int .i64 0, .int .i64 0, .int .i64 0, .int .i64 0] 66)) := (Below.refl _ _).alloc (Nat.le_refl _) _
    have lb := blk_lt hbox
    replace hbox := blk_old hbox hd1 lb
    replace hb := bnx hb hd1
    have hsz : w.heap.size ≤ w3.heap.size := by have := hc.size; omega
    clear hc hs0 hd1 Htake
    go_wp2_with (first | (with_reducible refine stop_loadT 66 ?_) | (with_reducible refine stop_storeT 66 ?_) | (with_reducible refine stop_loadG 66 ?_))
    generalize (w3.alloc (.cells #[.int .i64 0, .int .i64 0, .int .i64 0, .int .i64 0, .int .i64 0, .int .i64 0, .int .i64 0, .int .i64 0, .int .i64 0, .int .i64 0, .int .i64 0, .int .i64 0, .int .i64 0, .int .i64 0, .int .i64 0, .int .i64 0, .int .i64 0, .int .i64 0, .int .i64 0, .int .i64 0, .int .i64 0, .int .i64 0, .int .i64 0, .int .i64 0, .int .i64 0, .int .i64 0, .int .i64 0, .int .i64 0, .int .i64 0, .int .i64 0, .int .i64 0, .int .i64 0] 66)) = w4 at *
    generalize w3.heap.size = g1' at *
    refine go_ (wpList_store_row rfl _ _ _ rfl g1' (pvC xs) rfl rfl _ _ q1 HsX.out (by rw [pvC_size, Hl.out]; rfl) (pvC_one _) ?_)
    have hd2 := below_setRow (Below.refl g1' w4) (Nat.le_refl _) (pvC xs)
    replace hb := hb.trans (hd2.mono hsz)
    replace q1 := setRow_heap _ _ _ (pvC xs) _ _ q1
    replace hbox := (hd2.block _ lb).trans hbox
    generalize (w4.setRow g1' (pvC xs)) = w5 at *
    clear hd2 lb hsz
    go_wp2_with (first | (with_reducible refine stop_loadT 66 ?_) | (with_reducible refine stop_storeT 66 ?_) | (with_reducible refine stop_loadG 66 ?_))
    go_fit (num16_any _ _)
    rintro e v ⟨rfl, rfl⟩
    go_wp2_with (first | (with_reducible refine stop_loadT 66 ?_) | (with_reducible refine stop_storeT 66 ?_) | (with_reducible refine stop_loadG 66 ?_))
    refine go_ (wpList_load_rowG (by kernel_rfl) _ _ rfl g1' rfl _ _ _ _ q1 Try.underlying66 rfl HsX.out ?_)
    go_wp2_with (first | (with_reducible refine stop_loadT 66 ?_) | (with_reducible refine stop_storeT 66 ?_) | (with_reducible refine stop_loadG 66 ?_))
    refine go_ (wpList_load_rowG (by kernel_rfl) _ _ rfl w.heap.size rfl _ _ _ _ hbox Try.underlying66 rfl HsX.out ?_)
    clear q1
    go_wp2_with (first | (with_reducible refine stop_loadT 66 ?_) | (with_reducible refine stop_storeT 66 ?_) | (with_reducible refine stop_loadG 66 ?_))
    go_fit (Hq.out _ hb)
    rintro e v1 ⟨rfl, hc1⟩
    have hs0 := hb.size
    replace hb := bnx hb hc1
    have q2 := heap_alloc_new v1 (.cells #[.int .i64 0, .int .i64 0, .int .i64 0, .int .i64 0, .int .i64 0, .int .i64 0, .int .i64 0, .int .i64 0, .int .i64 0, .int .i64 0, .int .i64 0, .int .i64 0, .int .i64 0, .int .i64 0, .int .i64 0, .int .i64 0, .int .i64 0, .int .i64 0, .int .i64 0, .int .i64 0, .int .i64 0, .int .i64 0, .int .i64 0, .int .i64 0, .int .i64 0, .int .i64 0, .int .i64 0, .int .i64 0, .int .i64 0, .int .i64 0, .int .i64 0, .int .i64 0] 66)
    have hd1 : Below v1.heap.size v1 (v1.alloc (.cells #[.int .i64 0, .int .i64 0, .int .i64 0, .int .i64 0, .int .i64 0, .int .i64 0, .int .i64 0, .int .i64 0, .int .i64 0, .int .i64 0, .int .i64 0, .int .i64 0, .int .i64 0, .int .i64 0, .int .i64 0, .int .i64 0, .int .i64 0, .int .i64 0, .int .i64 0, .int .i64 0, .int .i64 0, .int .i64 0, .int .i64 0, .int .i64 0, .int .i64 0, .int .i64 0, .int .i64 0, .int .i64 0, .int .i64 0, .int .i64 0, .int .i64 0, .int .i64 0] 66)) := (Below.refl _ _).alloc (Nat.le_refl _) _
    replace hb := bnx hb hd1
    have hsz : w.heap.size ≤ v1.heap.size := by have := hc1.size; omega
    clear hc1 hs0 hd1
    go_wp2_with (first | (with_reducible refine stop_loadT 66 ?_) | (with_reducible refine stop_storeT 66 ?_) | (with_reducible refine stop_loadG 66 ?_))
    generalize (v1.alloc (.cells #[.int .i64 0, .int .i64 0, .int .i64 0, .int .i64 0, .int .i64 0, .int .i64 0, .int .i64 0, .int .i64 0, .int .i64 0, .int .i64 0, .int .i64 0, .int .i64 0, .int .i64 0, .int .i64 0, .int .i64 0, .int .i64 0, .int .i64 0, .int .i64 0, .int .i64 0, .int .i64 0, .int .i64 0, .int .i64 0, .int .i64 0, .int .i64 0, .int .i64 0, .int .i64 0, .int .i64 0, .int .i64 0, .int .i64 0, .int .i64 0, .int .i64 0, .int .i64 0] 66)) = v2 at *
    generalize v1.heap.size = g2' at *
    refine go_ (wpList_store_row rfl _ _ _ rfl g2' (pvC ms) rfl rfl _ _ q2 HsM.out (by rw [pvC_size, Hml.out]; rfl) (pvC_one _) ?_)
    have hd2 := below_setRow (Below.refl g2' v2) (Nat.le_refl _) (pvC ms)
    replace hb := hb.trans (hd2.mono hsz)
    replace q2 := setRow_heap _ _ _ (pvC ms) _ _ q2
    generalize (v2.setRow g2' (pvC ms)) = v3 at *
    clear hd2 hsz
    by_cases hg : oG = 0
    · have hg' : (oG : Int) = 0 := by omega
      have Hput2 := Lib.hid ((Hback.out hg).2)
      go_wp2_with (first | (with_reducible refine stop_loadT 66 ?_) | (with_reducible refine stop_storeT 66 ?_) | (with_reducible refine stop_loadG 66 ?_))
      go_fit (num16_any _ _)
      rintro e wz ⟨rfl, rfl⟩
      go_wp2_with (first | (with_reducible refine stop_loadT 66 ?_) | (with_reducible refine stop_storeT 66 ?_) | (with_reducible refine stop_loadG 66 ?_))
      refine go_ (wpList_load_row rfl _ _ rfl g2' rfl _ _ _ _ q2 Try.underlying66 rfl HsM.out ?_)
      go_wp2_with (first | (with_reducible refine stop_loadT 66 ?_) | (with_reducible refine stop_storeT 66 ?_) | (with_reducible refine stop_loadG 66 ?_))
      go_fit (Hput2.out _)
      rintro e v4 ⟨A6, n6, c6, rfl, hown6, hc⟩
      replace hb := bnx hb hc
      have t1 := run_str v4 46 9 5 Try.underlying46 Try.underlying5 Try.underlying9 (Rd.own hown6)
      have t2 := run_str v4 46 9 5 Try.underlying46 Try.underlying5 Try.underlying9 (h.up hb)
      clear hc hown6 q2
      go_wp2_with fail
      go_fit (num16_any _ _)
      rintro e wz ⟨rfl, rfl⟩
      go_wp2
      go_ret
      exact ⟨by simp, hb⟩
    · have hg' : ¬ (oG : Int) = 0 := by omega
      obtain rfl : ms = pz := (Hback2.out hg)
      have hzz : ∀ w, (binOp .eql 66 (.agg (pvC pz)) (.agg #[.int .i64 0, .int .i64 0, .int .i64 0, .int .i64 0, .int .i64 0, .int .i64 0, .int .i64 0, .int .i64 0, .int .i64 0, .int .i64 0, .int .i64 0, .int .i64 0, .int .i64 0, .int .i64 0, .int .i64 0, .int .i64 0, .int .i64 0, .int .i64 0, .int .i64 0, .int .i64 0, .int .i64 0, .int .i64 0, .int .i64 0, .int .i64 0, .int .i64 0, .int .i64 0, .int .i64 0, .int .i64 0, .int .i64 0, .int .i64 0, .int .i64 0, .int .i64 0])).run Try.prog w = .ok (.bool true) w := pvt_same pz rfl
      go_wp2_with (first | (with_reducible refine stop_loadT 66 ?_) | (with_reducible refine stop_storeT 66 ?_) | (with_reducible refine stop_loadG 66 ?_))
      go_fit (num16_any _ _)
      rintro e wz ⟨rfl, rfl⟩
      go_wp2_with (first | (with_reducible refine stop_loadT 66 ?_) | (with_reducible refine stop_storeT 66 ?_) | (with_reducible refine stop_loadG 66 ?_))
      refine go_ (wpList_load_row rfl _ _ rfl g2' rfl _ _ _ _ q2 Try.underlying66 rfl HsM.out ?_)
      go_wp2_with fail
      go_fit (num16_any _ _)
      rintro e wz ⟨rfl, rfl⟩
      go_wp2
      go_ret
      exact ⟨rfl, hb⟩
  · have he' : ¬ (oE : Int) = 0 := by omega
    obtain rfl : n2 = 0 := by have := Hnone.out he; rw [this] at hlp; simpa using hlp.symm
    clear hp2 hlp hbox
    go_wp2_with fail
    go_fit (num16_any _ _)
    rintro e v ⟨rfl, rfl⟩
    go_wp2_with (first | (with_reducible refine stop_loadT 66 ?_) | (with_reducible refine stop_storeT 66 ?_) | (with_reducible refine stop_loadG 66 ?_))
    go_fit (Hq.out _ hb)
    rintro e v1 ⟨rfl, hc1⟩
    have hs0 := hb.size
    replace hb := bnx hb hc1
    have q2 := heap_alloc_new v1 (.cells #[.int .i64 0, .int .i64 0, .int .i64 0, .int .i64 0, .int .i64 0, .int .i64 0, .int .i64 0, .int .i64 0, .int .i64 0, .int .i64 0, .int .i64 0, .int .i64 0, .int .i64 0, .int .i64 0, .int .i64 0, .int .i64 0, .int .i64 0, .int .i64 0, .int .i64 0, .int .i64 0, .int .i64 0, .int .i64 0, .int .i64 0, .int .i64 0, .int .i64 0, .int .i64 0, .int .i64 0, .int .i64 0, .int .i64 0, .int .i64 0, .int .i64 0, .int .i64 0] 66)
    have hd1 : Below v1.heap.size v1 (v1.alloc (.cells #[.int .i64 0, .int .i64 0, .int .i64 0, .int .i64 0, .int .i64 0, .int .i64 0, .int .i64 0, .int .i64 0, .int .i64 0, .int .i64 0, .int .i64 0, .int .i64 0, .int .i64 0, .int .i64 0, .int .i64 0, .int .i64 0, .int .i64 0, .int .i64 0, .int .i64 0, .int .i64 0, .int .i64 0, .int .i64 0, .int .i64 0, .int .i64 0, .int .i64 0, .int .i64 0, .int .i64 0, .int .i64 0, .int .i64 0, .int .i64 0, .int .i64 0, .int .i64 0] 66)) := (Below.refl _ _).alloc (Nat.le_refl _) _
    replace hb := bnx hb hd1
    have hsz : w.heap.size ≤ v1.heap.size := by have := hc1.size; omega
    clear hc1 hs0 hd1
    go_wp2_with (first | (with_reducible refine stop_loadT 66 ?_) | (with_reducible refine stop_storeT 66 ?_) | (with_reducible refine stop_loadG 66 ?_))
    generalize (v1.alloc (.cells #[.int .i64 0, .int .i64 0, .int .i64 0, .int .i64 0, .int .i64 0, .int .i64 0, .int .i64 0, .int .i64 0, .int .i64 0, .int .i64 0, .int .i64 0, .int .i64 0, .int .i64 0, .int .i64 0, .int .i64 0, .int .i64 0, .int .i64 0, .int .i64 0, .int .i64 0, .int .i64 0, .int .i64 0, .int .i64 0, .int .i64 0, .int .i64 0, .int .i64 0, .int .i64 0, .int .i64 0, .int .i64 0, .int .i64 0, .int .i64 0, .int .i64 0, .int .i64 0] 66)) = v2 at *
    generalize v1.heap.size = g2' at *
    refine go_ (wpList_store_row rfl _ _ _ rfl g2' (pvC ms) rfl rfl _ _ q2 HsM.out (by rw [pvC_size, Hml.out]; rfl) (pvC_one _) ?_)
    have hd2 := below_setRow (Below.refl g2' v2) (Nat.le_refl _) (pvC ms)
    replace hb := hb.trans (hd2.mono hsz)
    replace q2 := setRow_heap _ _ _ (pvC ms) _ _ q2
    generalize (v2.setRow g2' (pvC ms)) = v3 at *
    clear hd2 hsz
    by_cases hg : oG = 0
    · have hg' : (oG : Int) = 0 := by omega
      have Hput2 := Lib.hid ((Hback.out hg).2)
      go_wp2_with (first | (with_reducible refine stop_loadT 66 ?_) | (with_reducible refine stop_storeT 66 ?_) | (with_reducible refine stop_loadG 66 ?_))
      go_fit (num16_any _ _)
      rintro e wz ⟨rfl, rfl⟩
      go_wp2_with (first | (with_reducible refine stop_loadT 66 ?_) | (with_reducible refine stop_storeT 66 ?_) | (with_reducible refine stop_loadG 66 ?_))
      refine go_ (wpList_load_row rfl _ _ rfl g2' rfl _ _ _ _ q2 Try.underlying66 rfl HsM.out ?_)
      go_wp2_with (first | (with_reducible refine stop_loadT 66 ?_) | (with_reducible refine stop_storeT 66 ?_) | (with_reducible refine stop_loadG 66 ?_))
      go_fit (Hput2.out _)
      rintro e v4 ⟨A6, n6, c6, rfl, hown6, hc⟩
      replace hb := bnx hb hc
      have t1 := run_str v4 46 9 5 Try.underlying46 Try.underlying5 Try.underlying9 (Rd.own hown6)
      have t2 := run_str v4 46 9 5 Try.underlying46 Try.underlying5 Try.underlying9 (h.up hb)
      clear hc hown6 q2
      go_wp2_with fail
      go_fit (num16_any _ _)
      rintro e wz ⟨rfl, rfl⟩
      go_wp2
      go_ret
      exact ⟨by simp, hb⟩
    · have hg' : ¬ (oG : Int) = 0 := by omega
      obtain rfl : ms = pz := (Hback2.out hg)
      have hzz : ∀ w, (binOp .eql 66 (.agg (pvC pz)) (.agg #[.int .i64 0, .int .i64 0, .int .i64 0, .int .i64 0, .int .i64 0, .int .i64 0, .int .i64 0, .int .i64 0, .int .i64 0, .int .i64 0, .int .i64 0, .int .i64 0, .int .i64 0, .int .i64 0, .int .i64 0, .int .i64 0, .int .i64 0, .int .i64 0, .int .i64 0, .int .i64 0, .int .i64 0, .int .i64 0, .int .i64 0, .int .i64 0, .int .i64 0, .int .i64 0, .int .i64 0, .int .i64 0, .int .i64 0, .int .i64 0, .int .i64 0, .int .i64 0])).run Try.prog w = .ok (.bool true) w := pvt_same pz rfl
      go_wp2_with (first | (with_reducible refine stop_loadT 66 ?_) | (with_reducible refine stop_storeT 66 ?_) | (with_reducible refine stop_loadG 66 ?_))
      go_fit (num16_any _ _)
      rintro e wz ⟨rfl, rfl⟩
      go_wp2_with (first | (with_reducible refine stop_loadT 66 ?_) | (with_reducible refine stop_storeT 66 ?_) | (with_reducible refine stop_loadG 66 ?_))
      refine go_ (wpList_load_row rfl _ _ rfl g2' rfl _ _ _ _ q2 Try.underlying66 rfl HsM.out ?_)
      go_wp2_with fail
      go_fit (num16_any _ _)
      rintro e wz ⟨rfl, rfl⟩
      go_wp2
      go_ret
      exact ⟨rfl, hb⟩

end Go.Proofs.Ytkelepnipndbbaa
