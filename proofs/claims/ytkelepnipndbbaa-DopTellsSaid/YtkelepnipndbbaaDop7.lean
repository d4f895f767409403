/-
  The law DopBack walked; how a message of layer 18 that came in is opened (printed by gen_dop6.py).
-/
import Derived.Test.YtkelepnipndbbaaDop6
import Derived.Test.YtkelepnipndbbaaOpenRow
set_option linter.unusedSimpArgs false
set_option linter.unusedVariables false
namespace Go.Proofs.Ytkelepnipndbbaa
open Go.RowKit NumLaw Go.ChangeShapes Go.WideShapes Go.ChangeAt

section
variable {H : Type} {enc : TypeId × Value → H} {W : World}
set_option maxRecDepth 10000 in
theorem open_dop {b0 : Nat} {v : Value} {d : DataW H} {p : List MemPlace} (hv : Value.okWide Try.prog W .any b0 58 v) (h : DataW.Trod enc Try.prog W 0 (fun _ => true) true 58 v d p) :
    ∃ (x0 x1 x2 x3 x4 x5 x6 x7 : Int), v = .agg #[.int .i64 x0, .int .i64 x1, .int .i64 x2, .int .i64 x3, .int .i64 x4, .int .i64 x5, .int .i64 x6, .int .i64 x7] ∧ ∀ z ∈ [x0, x1, x2, x3, x4, x5, x6, x7], -9223372036854775808 ≤ z ∧ z ≤ 9223372036854775807 := by
  obtain ⟨cs, rfl, hs, hat⟩ := open_row Try.underlying58 (by kernel_rfl) (by kernel_rfl) hv h
  obtain ⟨u0, m0, y0, c0, t0⟩ := hat 0 _ rfl
  obtain ⟨u1, m1, y1, c1, t1⟩ := hat 1 _ rfl
  obtain ⟨u2, m2, y2, c2, t2⟩ := hat 2 _ rfl
  obtain ⟨u3, m3, y3, c3, t3⟩ := hat 3 _ rfl
  obtain ⟨u4, m4, y4, c4, t4⟩ := hat 4 _ rfl
  obtain ⟨u5, m5, y5, c5, t5⟩ := hat 5 _ rfl
  obtain ⟨u6, m6, y6, c6, t6⟩ := hat 6 _ rfl
  obtain ⟨u7, m7, y7, c7, t7⟩ := hat 7 _ rfl
  obtain ⟨z0, e0, _, w0⟩ := DataW.trod_int Try.underlying2 t0
  obtain ⟨z1, e1, _, w1⟩ := DataW.trod_int Try.underlying2 t1
  obtain ⟨z2, e2, _, w2⟩ := DataW.trod_int Try.underlying2 t2
  obtain ⟨z3, e3, _, w3⟩ := DataW.trod_int Try.underlying2 t3
  obtain ⟨z4, e4, _, w4⟩ := DataW.trod_int Try.underlying2 t4
  obtain ⟨z5, e5, _, w5⟩ := DataW.trod_int Try.underlying2 t5
  obtain ⟨z6, e6, _, w6⟩ := DataW.trod_int Try.underlying2 t6
  obtain ⟨z7, e7, _, w7⟩ := DataW.trod_int Try.underlying2 t7
  injection e0 with e0; subst e0
  injection e1 with e1; subst e1
  injection e2 with e2; subst e2
  injection e3 with e3; subst e3
  injection e4 with e4; subst e4
  injection e5 with e5; subst e5
  injection e6 with e6; subst e6
  injection e7 with e7; subst e7
  refine ⟨z0, z1, z2, z3, z4, z5, z6, z7, ?_, ?_⟩
  · have hs3 : cs.size = 8 := hs
    congr 1
    apply Array.ext
    · simpa using hs3
    · intro i h1 h2
      have h2 : i < 8 := by simpa using h2
      match i, h2 with
      | 0, _ => simpa [Array.getElem?_eq_getElem h1] using c0
      | 1, _ => simpa [Array.getElem?_eq_getElem h1] using c1
      | 2, _ => simpa [Array.getElem?_eq_getElem h1] using c2
      | 3, _ => simpa [Array.getElem?_eq_getElem h1] using c3
      | 4, _ => simpa [Array.getElem?_eq_getElem h1] using c4
      | 5, _ => simpa [Array.getElem?_eq_getElem h1] using c5
      | 6, _ => simpa [Array.getElem?_eq_getElem h1] using c6
      | 7, _ => simpa [Array.getElem?_eq_getElem h1] using c7
  · intro z hz
    simp only [List.mem_cons, List.not_mem_nil, or_false] at hz
    rcases hz with rfl | rfl | rfl | rfl | rfl | rfl | rfl | rfl
    · exact bounds_i64 w0
    · exact bounds_i64 w1
    · exact bounds_i64 w2
    · exact bounds_i64 w3
    · exact bounds_i64 w4
    · exact bounds_i64 w5
    · exact bounds_i64 w6
    · exact bounds_i64 w7
end

theorem dopF_lohi : ∀ f ∈ dopF, (-9223372036854775808 ≤ f.lo ∧ f.lo ≤ 9223372036854775807) ∧ (-9223372036854775808 ≤ f.hi ∧ f.hi ≤ 9223372036854775807) := fun f hf => (dopF_b f hf).2
set_option maxRecDepth 10000 in
set_option maxHeartbeats 8000000 in
theorem dopback_any (x0 x1 x2 x3 x4 x5 x6 x7 : Int) (A : Option Addr) (n c : Nat) (b : List UInt8) (w : World) (hx : ∀ z ∈ [x0, x1, x2, x3, x4, x5, x6, x7], -9223372036854775808 ≤ z ∧ z ≤ 9223372036854775807) (h : Rd w w.heap.size 1 A n c (bv b)) :
    Calls Try.prog 9 #[.agg #[.int .i64 x0, .int .i64 x1, .int .i64 x2, .int .i64 x3, .int .i64 x4, .int .i64 x5, .int .i64 x6, .int .i64 x7], .slice A n c] w fun e w' => e = .returned (.bool true) ∧ Below w.heap.size w w' := by
  have hput := fun w => dopPut_any x0 x1 x2 x3 x4 x5 x6 x7 w hx
  have hb0 : Below w.heap.size w (w.alloc (.cells #[.int .i64 x0, .int .i64 x1, .int .i64 x2, .int .i64 x3, .int .i64 x4, .int .i64 x5, .int .i64 x6, .int .i64 x7] 58)) := (Below.refl _ _).alloc (Nat.le_refl _) _
  have hd := heap_alloc_new w (.cells #[.int .i64 x0, .int .i64 x1, .int .i64 x2, .int .i64 x3, .int .i64 x4, .int .i64 x5, .int .i64 x6, .int .i64 x7] 58)
  obtain ⟨vs, hvs⟩ : ∃ vs, vs = [x0, x1, x2, x3, x4, x5, x6, x7] := ⟨_, rfl⟩
  rw [← hvs] at hput
  have hthere := @takeD_there dopF vs
  have hback := @takeD_back dopF b
  have hlen := @shape_there dopF vs
  have hnone := @shP_none dopF vs
  have htnone := @takeD_none dopF b
  have hbd := @takeD_bounds dopF b dopF_lohi
  have hwd : widthL dopF = 18 := by decide
  rw [hwd] at hlen
  obtain ⟨oP, hoP⟩ : ∃ oP, oP = shP dopF vs := ⟨_, rfl⟩
  obtain ⟨oE, hoE⟩ : ∃ oE, oE = shE dopF vs := ⟨_, rfl⟩
  obtain ⟨oG, hoG⟩ : ∃ oG, oG = shTE dopF b := ⟨_, rfl⟩
  rw [← hoP] at hthere hlen hnone hput
  rw [← hoE] at hthere hlen hnone hput
  rw [← hoG] at hback htnone
  have hlen2 : oE = 0 → oP.length = 18 := fun h => (hlen h).2.2
  have Hput := Lib.hid hput
  have Hthere := Lib.hid hthere
  have Hback := Lib.hid hback
  have Hlen2 := Lib.hid hlen2
  have Hnone := Lib.hid hnone
  have Htnone := Lib.hid htnone
  have Hbd := Lib.hid hbd
  have Hvs := Lib.hid hvs
  have HoG := Lib.hid hoG
  clear hput hthere hback hlen hlen2 hnone htnone hbd hvs hx hoP hoE hoG hwd
  have hltd := blk_lt hd
  go_enter Try.func9, Try.ntmps9
  by_cases hn : 100 < n
  · go_wp2_with fail
    go_fit (knows18 _)
    rintro e w1 ⟨rfl, hb1⟩
    go_wp2
    go_ret
    exact ⟨rfl, bnx hb0 hb1⟩
  · go_wp2_with fail
    generalize (w.alloc (.cells #[.int .i64 x0, .int .i64 x1, .int .i64 x2, .int .i64 x3, .int .i64 x4, .int .i64 x5, .int .i64 x6, .int .i64 x7] 58)) = w0 at *
    go_fit (knows18 _)
    rintro e w1 ⟨rfl, hb1⟩
    replace hd := blk_old hd hb1 hltd
    replace hb1 := bnx hb0 hb1
    clear hb0 hltd
    have xc0 := blk_cell (i := 0) (v := .int .i64 x0) hd rfl
    have xc1 := blk_cell (i := 1) (v := .int .i64 x1) hd rfl
    have xc2 := blk_cell (i := 2) (v := .int .i64 x2) hd rfl
    have xc3 := blk_cell (i := 3) (v := .int .i64 x3) hd rfl
    have xc4 := blk_cell (i := 4) (v := .int .i64 x4) hd rfl
    have xc5 := blk_cell (i := 5) (v := .int .i64 x5) hd rfl
    have xc6 := blk_cell (i := 6) (v := .int .i64 x6) hd rfl
    have xc7 := blk_cell (i := 7) (v := .int .i64 x7) hd rfl
    go_wp2_with fail
    go_fit (Hput.out _)
    rintro e w2 ⟨A2, n2, c2, rfl, hown2, hb2⟩
    have hp2 := Rd.own hown2
    replace hd := blk_old hd hb2 (blk_lt hd)
    replace hb2 := bnx hb1 hb2
    have hlp := own_len hown2
    have hcp := hp2.max
    have hcp2 := hp2.le
    unfold maxLen at hcp
    clear hown2 hb1 xc0 xc1 xc2 xc3 xc4 xc5 xc6 xc7
    by_cases he : oE = 0
    · obtain ⟨q1, q2⟩ := Hthere.out he
      have htake := dopTake_any A2 n2 c2 w2.heap.size oP w2 hp2 (Nat.le_refl _) (by have := Hlen2.out he; omega)
      rw [q1, q2] at htake
      have hn2 : n2 = 18 := by rw [← hlp]; exact Hlen2.out he
      subst hn2
      have he' : (oE : Int) = 0 := by omega
      go_wp2_with fail
      go_fit (num18_any _ _)
      rintro e v ⟨rfl, hv⟩
      subst hv
      go_wp2_with fail
      go_fit htake
      rintro e w3 ⟨z0, z1, z2, z3, z4, z5, z6, z7, hz, rfl, hb3⟩
      rw [Hvs.out] at hz
      obtain ⟨rfl, rfl, rfl, rfl, rfl, rfl, rfl, rfl⟩ : z0 = x0 ∧ z1 = x1 ∧ z2 = x2 ∧ z3 = x3 ∧ z4 = x4 ∧ z5 = x5 ∧ z6 = x6 ∧ z7 = x7 := by simpa using hz
      clear hz htake q1 q2
      replace hb3 := hb3.alloc hb3.size (.cells #[.int .i64 z0, .int .i64 z1, .int .i64 z2, .int .i64 z3, .int .i64 z4, .int .i64 z5, .int .i64 z6, .int .i64 z7] 58)
      have hm := heap_alloc_new w3 (.cells #[.int .i64 z0, .int .i64 z1, .int .i64 z2, .int .i64 z3, .int .i64 z4, .int .i64 z5, .int .i64 z6, .int .i64 z7] 58)
      replace hd := blk_old hd hb3 (blk_lt hd)
      replace hb3 := bnx hb2 hb3
      clear hb2
      have zc0 := blk_cell (i := 0) (v := .int .i64 z0) hd rfl
      have zc1 := blk_cell (i := 1) (v := .int .i64 z1) hd rfl
      have zc2 := blk_cell (i := 2) (v := .int .i64 z2) hd rfl
      have zc3 := blk_cell (i := 3) (v := .int .i64 z3) hd rfl
      have zc4 := blk_cell (i := 4) (v := .int .i64 z4) hd rfl
      have zc5 := blk_cell (i := 5) (v := .int .i64 z5) hd rfl
      have zc6 := blk_cell (i := 6) (v := .int .i64 z6) hd rfl
      have zc7 := blk_cell (i := 7) (v := .int .i64 z7) hd rfl
      have yc0 := blk_cell (i := 0) (v := .int .i64 z0) hm rfl
      have yc1 := blk_cell (i := 1) (v := .int .i64 z1) hm rfl
      have yc2 := blk_cell (i := 2) (v := .int .i64 z2) hm rfl
      have yc3 := blk_cell (i := 3) (v := .int .i64 z3) hm rfl
      have yc4 := blk_cell (i := 4) (v := .int .i64 z4) hm rfl
      have yc5 := blk_cell (i := 5) (v := .int .i64 z5) hm rfl
      have yc6 := blk_cell (i := 6) (v := .int .i64 z6) hm rfl
      have yc7 := blk_cell (i := 7) (v := .int .i64 z7) hm rfl
      have hns := dop_nsame z0 z1 z2 z3 z4 z5 z6 z7
      go_wp2_with fail
      go_fit (num18_any _ _)
      rintro e v ⟨rfl, hv⟩
      subst hv
      go_wp2_with fail
      generalize (w3.alloc (.cells #[.int .i64 z0, .int .i64 z1, .int .i64 z2, .int .i64 z3, .int .i64 z4, .int .i64 z5, .int .i64 z6, .int .i64 z7] 58)) = w9 at *
      clear hns hd hm zc0 zc1 zc2 zc3 zc4 zc5 zc6 zc7 yc0 yc1 yc2 yc3 yc4 yc5 yc6 yc7
      go_wp2_with fail
      go_fit (dopTake_any A n c w.heap.size b _ (h.up hb3) hb3.size (by omega))
      rintro e w4 ⟨y0, y1, y2, y3, y4, y5, y6, y7, hy, rfl, hb4⟩
      rw [← HoG.out]
      replace hb4 := hb4.alloc hb4.size (.cells #[.int .i64 y0, .int .i64 y1, .int .i64 y2, .int .i64 y3, .int .i64 y4, .int .i64 y5, .int .i64 y6, .int .i64 y7] 58)
      have hm := heap_alloc_new w4 (.cells #[.int .i64 y0, .int .i64 y1, .int .i64 y2, .int .i64 y3, .int .i64 y4, .int .i64 y5, .int .i64 y6, .int .i64 y7] 58)
      replace hb4 := bnx hb3 hb4
      by_cases hg : oG = 0
      · obtain ⟨q1, q2⟩ := Hback.out hg
        have hbd := Hbd.out
        rw [← hy] at q1 q2 hbd
        have hput2 := fun w => dopPut_any y0 y1 y2 y3 y4 y5 y6 y7 w hbd
        rw [q1, q2] at hput2
        have Hput2 := Lib.hid hput2
        have hg' : (oG : Int) = 0 := by omega
        clear q1 q2 hbd hput2 hy
        have yc0 := blk_cell (i := 0) (v := .int .i64 y0) hm rfl
        have yc1 := blk_cell (i := 1) (v := .int .i64 y1) hm rfl
        have yc2 := blk_cell (i := 2) (v := .int .i64 y2) hm rfl
        have yc3 := blk_cell (i := 3) (v := .int .i64 y3) hm rfl
        have yc4 := blk_cell (i := 4) (v := .int .i64 y4) hm rfl
        have yc5 := blk_cell (i := 5) (v := .int .i64 y5) hm rfl
        have yc6 := blk_cell (i := 6) (v := .int .i64 y6) hm rfl
        have yc7 := blk_cell (i := 7) (v := .int .i64 y7) hm rfl
        go_wp2_with fail
        go_fit (num18_any _ _)
        rintro e v ⟨rfl, hv⟩
        subst hv
        go_wp2_with fail
        generalize (w4.alloc (.cells #[.int .i64 y0, .int .i64 y1, .int .i64 y2, .int .i64 y3, .int .i64 y4, .int .i64 y5, .int .i64 y6, .int .i64 y7] 58)) = w5 at *
        go_fit (Hput2.out _)
        rintro e w6 ⟨A6, n6, c6, rfl, hown6, hb6⟩
        replace hb6 := bnx hb4 hb6
        have v1 := run_str w6 46 9 5 Try.underlying46 Try.underlying5 Try.underlying9 (Rd.own hown6)
        have v2 := run_str w6 46 9 5 Try.underlying46 Try.underlying5 Try.underlying9 (h.up hb6)
        go_wp2_with fail
        go_fit (num18_any _ _)
        rintro e v ⟨rfl, hv⟩
        subst hv
        go_wp2
        go_ret
        exact ⟨by simp, hb6⟩
      · have hg' : ¬ (oG : Int) = 0 := by omega
        have hz := Htnone.out hg
        rw [← hy] at hz
        obtain ⟨rfl, rfl, rfl, rfl, rfl, rfl, rfl, rfl⟩ : y0 = 0 ∧ y1 = 0 ∧ y2 = 0 ∧ y3 = 0 ∧ y4 = 0 ∧ y5 = 0 ∧ y6 = 0 ∧ y7 = 0 := by
          simpa [dopF, List.replicate] using hz
        clear hy hz
        have hsame := dop_same 0 0 0 0 0 0 0 0
        have yc0 := blk_cell (i := 0) (v := .int .i64 0) hm rfl
        have yc1 := blk_cell (i := 1) (v := .int .i64 0) hm rfl
        have yc2 := blk_cell (i := 2) (v := .int .i64 0) hm rfl
        have yc3 := blk_cell (i := 3) (v := .int .i64 0) hm rfl
        have yc4 := blk_cell (i := 4) (v := .int .i64 0) hm rfl
        have yc5 := blk_cell (i := 5) (v := .int .i64 0) hm rfl
        have yc6 := blk_cell (i := 6) (v := .int .i64 0) hm rfl
        have yc7 := blk_cell (i := 7) (v := .int .i64 0) hm rfl
        go_wp2_with fail
        go_fit (num18_any _ _)
        rintro e v ⟨rfl, hv⟩
        subst hv
        go_wp2_with fail
        go_fit (num18_any _ _)
        rintro e v ⟨rfl, hv⟩
        subst hv
        go_wp2
        go_ret
        exact ⟨rfl, hb4⟩
    · have he' : ¬ (oE : Int) = 0 := by omega
      have hk0 : n2 = 0 := by have := Hnone.out he; rw [this] at hlp; simpa using hlp.symm
      subst hk0
      go_wp2_with fail
      go_fit (num18_any _ _)
      rintro e v ⟨rfl, hv⟩
      subst hv
      go_wp2_with fail
      go_fit (dopTake_any A n c w.heap.size b _ (h.up hb2) hb2.size (by omega))
      rintro e w4 ⟨y0, y1, y2, y3, y4, y5, y6, y7, hy, rfl, hb4⟩
      rw [← HoG.out]
      replace hb4 := hb4.alloc hb4.size (.cells #[.int .i64 y0, .int .i64 y1, .int .i64 y2, .int .i64 y3, .int .i64 y4, .int .i64 y5, .int .i64 y6, .int .i64 y7] 58)
      have hm := heap_alloc_new w4 (.cells #[.int .i64 y0, .int .i64 y1, .int .i64 y2, .int .i64 y3, .int .i64 y4, .int .i64 y5, .int .i64 y6, .int .i64 y7] 58)
      replace hb4 := bnx hb2 hb4
      by_cases hg : oG = 0
      · obtain ⟨q1, q2⟩ := Hback.out hg
        have hbd := Hbd.out
        rw [← hy] at q1 q2 hbd
        have hput2 := fun w => dopPut_any y0 y1 y2 y3 y4 y5 y6 y7 w hbd
        rw [q1, q2] at hput2
        have Hput2 := Lib.hid hput2
        have hg' : (oG : Int) = 0 := by omega
        clear q1 q2 hbd hput2 hy
        have yc0 := blk_cell (i := 0) (v := .int .i64 y0) hm rfl
        have yc1 := blk_cell (i := 1) (v := .int .i64 y1) hm rfl
        have yc2 := blk_cell (i := 2) (v := .int .i64 y2) hm rfl
        have yc3 := blk_cell (i := 3) (v := .int .i64 y3) hm rfl
        have yc4 := blk_cell (i := 4) (v := .int .i64 y4) hm rfl
        have yc5 := blk_cell (i := 5) (v := .int .i64 y5) hm rfl
        have yc6 := blk_cell (i := 6) (v := .int .i64 y6) hm rfl
        have yc7 := blk_cell (i := 7) (v := .int .i64 y7) hm rfl
        go_wp2_with fail
        go_fit (num18_any _ _)
        rintro e v ⟨rfl, hv⟩
        subst hv
        go_wp2_with fail
        generalize (w4.alloc (.cells #[.int .i64 y0, .int .i64 y1, .int .i64 y2, .int .i64 y3, .int .i64 y4, .int .i64 y5, .int .i64 y6, .int .i64 y7] 58)) = w5 at *
        go_fit (Hput2.out _)
        rintro e w6 ⟨A6, n6, c6, rfl, hown6, hb6⟩
        replace hb6 := bnx hb4 hb6
        have v1 := run_str w6 46 9 5 Try.underlying46 Try.underlying5 Try.underlying9 (Rd.own hown6)
        have v2 := run_str w6 46 9 5 Try.underlying46 Try.underlying5 Try.underlying9 (h.up hb6)
        go_wp2_with fail
        go_fit (num18_any _ _)
        rintro e v ⟨rfl, hv⟩
        subst hv
        go_wp2
        go_ret
        exact ⟨by simp, hb6⟩
      · have hg' : ¬ (oG : Int) = 0 := by omega
        have hz := Htnone.out hg
        rw [← hy] at hz
        obtain ⟨rfl, rfl, rfl, rfl, rfl, rfl, rfl, rfl⟩ : y0 = 0 ∧ y1 = 0 ∧ y2 = 0 ∧ y3 = 0 ∧ y4 = 0 ∧ y5 = 0 ∧ y6 = 0 ∧ y7 = 0 := by
          simpa [dopF, List.replicate] using hz
        clear hy hz
        have hsame := dop_same 0 0 0 0 0 0 0 0
        have yc0 := blk_cell (i := 0) (v := .int .i64 0) hm rfl
        have yc1 := blk_cell (i := 1) (v := .int .i64 0) hm rfl
        have yc2 := blk_cell (i := 2) (v := .int .i64 0) hm rfl
        have yc3 := blk_cell (i := 3) (v := .int .i64 0) hm rfl
        have yc4 := blk_cell (i := 4) (v := .int .i64 0) hm rfl
        have yc5 := blk_cell (i := 5) (v := .int .i64 0) hm rfl
        have yc6 := blk_cell (i := 6) (v := .int .i64 0) hm rfl
        have yc7 := blk_cell (i := 7) (v := .int .i64 0) hm rfl
        go_wp2_with fail
        go_fit (num18_any _ _)
        rintro e v ⟨rfl, hv⟩
        subst hv
        go_wp2_with fail
        go_fit (num18_any _ _)
        rintro e v ⟨rfl, hv⟩
        subst hv
        go_wp2
        go_ret
        exact ⟨rfl, hb4⟩
end Go.Proofs.Ytkelepnipndbbaa
