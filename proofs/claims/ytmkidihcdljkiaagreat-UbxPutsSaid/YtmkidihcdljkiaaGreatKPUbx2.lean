/-
  The five parts' put, walked (printed by gen_ubx2.py).
-/
import Derived.Test.YtmkidihcdljkiaaGreatKPGUA
import Derived.Test.YtmkidihcdljkiaaGreatKPPvt11
import Derived.Test.YtmkidihcdljkiaaGreatKPSats4
import Derived.Test.YtmkidihcdljkiaaGreatKPDop2
import Derived.Test.YtmkidihcdljkiaaGreatKPAck2
import Derived.Test.YtmkidihcdljkiaaGreatKPGVB
set_option linter.unusedSimpArgs false
set_option linter.unusedVariables false
namespace Go.Proofs.YtmkidihcdljkiaaGreat
open Go.RowKit NumLaw
attribute [local go_sem] Addr.add_mid

theorem dop8 {l : List Int} (h : l.length = 8) : ∃ x0 x1 x2 x3 x4 x5 x6 x7 : Int, l = [x0, x1, x2, x3, x4, x5, x6, x7] := by
  match l, h with
  | [x0, x1, x2, x3, x4, x5, x6, x7], _ => exact ⟨x0, x1, x2, x3, x4, x5, x6, x7, rfl⟩
theorem dopPut_l (l : List Int) (hl : l.length = 8) (hb : ∀ z ∈ l, -9223372036854775808 ≤ z ∧ z ≤ 9223372036854775807) (w : World) : Calls Tryz.prog 155 #[.agg (i64s l).toArray] w (RetPS w (shP dopF l) (shE dopF l)) := by
  obtain ⟨x0, x1, x2, x3, x4, x5, x6, x7, rfl⟩ := dop8 hl
  exact dopPut_any x0 x1 x2 x3 x4 x5 x6 x7 w hb
theorem qdopPut_l (l : List Int) (hl : l.length = 8) (hb : ∀ z ∈ l, -9223372036854775808 ≤ z ∧ z ≤ 9223372036854775807) (w : World) : Calls Tryz.prog 25 #[.agg (i64s l).toArray] w (RetPS w (shP dopF l) (shE dopF l)) := by
  obtain ⟨x0, x1, x2, x3, x4, x5, x6, x7, rfl⟩ := dop8 hl
  exact qdopPut_any x0 x1 x2 x3 x4 x5 x6 x7 w hb
theorem two_b {a b : Int} (ha : -9223372036854775808 ≤ a ∧ a ≤ 9223372036854775807) (hb : -9223372036854775808 ≤ b ∧ b ≤ 9223372036854775807) : ∀ z ∈ [a, b], -9223372036854775808 ≤ z ∧ z ≤ 9223372036854775807 := by
  intro z hz
  simp only [List.mem_cons, List.not_mem_nil, or_false] at hz
  rcases hz with rfl | rfl
  · exact ha
  · exact hb
/-- Each part's contract, the program's and the document's, as a message has it. -/
theorem ubp1 {V : UbV} (h : UbOk V) (w : World) : Calls Tryz.prog 113 #[.agg (i64s V.p).toArray] w (RetPS w (shP pvtF (valsOf V.p)) (shE pvtF (valsOf V.p))) := pvtPut_any V.p w h.pl h.pb
theorem ubq1 {V : UbV} (h : UbOk V) (w : World) : Calls Tryz.prog 23 #[.agg (i64s V.p).toArray] w (RetPS w (shP pvtF (valsOf V.p)) (shE pvtF (valsOf V.p))) := qpvtPut_any V.p w h.pl h.pb
theorem ubp2 {V : UbV} {a : UbA} (h : UbOk V) (w : World) (hr : UbR w w.heap.size V a) : Calls Tryz.prog 143 #[.agg (saS V.t a.A a.n a.c).toArray] w (RetPS w (satsP V.t V.l) (satsE V.t V.l)) := satsPut_any V.t a.A a.n a.c V.l w hr.s h.t h.lb h.ll
theorem ubq2 {V : UbV} {a : UbA} (h : UbOk V) (w : World) (hr : UbR w w.heap.size V a) : Calls Tryz.prog 24 #[.agg (saS V.t a.A a.n a.c).toArray] w (RetPS w (satsP V.t V.l) (satsE V.t V.l)) := qsatsPut_any V.t a.A a.n a.c V.l w hr.s h.ll
theorem ubp3 {V : UbV} (h : UbOk V) (w : World) : Calls Tryz.prog 155 #[.agg (i64s V.d).toArray] w (RetPS w (shP dopF V.d) (shE dopF V.d)) := dopPut_l V.d h.dl h.db w
theorem ubq3 {V : UbV} (h : UbOk V) (w : World) : Calls Tryz.prog 25 #[.agg (i64s V.d).toArray] w (RetPS w (shP dopF V.d) (shE dopF V.d)) := qdopPut_l V.d h.dl h.db w
theorem ubp4 {V : UbV} (h : UbOk V) (w : World) : Calls Tryz.prog 162 #[.agg (acS V.y V.a1 V.a2).toArray] w (RetPS w (shP ackF [V.a1, V.a2]) (shE ackF [V.a1, V.a2])) := ackPut_any V.a1 V.a2 V.y w (two_b h.a1 h.a2)
theorem ubq4 {V : UbV} (h : UbOk V) (w : World) : Calls Tryz.prog 26 #[.agg (acS V.y V.a1 V.a2).toArray] w (RetPS w (shP ackF [V.a1, V.a2]) (shE ackF [V.a1, V.a2])) := qackPut_any V.a1 V.a2 V.y w (two_b h.a1 h.a2)
theorem ubp5 {V : UbV} {a : UbA} (h : UbOk V) (w : World) (hr : UbR w w.heap.size V a) : Calls Tryz.prog 170 #[.agg (saS V.la a.A' a.n' a.c').toArray] w (RetPS w (valP V.la V.q) (valE V.la V.q)) := valPut_any V.la a.A' a.n' a.c' V.q w hr.q h.la
theorem ubq5 {V : UbV} {a : UbA} (h : UbOk V) (w : World) (hr : UbR w w.heap.size V a) : Calls Tryz.prog 27 #[.agg (saS V.la a.A' a.n' a.c').toArray] w (RetPS w (valP V.la V.q) (valE V.la V.q)) := qvalPut_any V.la a.A' a.n' a.c' V.q w hr.q h.la h.qb
theorem ps_to {w w' : World} {l l' : List UInt8} {n n' : Nat} {e : Ending} (h : RetPS w l n e w') (hl : l = l') (hn : n = n') : RetPS w l' n' e w' := by subst hl hn; exact h

set_option maxRecDepth 10000 in
set_option maxHeartbeats 1000000 in
theorem ubput1 (V : UbV) (a : UbA) (h : UbOk V) (w : World) (hr : UbR w w.heap.size V a) (hk : V.k = 1) :
    Calls Tryz.prog 111 #[.agg #[], .agg (ubL V a).toArray] w (RetPS w (ubB V) (ubE V)) := by
  obtain ⟨x0, x1, hs, hb⟩ := al2 w (.cells #[] 88) (.cells (ubL V a).toArray 35)
  have hx : UbB ((w.alloc (.cells #[] 88)).alloc (.cells (ubL V a).toArray 35)) (w.heap.size + 1) V a := x1
  have hr1 := (hr.up hb).more hb.size
  have eB : shP pvtF (valsOf V.p) = ubB V := by simp [ubB, hk]
  have eE : shE pvtF (valsOf V.p) = ubE V := by simp [ubE, hk]
  have HB := Lib.hid eB
  have HE := Lib.hid eE
  clear x0 x1 hs hr eB eE hk
  go_enter Tryz.func111, Tryz.ntmps111
  go_wp2_with (first | (with_reducible refine stop_loadT 23 ?_) | (with_reducible refine stop_storeT 23 ?_) | (with_reducible refine stop_loadG 23 ?_))
  generalize ((w.alloc (.cells #[] 88)).alloc (.cells (ubL V a).toArray 35)) = w1 at *
  refine go_ (wpList_load_mid rfl _ _ rfl (w.heap.size + 1) 1 rfl (i64s V.p) _ (hx.pr h.pl) Tryz.underlying23 rfl (by rw [i64s_len, h.pl]; kernel_rfl) ?_)
  go_wp2_with fail
  go_fit (ubp1 h w1)
  rintro e w2 ⟨A, n, c, rfl, hown, hb2⟩
  replace hown := own_mono hown hb.size
  replace hb := bnx hb hb2
  clear hb2 hx hr1
  go_wp2
  go_ret2
  exact ps_to ⟨A, n, c, rfl, hown, hb⟩ HB.out HE.out

set_option maxRecDepth 10000 in
set_option maxHeartbeats 1000000 in
theorem ubput2 (V : UbV) (a : UbA) (h : UbOk V) (w : World) (hr : UbR w w.heap.size V a) (hk : V.k = 2) :
    Calls Tryz.prog 140 #[.agg #[], .agg (ubL V a).toArray] w (RetPS w (ubB V) (ubE V)) := by
  obtain ⟨x0, x1, hs, hb⟩ := al2 w (.cells #[] 89) (.cells (ubL V a).toArray 35)
  have hx : UbB ((w.alloc (.cells #[] 89)).alloc (.cells (ubL V a).toArray 35)) (w.heap.size + 1) V a := x1
  have hr1 := (hr.up hb).more hb.size
  have eB : satsP V.t V.l = ubB V := by simp [ubB, hk]
  have eE : satsE V.t V.l = ubE V := by simp [ubE, hk]
  have HB := Lib.hid eB
  have HE := Lib.hid eE
  clear x0 x1 hs hr eB eE hk
  go_enter Tryz.func140, Tryz.ntmps140
  go_wp2_with (first | (with_reducible refine stop_loadT 26 ?_) | (with_reducible refine stop_storeT 26 ?_) | (with_reducible refine stop_loadG 26 ?_))
  generalize ((w.alloc (.cells #[] 89)).alloc (.cells (ubL V a).toArray 35)) = w1 at *
  refine go_ (wpList_load_mid rfl _ _ rfl (w.heap.size + 1) 33 rfl (saS V.t a.A a.n a.c) _ (hx.sr h.pl) Tryz.underlying26 rfl (by kernel_rfl) ?_)
  go_wp2_with fail
  go_fit (ubp2 h w1 hr1)
  rintro e w2 ⟨A, n, c, rfl, hown, hb2⟩
  replace hown := own_mono hown hb.size
  replace hb := bnx hb hb2
  clear hb2 hx hr1
  go_wp2
  go_ret2
  exact ps_to ⟨A, n, c, rfl, hown, hb⟩ HB.out HE.out

set_option maxRecDepth 10000 in
set_option maxHeartbeats 1000000 in
theorem ubput3 (V : UbV) (a : UbA) (h : UbOk V) (w : World) (hr : UbR w w.heap.size V a) (hk : V.k = 3) :
    Calls Tryz.prog 153 #[.agg #[], .agg (ubL V a).toArray] w (RetPS w (ubB V) (ubE V)) := by
  obtain ⟨x0, x1, hs, hb⟩ := al2 w (.cells #[] 90) (.cells (ubL V a).toArray 35)
  have hx : UbB ((w.alloc (.cells #[] 90)).alloc (.cells (ubL V a).toArray 35)) (w.heap.size + 1) V a := x1
  have hr1 := (hr.up hb).more hb.size
  have eB : shP dopF V.d = ubB V := by simp [ubB, hk]
  have eE : shE dopF V.d = ubE V := by simp [ubE, hk]
  have HB := Lib.hid eB
  have HE := Lib.hid eE
  clear x0 x1 hs hr eB eE hk
  go_enter Tryz.func153, Tryz.ntmps153
  go_wp2_with (first | (with_reducible refine stop_loadT 28 ?_) | (with_reducible refine stop_storeT 28 ?_) | (with_reducible refine stop_loadG 28 ?_))
  generalize ((w.alloc (.cells #[] 90)).alloc (.cells (ubL V a).toArray 35)) = w1 at *
  refine go_ (wpList_load_mid rfl _ _ rfl (w.heap.size + 1) 35 rfl (i64s V.d) _ (hx.dr h.pl) Tryz.underlying28 rfl (by rw [i64s_len, h.dl]; kernel_rfl) ?_)
  go_wp2_with fail
  go_fit (ubp3 h w1)
  rintro e w2 ⟨A, n, c, rfl, hown, hb2⟩
  replace hown := own_mono hown hb.size
  replace hb := bnx hb hb2
  clear hb2 hx hr1
  go_wp2
  go_ret2
  exact ps_to ⟨A, n, c, rfl, hown, hb⟩ HB.out HE.out

set_option maxRecDepth 10000 in
set_option maxHeartbeats 1000000 in
theorem ubput4 (V : UbV) (a : UbA) (h : UbOk V) (w : World) (hr : UbR w w.heap.size V a) (hk : V.k = 4) :
    Calls Tryz.prog 160 #[.agg #[], .agg (ubL V a).toArray] w (RetPS w (ubB V) (ubE V)) := by
  obtain ⟨x0, x1, hs, hb⟩ := al2 w (.cells #[] 91) (.cells (ubL V a).toArray 35)
  have hx : UbB ((w.alloc (.cells #[] 91)).alloc (.cells (ubL V a).toArray 35)) (w.heap.size + 1) V a := x1
  have hr1 := (hr.up hb).more hb.size
  have eB : shP ackF [V.a1, V.a2] = ubB V := by simp [ubB, hk]
  have eE : shE ackF [V.a1, V.a2] = ubE V := by simp [ubE, hk]
  have HB := Lib.hid eB
  have HE := Lib.hid eE
  clear x0 x1 hs hr eB eE hk
  go_enter Tryz.func160, Tryz.ntmps160
  go_wp2_with (first | (with_reducible refine stop_loadT 30 ?_) | (with_reducible refine stop_storeT 30 ?_) | (with_reducible refine stop_loadG 30 ?_))
  generalize ((w.alloc (.cells #[] 91)).alloc (.cells (ubL V a).toArray 35)) = w1 at *
  refine go_ (wpList_load_mid rfl _ _ rfl (w.heap.size + 1) 43 rfl (acS V.y V.a1 V.a2) _ (hx.ar h.pl h.dl) Tryz.underlying30 rfl (by kernel_rfl) ?_)
  go_wp2_with fail
  go_fit (ubp4 h w1)
  rintro e w2 ⟨A, n, c, rfl, hown, hb2⟩
  replace hown := own_mono hown hb.size
  replace hb := bnx hb hb2
  clear hb2 hx hr1
  go_wp2
  go_ret2
  exact ps_to ⟨A, n, c, rfl, hown, hb⟩ HB.out HE.out

set_option maxRecDepth 10000 in
set_option maxHeartbeats 1000000 in
theorem ubput5 (V : UbV) (a : UbA) (h : UbOk V) (w : World) (hr : UbR w w.heap.size V a) (hk : V.k = 5) :
    Calls Tryz.prog 167 #[.agg #[], .agg (ubL V a).toArray] w (RetPS w (ubB V) (ubE V)) := by
  obtain ⟨x0, x1, hs, hb⟩ := al2 w (.cells #[] 92) (.cells (ubL V a).toArray 35)
  have hx : UbB ((w.alloc (.cells #[] 92)).alloc (.cells (ubL V a).toArray 35)) (w.heap.size + 1) V a := x1
  have hr1 := (hr.up hb).more hb.size
  have eB : valP V.la V.q = ubB V := by simp [ubB, hk]
  have eE : valE V.la V.q = ubE V := by simp [ubE, hk]
  have HB := Lib.hid eB
  have HE := Lib.hid eE
  clear x0 x1 hs hr eB eE hk
  go_enter Tryz.func167, Tryz.ntmps167
  go_wp2_with (first | (with_reducible refine stop_loadT 33 ?_) | (with_reducible refine stop_storeT 33 ?_) | (with_reducible refine stop_loadG 33 ?_))
  generalize ((w.alloc (.cells #[] 92)).alloc (.cells (ubL V a).toArray 35)) = w1 at *
  refine go_ (wpList_load_mid rfl _ _ rfl (w.heap.size + 1) 46 rfl (saS V.la a.A' a.n' a.c') _ (hx.qr h.pl h.dl) Tryz.underlying33 rfl (by kernel_rfl) ?_)
  go_wp2_with fail
  go_fit (ubp5 h w1 hr1)
  rintro e w2 ⟨A, n, c, rfl, hown, hb2⟩
  replace hown := own_mono hown hb.size
  replace hb := bnx hb hb2
  clear hb2 hx hr1
  go_wp2
  go_ret2
  exact ps_to ⟨A, n, c, rfl, hown, hb⟩ HB.out HE.out

end Go.Proofs.YtmkidihcdljkiaaGreat
