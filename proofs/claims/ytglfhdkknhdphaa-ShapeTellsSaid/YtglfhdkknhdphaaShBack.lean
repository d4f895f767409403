/-
  The law ShapeBack walked. (Its last part is printed by gen_shback.py.)
-/
import Derived.Test.YtglfhdkknhdphaaShapeLaw
import Derived.Test.YtglfhdkknhdphaaOpen
set_option linter.unusedSimpArgs false
set_option linter.unusedVariables false
namespace Go.Proofs.Ytglfhdkknhdphaa
open Go.RowKit NumLaw Go.ChangeShapes Go.WideShapes Go.ChangeAt

theorem list_of' {β : Type} {R : Nat → β → Prop} (n : Nat) (h : ∀ i, i < n → ∃ x, R i x) : ∃ l : List β, l.length = n ∧ ∀ i x, l[i]? = some x → R i x := by
  induction n with
  | zero => exact ⟨[], rfl, fun i x hx => by simp at hx⟩
  | succ n ih =>
    obtain ⟨l, hl, hr⟩ := ih (fun i hi => h i (by omega))
    obtain ⟨x, hx⟩ := h n (by omega)
    refine ⟨l ++ [x], by simp [hl], fun i y hy => ?_⟩
    rcases Nat.lt_or_ge i l.length with hi | hi
    · rw [List.getElem?_append_left hi] at hy
      exact hr i y hy
    · rw [List.getElem?_append_right hi] at hy
      rcases Nat.eq_or_lt_of_le hi with he | he
      · rw [← he] at hy
        simp at hy
        subst hy
        rw [← he, hl]
        exact hx
      · rw [List.getElem?_eq_none (by simp; omega)] at hy; cases hy
section
variable {H : Type} {enc : TypeId × Value → H} {W : World}
set_option maxRecDepth 10000 in
theorem open_frows {b0 : Nat} {v : Value} {d : DataW H} {p : List MemPlace} (hv : Value.okWide Try.prog W .any b0 75 v) (h : DataW.Trod enc Try.prog W 0 (fun _ => true) true 75 v d p) :
    ∃ (A : Option Addr) (n c : Nat) (l : List FieldV), v = .slice A n c ∧ RdF W W.heap.size A n c l := by
  obtain ⟨A, n, c, rfl, hn, hc, hat⟩ := open_rows Try.underlying75 Try.underlying77 (by kernel_rfl) (by kernel_rfl) (Nat.succ_pos 3) hv h
  rcases Nat.eq_zero_or_pos n with rfl | hpos
  · exact ⟨A, 0, c, [], rfl, rfl, hn, hc, fun h => absurd h (Nat.lt_irrefl _)⟩
  obtain ⟨g, off, rfl, hlt, hel⟩ := hat hpos
  have := list_of' (R := fun i o => FieldAt W g (off + i * 4) o) n (fun i hi => by
    obtain ⟨u0, m0, y0, c0, t0⟩ := hel i hi 0 _ rfl
    obtain ⟨u1, m1, y1, c1, t1⟩ := hel i hi 1 _ rfl
    obtain ⟨u2, m2, y2, c2, t2⟩ := hel i hi 2 _ rfl
    obtain ⟨u3, m3, y3, c3, t3⟩ := hel i hi 3 _ rfl
    obtain ⟨z0, e0, _, w0⟩ := DataW.trod_int Try.underlying3 t0
    obtain ⟨z1, e1, _⟩ := DataW.trod_bool Try.underlying4 t1
    obtain ⟨z2, e2, _, w2⟩ := DataW.trod_int Try.underlying2 t2
    obtain ⟨z3, e3, _, w3⟩ := DataW.trod_int Try.underlying2 t3
    injection e0 with e0; injection e1 with e1; injection e2 with e2; injection e3 with e3
    subst e0; subst e1; subst e2; subst e3
    exact ⟨⟨z0, z1, z2, z3⟩, by simpa using c0, c1, c2, c3, bounds_i64 w0, bounds_i64 w2, bounds_i64 w3⟩)
  obtain ⟨l, hl, ho⟩ := this
  exact ⟨_, n, c, l, rfl, hl, hn, hc, fun _ => ⟨g, off, rfl, hlt, ho⟩⟩
end
theorem RdF.bounds {w : World} {B n c : Nat} {A : Option Addr} {l : List FieldV} (h : RdF w B A n c l) : ∀ f ∈ l, (-9223372036854775808 ≤ f.lo ∧ f.lo ≤ 9223372036854775807) ∧ (-9223372036854775808 ≤ f.hi ∧ f.hi ≤ 9223372036854775807) := by
  intro f hf
  obtain ⟨k, hk⟩ := List.mem_iff_getElem?.1 hf
  have hkl : k < n := by have := (List.getElem?_eq_some_iff.1 hk).1; rw [h.1] at this; exact this
  obtain ⟨g, off, f', _, _, hx, _, _, _, _, _, h6, h7⟩ := h.at_ hkl
  rw [hk] at hx
  injection hx with hx
  subst hx
  exact ⟨h6, h7⟩

set_option maxRecDepth 10000 in
set_option maxHeartbeats 4000000 in
theorem shback_any (A : Option Addr) (n c : Nat) (l : List FieldV) (A2 : Option Addr) (n2 c2 : Nat) (vs : List Int) (A3 : Option Addr) (n3 c3 : Nat) (b : List UInt8) (w : World) (h : RdF w w.heap.size A n c l) (h2 : Rd w w.heap.size 1 A2 n2 c2 (vs.map (Value.int .i64))) (hwf : ∀ z ∈ vs, (Lit.int .i64 z).wf = true) (h3 : Rd w w.heap.size 1 A3 n3 c3 (bv b)) :
    Calls Try.prog 13 #[.slice A n c, .slice A2 n2 c2, .slice A3 n3 c3] w fun e w' => e = .returned (.bool true) ∧ Below w.heap.size w w' := by
  go_enter Try.func13, Try.ntmps13
  rcases (by omega : 200 < n ∨ (¬ 200 < n ∧ 200 < n2) ∨ (¬ 200 < n ∧ ¬ 200 < n2 ∧ 2000 < n3) ∨ (¬ 200 < n ∧ ¬ 200 < n2 ∧ ¬ 2000 < n3)) with g1 | ⟨g1, g2⟩ | ⟨g1, g2, g3⟩ | ⟨g1, g2, g3⟩
  · go_wp2_with fail
    go_fit (knows14 _)
    rintro e w1 ⟨rfl, hb1⟩
    go_wp2
    go_ret
    exact ⟨rfl, hb1⟩
  · go_wp2_with fail
    go_fit (knows14 _)
    rintro e w1 ⟨rfl, hb1⟩
    go_wp2
    go_ret
    exact ⟨rfl, hb1⟩
  · go_wp2_with fail
    go_fit (knows14 _)
    rintro e w1 ⟨rfl, hb1⟩
    go_wp2
    go_ret
    exact ⟨rfl, hb1⟩
  have hvb : ∀ x ∈ vs, -9223372036854775808 ≤ x ∧ x ≤ 9223372036854775807 := fun x hx => bounds_i64 (hwf x hx)
  have Hvb := Lib.hid hvb
  obtain ⟨oE, hoE⟩ : ∃ oE, oE = shE l vs := ⟨_, rfl⟩
  obtain ⟨oP, hoP⟩ : ∃ oP, oP = shP l vs := ⟨_, rfl⟩
  obtain ⟨oG, hoG⟩ : ∃ oG, oG = shTE l b := ⟨_, rfl⟩
  obtain ⟨oT, hoT⟩ : ∃ oT, oT = shT l b := ⟨_, rfl⟩
  have Hthere := Lib.hid (@shape_there l vs)
  have Hback := Lib.hid (@shape_back l b)
  have hbd : oG = 0 → ∀ x ∈ oT, -9223372036854775808 ≤ x ∧ x ≤ 9223372036854775807 := fun hg => by
    have h0 : shTE l b = 0 := by rw [← hoG]; exact hg
    have hT : oT = takeV l b := by rw [hoT]; unfold shT; rw [if_pos h0]
    have hin : inAll l (takeV l b) = true := by
      unfold shTE at h0
      split at h0
      · split at h0
        · cases h0
        · split at h0
          · cases h0
          · split at h0
            · rename_i h4; exact h4
            · cases h0
      · cases h0
    rw [hT]
    exact inAll_bounds h.bounds (takeV_len l b) hin
  rw [← hoE, ← hoP] at Hthere
  rw [← hoG, ← hoT] at Hback
  have HoE := Lib.hid hoE
  have HoP := Lib.hid hoP
  have HoG := Lib.hid hoG
  have HoT := Lib.hid hoT
  have Hbd := Lib.hid hbd
  clear hoE hoP hoG hoT hvb hwf hbd
  go_wp2_with fail
  go_fit (knows14 _)
  rintro e w1 ⟨rfl, hb1⟩
  go_wp2_with fail
  go_fit (shPut_any A n c w.heap.size l A2 n2 c2 w.heap.size vs w1 (h.up hb1) hb1.size (h2.up hb1) hb1.size (by omega) Hvb.out)
  rw [← HoE.out, ← HoP.out]
  rintro e w2 ⟨Ap, np, kp, rfl, hownp, hbp⟩
  have hb2 := bnx hb1 hbp
  have hlp := own_len hownp
  clear hb1 hbp
  by_cases he : oE = 0
  · obtain ⟨q1, q2, q3⟩ := Hthere.out he
    have he' : (oE : Int) = 0 := by omega
    have htake := shTake_any A n c w.heap.size l Ap np kp w2.heap.size oP w2 (h.up hb2) hb2.size (Rd.own hownp) (Nat.le_refl _) (by omega) (by
      have h0 : shE l vs = 0 := by rw [← HoE.out]; exact he
      have hs := sumL_take (l := l) (by unfold shE at h0; split at h0; (rename_i hh; exact hh.1); cases h0) l.length
      rw [List.take_length, h.1] at hs
      have hwd : widthL l ≤ sumL l := by unfold widthL; split <;> omega
      omega)
    rw [q1, q2] at htake
    have hwidth := fun w' hb => shWidth_any A n c w.heap.size l w' (h.up hb) (Below.size hb) (by omega)
    rw [← q3, hlp] at hwidth
    have Hwidth := Lib.hid hwidth
    clear q1 q2 q3 hwidth
    go_wp2_with fail
    go_fit (num14_any _ _)
    rintro e w3 ⟨rfl, rfl⟩
    go_wp2_with fail
    go_fit htake
    rintro e w4 ⟨Aq, kq, nq, rfl, hownq, hbq⟩
    have hb4 := bnx hb2 hbq
    have hrq := Rd.own hownq
    clear hbq htake
    go_wp2_with fail
    go_fit (num14_any _ _)
    rintro e w5 ⟨rfl, rfl⟩
    go_wp2_with fail
    go_fit (same_any A2 n2 c2 w.heap.size vs Aq kq nq w4.heap.size vs w4 (h2.up hb4) hb4.size hrq (Nat.le_refl _))
    rintro e w6 ⟨rfl, hb6⟩
    rw [decide_eq_true rfl]
    have hbt0 := bnx hb4 hb6
    go_wp2_with fail
    go_fit (Hwidth.out _ hbt0)
    rintro e wt ⟨rfl, hbt1⟩
    have hbt := bnx hbt0 hbt1
    clear hbt0 hbt1 hb4 hb6 hrq hownq Hwidth
    go_wp2_with fail
    go_fit (shTake_any A n c w.heap.size l A3 n3 c3 w.heap.size b wt (h.up hbt) hbt.size (h3.up hbt) hbt.size (by omega) (by omega))
    rw [← HoG.out, ← HoT.out]
    rintro e wu ⟨Au, ku, nu, rfl, hru, hbu⟩
    have hbu' := bnx hbt hbu
    clear hbu
    have hnu : oT.length = ku := by have := hru.1; simpa using this
    by_cases hg : oG = 0
    · obtain ⟨q1, q2, q3⟩ := Hback.out hg
      rw [h.1] at q3
      have hg' : (oG : Int) = 0 := by omega
      have hku : ku = n := by omega
      subst hku
      have hput2 := shPut_any A ku c w.heap.size l Au ku nu _ oT wu (h.up hbu') hbu'.size (Rd.own hru) (Nat.le_refl _) (by omega) (Hbd.out hg)
      rw [q1, q2] at hput2
      have Hput2 := Lib.hid hput2
      clear q1 q2 q3 hput2 hnu
      go_wp2_with fail
      go_fit (num14_any _ _)
      rintro e wv ⟨rfl, rfl⟩
      go_wp2_with fail
      go_fit Hput2.out
      rintro e wv ⟨Av, nv, kv, rfl, hownv, hbv⟩
      have hbv' := bnx hbu' hbv
      have v1 := run_str wv 22 9 5 Try.underlying22 Try.underlying5 Try.underlying9 (Rd.own hownv)
      have v2 := run_str wv 22 9 5 Try.underlying22 Try.underlying5 Try.underlying9 (h3.up hbv')
      clear hownv hbv
      go_wp2_with fail
      go_fit (num14_any _ _)
      rintro e wx ⟨rfl, rfl⟩
      go_wp2
      go_ret
      exact ⟨by simp, hbv'⟩
    · have hg' : ¬ (oG : Int) = 0 := by omega
      have hT0 : oT = [] := by rw [HoT.out]; unfold shT; rw [if_neg (by rw [← HoG.out]; exact hg)]
      have hk0 : ku = 0 := by rw [hT0] at hnu; simpa using hnu.symm
      subst hk0
      clear hT0
      go_wp2_with fail
      go_fit (num14_any _ _)
      rintro e wv ⟨rfl, rfl⟩
      go_wp2_with fail
      go_fit (num14_any _ _)
      rintro e wv ⟨rfl, rfl⟩
      go_wp2
      go_ret
      exact ⟨rfl, hbu'⟩
  · have he' : ¬ (oE : Int) = 0 := by omega
    have hP0 : oP = [] := by rw [HoP.out]; unfold shP; rw [if_neg (by rw [← HoE.out]; exact he)]
    have hk0 : np = 0 := by rw [hP0] at hlp; simpa using hlp.symm
    subst hk0
    clear hP0
    go_wp2_with fail
    go_fit (num14_any _ _)
    rintro e wt ⟨rfl, rfl⟩
    have hbt := hb2
    have hwt : ∃ wt, wt = w2 := ⟨_, rfl⟩
    obtain ⟨wt, rfl⟩ := hwt
    go_wp2_with fail
    go_fit (shTake_any A n c w.heap.size l A3 n3 c3 w.heap.size b wt (h.up hbt) hbt.size (h3.up hbt) hbt.size (by omega) (by omega))
    rw [← HoG.out, ← HoT.out]
    rintro e wu ⟨Au, ku, nu, rfl, hru, hbu⟩
    have hbu' := bnx hbt hbu
    clear hbu
    have hnu : oT.length = ku := by have := hru.1; simpa using this
    by_cases hg : oG = 0
    · obtain ⟨q1, q2, q3⟩ := Hback.out hg
      rw [h.1] at q3
      have hg' : (oG : Int) = 0 := by omega
      have hku : ku = n := by omega
      subst hku
      have hput2 := shPut_any A ku c w.heap.size l Au ku nu _ oT wu (h.up hbu') hbu'.size (Rd.own hru) (Nat.le_refl _) (by omega) (Hbd.out hg)
      rw [q1, q2] at hput2
      have Hput2 := Lib.hid hput2
      clear q1 q2 q3 hput2 hnu
      go_wp2_with fail
      go_fit (num14_any _ _)
      rintro e wv ⟨rfl, rfl⟩
      go_wp2_with fail
      go_fit Hput2.out
      rintro e wv ⟨Av, nv, kv, rfl, hownv, hbv⟩
      have hbv' := bnx hbu' hbv
      have v1 := run_str wv 22 9 5 Try.underlying22 Try.underlying5 Try.underlying9 (Rd.own hownv)
      have v2 := run_str wv 22 9 5 Try.underlying22 Try.underlying5 Try.underlying9 (h3.up hbv')
      clear hownv hbv
      go_wp2_with fail
      go_fit (num14_any _ _)
      rintro e wx ⟨rfl, rfl⟩
      go_wp2
      go_ret
      exact ⟨by simp, hbv'⟩
    · have hg' : ¬ (oG : Int) = 0 := by omega
      have hT0 : oT = [] := by rw [HoT.out]; unfold shT; rw [if_neg (by rw [← HoG.out]; exact hg)]
      have hk0 : ku = 0 := by rw [hT0] at hnu; simpa using hnu.symm
      subst hk0
      clear hT0
      go_wp2_with fail
      go_fit (num14_any _ _)
      rintro e wv ⟨rfl, rfl⟩
      go_wp2_with fail
      go_fit (num14_any _ _)
      rintro e wv ⟨rfl, rfl⟩
      go_wp2
      go_ret
      exact ⟨rfl, hbu'⟩

end Go.Proofs.Ytglfhdkknhdphaa
