/-
  shape.Take whole; the document's Same of numbers; the statements' knows of layer 14.
-/
import Derived.Test.YtonejdjhdjckjaaGreatShape6
set_option linter.unusedSimpArgs false
set_option linter.unusedVariables false
namespace Go.Proofs.YtonejdjhdjckjaaGreat
open Go.RowKit NumLaw

set_option maxRecDepth 10000 in
set_option maxHeartbeats 1000000 in
theorem shTake_any (A : Option Addr) (n c B : Nat) (l : List FieldV) (A' : Option Addr) (n' c' B' : Nat) (b : List UInt8) (w : World) (h : RdF w B A n c l) (hB : B ≤ w.heap.size) (h' : Rd w B' 1 A' n' c' (bv b)) (hB' : B' ≤ w.heap.size) (hn : n ≤ 100000) (hn' : n' ≤ 1000000000) :
    Calls Tryz.prog 28 #[.slice A n c, .slice A' n' c'] w (RetTS w (shT l b) (shTE l b)) := by
  have hlb := h'.blen
  have hright := fun w' h' hB' => shRight_any A n c B l w' h' hB'
  have hwidth := shWidth_any A n c B l w h hB hn
  cases hr : rightL l with
  | false =>
    have e1 : shTE l b = 1 := by unfold shTE; rw [if_neg (by rw [hr]; simp)]
    rw [show shT l b = [] by unfold shT; rw [e1]; rfl, e1]
    rw [hr] at hright
    have Hright := Lib.hid hright
    clear hr e1 hlb hright
    go_enter Tryz.func28, Tryz.ntmps28
    go_wp2_with fail
    go_fit hwidth
    rintro e w1 ⟨rfl, hb1⟩
    go_wp2_with fail
    go_fit (Hright.out w1 (h.up (hb1.mono hB)) (Nat.le_trans hB hb1.size))
    rintro e w2 ⟨rfl, hb12⟩
    go_wp2
    go_ret2
    exact ⟨none, 0, 0, rfl, World.ownsRow_nil _ _ _ _, bnx hb1 hb12⟩
  | true =>
    by_cases hlen : n' = sumL l
    · exact shTake_go A n c B l A' n' c' B' b w h hB h' hB' hn hr hlen
    · have hw : widthL l = sumL l := by unfold widthL; rw [if_pos hr]
      rw [hw] at hwidth
      rw [hr] at hright
      have hs8 : sumL l ≤ 800000 := by
        have := sumL_take hr l.length
        rw [List.take_length, h.1] at this
        omega
      have hE : shTE l b = if n' < sumL l then 2 else 7 := by
        unfold shTE
        rw [if_pos hr, hlb]
        by_cases hlt : n' < sumL l
        · rw [if_pos hlt, if_pos hlt]
        · rw [if_neg hlt, if_neg hlt, if_pos (by omega)]
      generalize sumL l = s at *
      have Hright := Lib.hid hright
      have Hne := Lib.hid hlen
      have hs63 : (s : Int) ≤ 800000 := by omega
      by_cases hlt : n' < s
      · rw [if_pos hlt] at hE
        rw [show shT l b = [] by unfold shT; rw [hE]; rfl, hE]
        clear hE hr hw hlb hright hlen
        go_enter Tryz.func28, Tryz.ntmps28
        go_wp2_with fail
        go_fit hwidth
        rintro e w1 ⟨rfl, hb1⟩
        go_wp2_with fail
        go_fit (Hright.out w1 (h.up (hb1.mono hB)) (Nat.le_trans hB hb1.size))
        rintro e w2 ⟨rfl, hb12⟩
        go_wp2
        go_ret2
        exact ⟨none, 0, 0, rfl, World.ownsRow_nil _ _ _ _, bnx hb1 hb12⟩
      · rw [if_neg hlt] at hE
        rw [show shT l b = [] by unfold shT; rw [hE]; rfl, hE]
        have hgt : s < n' := by omega
        clear hE hr hw hlb hright hlen
        go_enter Tryz.func28, Tryz.ntmps28
        go_wp2_with fail
        go_fit hwidth
        rintro e w1 ⟨rfl, hb1⟩
        go_wp2_with fail
        go_fit (Hright.out w1 (h.up (hb1.mono hB)) (Nat.le_trans hB hb1.size))
        rintro e w2 ⟨rfl, hb12⟩
        go_wp2
        go_ret2
        exact ⟨none, 0, 0, rfl, World.ownsRow_nil _ _ _ _, bnx hb1 hb12⟩

/- the document's Same -/
theorem num_at {w : World} {B n c : Nat} {A : Option Addr} {vs : List Int} (h : Rd w B 1 A n c (vs.map (Value.int .i64))) {k : Nat} (hk : k < n) : ∃ ad x, A = some ad ∧ vs[k]? = some x ∧ w.cell? (ad.add k) = some (.int .i64 x) ∧ ad.block < B := by
  obtain ⟨ad, u, rfl, hu, hc⟩ := h.one hk
  obtain ⟨x, hx, rfl⟩ : ∃ x, vs[k]? = some x ∧ Value.int .i64 x = u := by simpa using hu
  refine ⟨ad, x, rfl, hx, hc, ?_⟩
  obtain ⟨ad', e', hb', _⟩ := h.at_ (by omega)
  injection e' with e'
  rw [e']; exact hb'
set_option maxRecDepth 10000 in
set_option maxHeartbeats 1000000 in
theorem same_any (A : Option Addr) (n c B : Nat) (vs : List Int) (A' : Option Addr) (n' c' B' : Nat) (us : List Int) (w : World) (h : Rd w B 1 A n c (vs.map (Value.int .i64))) (hB : B ≤ w.heap.size) (h' : Rd w B' 1 A' n' c' (us.map (Value.int .i64))) (hB' : B' ≤ w.heap.size) :
    Calls Tryz.prog 18 #[.slice A n c, .slice A' n' c'] w fun e w' => e = .returned (.bool (decide (vs = us))) ∧ Below w.heap.size w w' := by
  have hl : vs.length = n := by have := h.len; simpa using this
  have hl' : us.length = n' := by have := h'.len; simpa using this
  have hmx := h.max
  have hle := h.le
  unfold maxLen at hmx
  obtain ⟨r, hr⟩ : ∃ r : Bool, r = decide (vs = us) := ⟨_, rfl⟩
  rw [← hr]
  have HR := Lib.hid hr
  clear hr
  by_cases hnn : n = n'
  · subst hnn
    have Hl := Lib.hid hl
    have Hl' := Lib.hid hl'
    clear hl hl'
    go_enter Tryz.func18, Tryz.ntmps18
    go_wp2_with fail
    go_loopw [5] (fun i wr => ∃ (k : Nat), k ≤ n ∧ i = .int .i64 k ∧ Below w.heap.size w wr ∧ Hid (vs.take k = us.take k)) (fun i _ => n - (intOf i).toNat)
    case atStart => exact ⟨0, by omega, rfl, Below.refl _ _, Lib.hid rfl⟩
    case round =>
      obtain ⟨k, hk, rfl, hb, heq⟩ := hrel
      by_cases hlt : k < n
      · obtain ⟨ad, x, rfl, hx, hcx, hadx⟩ := num_at h hlt
        obtain ⟨ad', y, rfl, hy, hcy, hady⟩ := num_at h' hlt
        have d1 := (hb.cell (p := ad.add k) (by rw [blk_add]; omega)).trans hcx
        have d2 := (hb.cell (p := ad'.add k) (by rw [blk_add]; omega)).trans hcy
        have Hs : Hid (vs.take (k + 1) = us.take (k + 1) ↔ x = y) := Lib.hid (by rw [take_succ hx, take_succ hy, heq.out]; simp)
        have Hne : Hid (x ≠ y → decide (vs = us) = false) := Lib.hid (fun hne => decide_eq_false (fun e => hne (by rw [e, hy] at hx; injection hx with hx; exact hx.symm)))
        clear hx hy hcx hcy
        go_wp2_with fail
        refine Ord.region_ (fun _ => True) true [20, 24] (by kernel_rfl) (by kernel_rfl) trivial ?_
        replace hb := hb.drew
        replace d1 : wr.drew.cell? _ = _ := d1
        replace d2 : wr.drew.cell? _ = _ := d2
        generalize wr.drew = w3 at *
        repeat (first | (refine Ord.e_p (v := ?_) rfl (by rfl) ?_ ?_; rotate_left; · (intro w2; go_simp; try with_reducible rfl)) | (refine Ord.e_u (by rfl) ?_)); (try simp only [Act.put, List.setIfInBounds_toArray, List.set_cons_zero, List.set_cons_succ])
        refine Ord.e_load Tryz.underlying2 rfl d1 rfl (by rfl) (by rfl) ?_
        (try simp only [Act.put, List.setIfInBounds_toArray, List.set_cons_zero, List.set_cons_succ])
        repeat (first | (refine Ord.e_p (v := ?_) rfl (by rfl) ?_ ?_; rotate_left; · (intro w2; go_simp; try with_reducible rfl)) | (refine Ord.e_u (by rfl) ?_)); (try simp only [Act.put, List.setIfInBounds_toArray, List.set_cons_zero, List.set_cons_succ])
        refine Ord.e_load Tryz.underlying2 rfl d2 rfl (by rfl) (by rfl) ?_
        (try simp only [Act.put, List.setIfInBounds_toArray, List.set_cons_zero, List.set_cons_succ])
        repeat (first | (refine Ord.e_p (v := ?_) rfl (by rfl) ?_ ?_; rotate_left; · (intro w2; go_simp; try with_reducible rfl)) | (refine Ord.e_u (by rfl) ?_)); (try simp only [Act.put, List.setIfInBounds_toArray, List.set_cons_zero, List.set_cons_succ])
        refine Ord.e_nil ?_
        clear d1 d2
        by_cases hxy : x = y
        · have Hk := Lib.hid (Hs.out.2 hxy)
          subst hxy
          clear Hs Hne
          go_wp2
          go_roundw
          case rel => exact ⟨k + 1, by omega, by go_num, hb, Hk⟩
          case measure => simp [intOf]; omega
        · obtain rfl : r = false := by rw [HR.out]; exact Hne.out hxy
          clear Hs Hne
          go_wp2
          go_ret
          exact ⟨rfl, hb⟩
      · obtain rfl : k = n := by omega
        have e1 : vs.take k = vs := List.take_of_length_le (by rw [Hl.out]; exact Nat.le_refl _)
        have e2 : us.take k = us := List.take_of_length_le (by rw [Hl'.out]; exact Nat.le_refl _)
        rw [e1, e2] at heq
        obtain rfl : r = true := by rw [HR.out]; exact decide_eq_true heq.out
        clear e1 e2
        go_wp2
        go_ret
        exact ⟨rfl, hb⟩
  · have hnn' : ¬ (n : Int) = (n' : Int) := by omega
    obtain rfl : r = false := by rw [HR.out]; exact decide_eq_false (fun e => hnn (by rw [← hl, ← hl', e]))
    clear hl hl' hnn
    go_enter Tryz.func18, Tryz.ntmps18
    go_wp2
    go_ret
    exact ⟨rfl, Below.refl _ _⟩

/- knows -/
theorem rdF_lit1 (w : World) (f : FieldV) (h1 : -9223372036854775808 ≤ f.size ∧ f.size ≤ 9223372036854775807) (h2 : -9223372036854775808 ≤ f.lo ∧ f.lo ≤ 9223372036854775807) (h3 : -9223372036854775808 ≤ f.hi ∧ f.hi ≤ 9223372036854775807) :
    RdF (w.alloc (.cells #[.int .i64 f.size, .bool f.sg, .int .i64 f.lo, .int .i64 f.hi] 85)) (w.heap.size + 1) (some ⟨w.heap.size, 0, none⟩) 1 1 [f] := by
  have hb := heap_alloc_new w (.cells #[.int .i64 f.size, .bool f.sg, .int .i64 f.lo, .int .i64 f.hi] 85)
  refine ⟨rfl, Nat.le_refl _, by simp [maxLen], fun _ => ⟨w.heap.size, 0, rfl, by omega, fun k g hk => ?_⟩⟩
  match k, hk with
  | 0, hk =>
    simp at hk
    subst hk
    exact ⟨blk_cell hb rfl, blk_cell hb rfl, blk_cell hb rfl, blk_cell hb rfl, h1, h2, h3⟩
theorem rd_lit' (w : World) (e : TypeId) (cs : List Value) (hm : cs.length ≤ maxLen) : Rd (w.alloc (.cells cs.toArray e)) (w.heap.size + 1) 1 (some ⟨w.heap.size, 0, none⟩) cs.length cs.length cs := by
  refine ⟨by simp, Nat.le_refl _, hm, fun _ => ⟨_, rfl, Nat.lt_succ_self _, fun j u hu => ?_⟩⟩
  have e1 : (⟨w.heap.size, 0, none⟩ : Addr).add j = ⟨w.heap.size, j, none⟩ := by unfold Addr.add; split <;> simp_all
  rw [e1, World.cell?, show (⟨w.heap.size, j, none⟩ : Addr).block = w.heap.size from rfl, heap_alloc_new w _]
  simpa using hu
end Go.Proofs.YtonejdjhdjckjaaGreat
