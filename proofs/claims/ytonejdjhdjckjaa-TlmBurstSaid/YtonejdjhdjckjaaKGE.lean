/-
  Several texts in one: Shape7 ShapeLaw ShBack OpenCell Stb SchLaw GenW Cells Big StbW OwB.
-/
import Derived.Test.YtonejdjhdjckjaaKGD
import Derived.Test.YtonejdjhdjckjaaKGA
import Derived.Laws.CopyOwn
import Derived.Laws.Tables
import Derived.Laws.Rows
import Derived.Laws.CopyRow
import Derived.Deep.MidRow
import Derived.OwnWalk
import Derived.ArgAppend
import Derived.Lib.ConvBytes
/-
  shape.Take whole; the document's Same of numbers; the statements' knows of layer 14.
-/
set_option linter.unusedSimpArgs false
set_option linter.unusedVariables false
namespace Go.Proofs.Ytonejdjhdjckjaa
open Go.RowKit NumLaw

set_option maxRecDepth 10000 in
set_option maxHeartbeats 1000000 in
theorem shTake_any (A : Option Addr) (n c B : Nat) (l : List FieldV) (A' : Option Addr) (n' c' B' : Nat) (b : List UInt8) (w : World) (h : RdF w B A n c l) (hB : B ≤ w.heap.size) (h' : Rd w B' 1 A' n' c' (bv b)) (hB' : B' ≤ w.heap.size) (hn : n ≤ 100000) (hn' : n' ≤ 1000000000) :
    Calls Try.prog 63 #[.slice A n c, .slice A' n' c'] w (RetTS w (shT l b) (shTE l b)) := by
  have hlb := h'.blen
  have hright := fun w' h' hB' => shRight_any A n c B l w' h' hB'
  have hwidth := shWidth_any A n c B l w h hB hn
  cases hr : rightL l with
  | false =>
    have e1 : shTE l b = 1 := by unfold shTE; rw [if_neg (by rw [hr]; simp)]
    rw [show shT l b = [] by unfold shT; rw [e1]; rfl, e1]
    rw [hr] at hright
    have Hright := Lib.hid hright
    clear hr e1 hlb hright
    go_enter Try.func63, Try.ntmps63
    go_wp2_with fail
    go_fit hwidth
    rintro e w1 ⟨rfl, hb1⟩
    go_wp2_with fail
    go_fit (Hright.out w1 (h.up (hb1.mono hB)) (Nat.le_trans hB hb1.size))
    rintro e w2 ⟨rfl, hb12⟩
    go_wp2
    go_ret2
    exact ⟨none, 0, 0, rfl, World.ownsRow_nil _ _ _ _, bnx hb1 hb12⟩
  | true =>
    by_cases hlen : n' = sumL l
    · exact shTake_go A n c B l A' n' c' B' b w h hB h' hB' hn hr hlen
    · have hw : widthL l = sumL l := by unfold widthL; rw [if_pos hr]
      rw [hw] at hwidth
      rw [hr] at hright
      have hs8 : sumL l ≤ 800000 := by
        have := sumL_take hr l.length
        rw [List.take_length, h.1] at this
        omega
      have hE : shTE l b = if n' < sumL l then 2 else 7 := by
        unfold shTE
        rw [if_pos hr, hlb]
        by_cases hlt : n' < sumL l
        · rw [if_pos hlt, if_pos hlt]
        · rw [if_neg hlt, if_neg hlt, if_pos (by omega)]
      generalize sumL l = s at *
      have Hright := Lib.hid hright
      have Hne := Lib.hid hlen
      have hs63 : (s : Int) ≤ 800000 := by omega
      by_cases hlt : n' < s
      · rw [if_pos hlt] at hE
        rw [show shT l b = [] by unfold shT; rw [hE]; rfl, hE]
        clear hE hr hw hlb hright hlen
        go_enter Try.func63, Try.ntmps63
        go_wp2_with fail
        go_fit hwidth
        rintro e w1 ⟨rfl, hb1⟩
        go_wp2_with fail
        go_fit (Hright.out w1 (h.up (hb1.mono hB)) (Nat.le_trans hB hb1.size))
        rintro e w2 ⟨rfl, hb12⟩
        go_wp2
        go_ret2
        exact ⟨none, 0, 0, rfl, World.ownsRow_nil _ _ _ _, bnx hb1 hb12⟩
      · rw [if_neg hlt] at hE
        rw [show shT l b = [] by unfold shT; rw [hE]; rfl, hE]
        have hgt : s < n' := by omega
        clear hE hr hw hlb hright hlen
        go_enter Try.func63, Try.ntmps63
        go_wp2_with fail
        go_fit hwidth
        rintro e w1 ⟨rfl, hb1⟩
        go_wp2_with fail
        go_fit (Hright.out w1 (h.up (hb1.mono hB)) (Nat.le_trans hB hb1.size))
        rintro e w2 ⟨rfl, hb12⟩
        go_wp2
        go_ret2
        exact ⟨none, 0, 0, rfl, World.ownsRow_nil _ _ _ _, bnx hb1 hb12⟩

/- the document's Same -/
theorem num_at {w : World} {B n c : Nat} {A : Option Addr} {vs : List Int} (h : Rd w B 1 A n c (vs.map (Value.int .i64))) {k : Nat} (hk : k < n) : ∃ ad x, A = some ad ∧ vs[k]? = some x ∧ w.cell? (ad.add k) = some (.int .i64 x) ∧ ad.block < B := by
  obtain ⟨ad, u, rfl, hu, hc⟩ := h.one hk
  obtain ⟨x, hx, rfl⟩ : ∃ x, vs[k]? = some x ∧ Value.int .i64 x = u := by simpa using hu
  refine ⟨ad, x, rfl, hx, hc, ?_⟩
  obtain ⟨ad', e', hb', _⟩ := h.at_ (by omega)
  injection e' with e'
  rw [e']; exact hb'
set_option maxRecDepth 10000 in
set_option maxHeartbeats 1000000 in
theorem same_any (A : Option Addr) (n c B : Nat) (vs : List Int) (A' : Option Addr) (n' c' B' : Nat) (us : List Int) (w : World) (h : Rd w B 1 A n c (vs.map (Value.int .i64))) (hB : B ≤ w.heap.size) (h' : Rd w B' 1 A' n' c' (us.map (Value.int .i64))) (hB' : B' ≤ w.heap.size) :
    Calls Try.prog 31 #[.slice A n c, .slice A' n' c'] w fun e w' => e = .returned (.bool (decide (vs = us))) ∧ Below w.heap.size w w' := by
  have hl : vs.length = n := by have := h.len; simpa using this
  have hl' : us.length = n' := by have := h'.len; simpa using this
  have hmx := h.max
  have hle := h.le
  unfold maxLen at hmx
  obtain ⟨r, hr⟩ : ∃ r : Bool, r = decide (vs = us) := ⟨_, rfl⟩
  rw [← hr]
  have HR := Lib.hid hr
  clear hr
  by_cases hnn : n = n'
  · subst hnn
    have Hl := Lib.hid hl
    have Hl' := Lib.hid hl'
    clear hl hl'
    go_enter Try.func31, Try.ntmps31
    go_wp2_with fail
    go_loopw [5] (fun i wr => ∃ (k : Nat), k ≤ n ∧ i = .int .i64 k ∧ Below w.heap.size w wr ∧ Hid (vs.take k = us.take k)) (fun i _ => n - (intOf i).toNat)
    case atStart => exact ⟨0, by omega, rfl, Below.refl _ _, Lib.hid rfl⟩
    case round =>
      obtain ⟨k, hk, rfl, hb, heq⟩ := hrel
      by_cases hlt : k < n
      · obtain ⟨ad, x, rfl, hx, hcx, hadx⟩ := num_at h hlt
        obtain ⟨ad', y, rfl, hy, hcy, hady⟩ := num_at h' hlt
        have d1 := (hb.cell (p := ad.add k) (by rw [blk_add]; omega)).trans hcx
        have d2 := (hb.cell (p := ad'.add k) (by rw [blk_add]; omega)).trans hcy
        have Hs : Hid (vs.take (k + 1) = us.take (k + 1) ↔ x = y) := Lib.hid (by rw [take_succ hx, take_succ hy, heq.out]; simp)
        have Hne : Hid (x ≠ y → decide (vs = us) = false) := Lib.hid (fun hne => decide_eq_false (fun e => hne (by rw [e, hy] at hx; injection hx with hx; exact hx.symm)))
        clear hx hy hcx hcy
        go_wp2_with fail
        refine Ord.region_ (fun _ => True) true [20, 24] (by kernel_rfl) (by kernel_rfl) trivial ?_
        replace hb := hb.drew
        replace d1 : wr.drew.cell? _ = _ := d1
        replace d2 : wr.drew.cell? _ = _ := d2
        generalize wr.drew = w3 at *
        repeat (first | (refine Ord.e_p (v := ?_) rfl (by rfl) ?_ ?_; rotate_left; · (intro w2; go_simp; try with_reducible rfl)) | (refine Ord.e_u (by rfl) ?_)); (try simp only [Act.put, List.setIfInBounds_toArray, List.set_cons_zero, List.set_cons_succ])
        refine Ord.e_load Try.underlying2 rfl d1 rfl (by rfl) (by rfl) ?_
        (try simp only [Act.put, List.setIfInBounds_toArray, List.set_cons_zero, List.set_cons_succ])
        repeat (first | (refine Ord.e_p (v := ?_) rfl (by rfl) ?_ ?_; rotate_left; · (intro w2; go_simp; try with_reducible rfl)) | (refine Ord.e_u (by rfl) ?_)); (try simp only [Act.put, List.setIfInBounds_toArray, List.set_cons_zero, List.set_cons_succ])
        refine Ord.e_load Try.underlying2 rfl d2 rfl (by rfl) (by rfl) ?_
        (try simp only [Act.put, List.setIfInBounds_toArray, List.set_cons_zero, List.set_cons_succ])
        repeat (first | (refine Ord.e_p (v := ?_) rfl (by rfl) ?_ ?_; rotate_left; · (intro w2; go_simp; try with_reducible rfl)) | (refine Ord.e_u (by rfl) ?_)); (try simp only [Act.put, List.setIfInBounds_toArray, List.set_cons_zero, List.set_cons_succ])
        refine Ord.e_nil ?_
        clear d1 d2
        by_cases hxy : x = y
        · have Hk := Lib.hid (Hs.out.2 hxy)
          subst hxy
          clear Hs Hne
          go_wp2
          go_roundw
          case rel => exact ⟨k + 1, by omega, by go_num, hb, Hk⟩
          case measure => simp [intOf]; omega
        · obtain rfl : r = false := by rw [HR.out]; exact Hne.out hxy
          clear Hs Hne
          go_wp2
          go_ret
          exact ⟨rfl, hb⟩
      · obtain rfl : k = n := by omega
        have e1 : vs.take k = vs := List.take_of_length_le (by rw [Hl.out]; exact Nat.le_refl _)
        have e2 : us.take k = us := List.take_of_length_le (by rw [Hl'.out]; exact Nat.le_refl _)
        rw [e1, e2] at heq
        obtain rfl : r = true := by rw [HR.out]; exact decide_eq_true heq.out
        clear e1 e2
        go_wp2
        go_ret
        exact ⟨rfl, hb⟩
  · have hnn' : ¬ (n : Int) = (n' : Int) := by omega
    obtain rfl : r = false := by rw [HR.out]; exact decide_eq_false (fun e => hnn (by rw [← hl, ← hl', e]))
    clear hl hl' hnn
    go_enter Try.func31, Try.ntmps31
    go_wp2
    go_ret
    exact ⟨rfl, Below.refl _ _⟩

/- knows -/
theorem rdF_lit1 (w : World) (f : FieldV) (h1 : -9223372036854775808 ≤ f.size ∧ f.size ≤ 9223372036854775807) (h2 : -9223372036854775808 ≤ f.lo ∧ f.lo ≤ 9223372036854775807) (h3 : -9223372036854775808 ≤ f.hi ∧ f.hi ≤ 9223372036854775807) :
    RdF (w.alloc (.cells #[.int .i64 f.size, .bool f.sg, .int .i64 f.lo, .int .i64 f.hi] 99)) (w.heap.size + 1) (some ⟨w.heap.size, 0, none⟩) 1 1 [f] := by
  have hb := heap_alloc_new w (.cells #[.int .i64 f.size, .bool f.sg, .int .i64 f.lo, .int .i64 f.hi] 99)
  refine ⟨rfl, Nat.le_refl _, by simp [maxLen], fun _ => ⟨w.heap.size, 0, rfl, by omega, fun k g hk => ?_⟩⟩
  match k, hk with
  | 0, hk =>
    simp at hk
    subst hk
    exact ⟨blk_cell hb rfl, blk_cell hb rfl, blk_cell hb rfl, blk_cell hb rfl, h1, h2, h3⟩
theorem rd_lit' (w : World) (e : TypeId) (cs : List Value) (hm : cs.length ≤ maxLen) : Rd (w.alloc (.cells cs.toArray e)) (w.heap.size + 1) 1 (some ⟨w.heap.size, 0, none⟩) cs.length cs.length cs := by
  refine ⟨by simp, Nat.le_refl _, hm, fun _ => ⟨_, rfl, Nat.lt_succ_self _, fun j u hu => ?_⟩⟩
  have e1 : (⟨w.heap.size, 0, none⟩ : Addr).add j = ⟨w.heap.size, j, none⟩ := by unfold Addr.add; split <;> simp_all
  rw [e1, World.cell?, show (⟨w.heap.size, j, none⟩ : Addr).block = w.heap.size from rfl, heap_alloc_new w _]
  simpa using hu
end Go.Proofs.Ytonejdjhdjckjaa

/-
  The plain law of shapes: there and back.
-/
set_option linter.unusedSimpArgs false
set_option linter.unusedVariables false
namespace Go.Proofs.Ytonejdjhdjckjaa
open Go.RowKit NumLaw

theorem sgn_back (k : Nat) (i : Int) (h1 : 1 ≤ k) (h8 : k ≤ 8) (hlo : -(128 * 256 ^ (k - 1)) ≤ i) (hhi : i < 128 * 256 ^ (k - 1)) : sgn k (un i % 256 ^ k) = i := by
  unfold sgn un
  rcases (by omega : k = 1 ∨ k = 2 ∨ k = 3 ∨ k = 4 ∨ k = 5 ∨ k = 6 ∨ k = 7 ∨ k = 8) with rfl | rfl | rfl | rfl | rfl | rfl | rfl | rfl
  all_goals
    simp at hlo hhi ⊢
    split <;> omega
theorem un_sgn (k m : Nat) (h1 : 1 ≤ k) (h8 : k ≤ 8) (hm : m < 256 ^ k) : un (sgn k m) % 256 ^ k = m := by
  unfold sgn un
  rcases (by omega : k = 1 ∨ k = 2 ∨ k = 3 ∨ k = 4 ∨ k = 5 ∨ k = 6 ∨ k = 7 ∨ k = 8) with rfl | rfl | rfl | rfl | rfl | rfl | rfl | rfl
  all_goals
    simp at hm ⊢
    split <;> omega
theorem un_sg64 (m : Nat) (h : m < 18446744073709551616) : un (sg64 m) = m := by
  unfold un sg64
  split <;> omega
theorem bytesN_congr {n u v : Nat} (h : u % 256 ^ n = v % 256 ^ n) : bytesN n u = bytesN n v :=
  num_inj (by rw [bytesN_len, bytesN_len]) (by rw [num_bytesN, num_bytesN, h])
theorem pow_le8 {n : Nat} (h : n ≤ 8) : 256 ^ n ≤ 18446744073709551616 := by
  have := Nat.pow_le_pow_right (n := 256) (by omega) h
  have h4 : (256 : Nat) ^ 8 = 18446744073709551616 := by decide
  omega
/-- A number in range comes back. -/
theorem field_back {f : FieldV} {x : Int} (hr : rightF f = true) (hx : inF f x = true) : fieldV f (bytesN f.size.toNat (un x)) = x := by
  obtain ⟨h1, h8, hs, hu⟩ := in_fits hr hx
  unfold fieldV
  rw [num_bytesN]
  cases hg : f.sg with
  | true =>
    simp only [if_true]
    have := hs hg
    unfold fI at this
    obtain ⟨_, _, h3, h4⟩ := of_decide_eq_true this
    exact sgn_back _ _ (by omega) (by omega) h3 h4
  | false =>
    simp only [Bool.false_eq_true, if_false]
    obtain ⟨hfu, hx0⟩ := hu hg
    unfold fU at hfu
    obtain ⟨_, _, h3⟩ := of_decide_eq_true hfu
    rw [Nat.mod_eq_of_lt h3]
    have hhi : x ≤ 9223372036854775807 := by
      have hx := of_decide_eq_true hx
      obtain ⟨size, sg, lo, hi⟩ := f
      unfold rightF at hr
      simp only [Bool.and_eq_true, decide_eq_true_eq] at hr
      have h4 := of_decide_eq_true hr.2
      unfold anyF at h4
      rw [if_pos hr.1.1.1] at h4
      simp only at hg hx h4
      subst hg
      simp only [Bool.false_eq_true, if_false] at h4
      rcases fits_cases hr.1.1.1 with rfl | rfl | rfl | rfl | rfl | rfl | rfl | rfl
      all_goals
        simp at h4
        omega
    unfold sg64 un
    split <;> omega
/-- A field's bytes come back. -/
theorem bytes_back {f : FieldV} {b : List UInt8} (hr : rightF f = true) (hb : b.length = f.size.toNat) : bytesN f.size.toNat (un (fieldV f b)) = b := by
  have hs := right_fits hr
  have hm := num_lt b
  have key : bytesN f.size.toNat (un (fieldV f b)) = bytesN b.length (num b) := by
    rw [hb]
    rw [hb] at hm
    refine bytesN_congr ?_
    rw [Nat.mod_eq_of_lt hm]
    unfold fieldV
    cases f.sg with
    | true => simp only [if_true]; exact un_sgn _ _ (by omega) (by omega) hm
    | false =>
      simp only [Bool.false_eq_true, if_false]
      rw [un_sg64 _ (Nat.lt_of_lt_of_le hm (pow_le8 (by omega))), Nat.mod_eq_of_lt hm]
  rw [key, bytesN_num]
theorem put_take : ∀ (l : List FieldV) (vs : List Int), rightL l = true → vs.length = l.length → inAll l vs = true → takeV l (shB l vs) = vs ∧ (shB l vs).length = sumL l
  | [], vs, _, hl, _ => by
    obtain rfl : vs = [] := List.eq_nil_of_length_eq_zero (by simpa using hl)
    exact ⟨rfl, rfl⟩
  | f :: l, [], _, hl, _ => by simp at hl
  | f :: l, x :: vs, hr, hl, hi => by
    have hr' : rightF f = true ∧ rightL l = true := by simpa [rightL] using hr
    have hi' : inF f x = true ∧ inAll l vs = true := by simpa [inAll] using hi
    obtain ⟨h1, h2⟩ := put_take l vs hr'.2 (by simpa using hl) hi'.2
    have e : shB (f :: l) (x :: vs) = bytesN f.size.toNat (un x) ++ shB l vs := by simp [shB]
    rw [e, sumL_cons]
    refine ⟨?_, by rw [List.length_append, bytesN_len, h2]⟩
    have t1 : (bytesN f.size.toNat (un x) ++ shB l vs).take f.size.toNat = bytesN f.size.toNat (un x) := by
      rw [List.take_append_of_le_length (by rw [bytesN_len]; exact Nat.le_refl _), List.take_of_length_le (by rw [bytesN_len]; exact Nat.le_refl _)]
    have t2 : (bytesN f.size.toNat (un x) ++ shB l vs).drop f.size.toNat = shB l vs := by
      have : (bytesN f.size.toNat (un x)).length = f.size.toNat := bytesN_len _ _
      rw [List.drop_append_of_le_length (by omega), List.drop_of_length_le (by omega)]; rfl
    show fieldV f _ :: takeV l _ = _
    rw [t1, t2, field_back hr'.1 hi'.1, h1]
theorem take_put : ∀ (l : List FieldV) (b : List UInt8), rightL l = true → b.length = sumL l → shB l (takeV l b) = b
  | [], b, _, hl => by
    obtain rfl : b = [] := List.eq_nil_of_length_eq_zero (by simpa [sumL] using hl)
    rfl
  | f :: l, b, hr, hl => by
    have hr' : rightF f = true ∧ rightL l = true := by simpa [rightL] using hr
    rw [sumL_cons] at hl
    have h2 := take_put l (b.drop f.size.toNat) hr'.2 (by rw [List.length_drop]; omega)
    have e : shB (f :: l) (takeV (f :: l) b) = bytesN f.size.toNat (un (fieldV f (b.take f.size.toNat))) ++ shB l (takeV l (b.drop f.size.toNat)) := by simp [shB, takeV]
    rw [e, h2, bytes_back hr'.1 (by rw [List.length_take]; omega), List.take_append_drop]
/-- What is put is taken. -/
theorem shape_there {l : List FieldV} {vs : List Int} (h : shE l vs = 0) : shTE l (shP l vs) = 0 ∧ shT l (shP l vs) = vs ∧ (shP l vs).length = widthL l := by
  have hP : shP l vs = shB l vs := by unfold shP; rw [if_pos h]
  unfold shE at h
  split at h
  · rename_i h1
    split at h
    · rename_i h2
      obtain ⟨e1, e2⟩ := put_take l vs h1.1 h1.2 h2
      have hE : shTE l (shB l vs) = 0 := by
        unfold shTE
        rw [if_pos h1.1, if_neg (by omega), if_neg (by omega), e1, if_pos h2]
      rw [hP]
      exact ⟨hE, by unfold shT; rw [if_pos hE, e1], by rw [e2]; unfold widthL; rw [if_pos h1.1]⟩
    · cases h
  · cases h
/-- What is taken, put, is those bytes. -/
theorem shape_back {l : List FieldV} {b : List UInt8} (h : shTE l b = 0) : shE l (shT l b) = 0 ∧ shP l (shT l b) = b ∧ (shT l b).length = l.length := by
  have hT : shT l b = takeV l b := by unfold shT; rw [if_pos h]
  rw [hT]
  unfold shTE at h
  split at h
  · rename_i h1
    split at h
    · cases h
    · split at h
      · cases h
      · split at h
        · rename_i h2 h3 h4
          have hE : shE l (takeV l b) = 0 := by unfold shE; rw [if_pos ⟨h1, takeV_len l b⟩, if_pos h4]
          exact ⟨hE, by unfold shP; rw [if_pos hE, take_put l b h1 (by omega)], takeV_len l b⟩
        · cases h
  · cases h
theorem sgn_bounds (k m : Nat) (h1 : 1 ≤ k) (h8 : k ≤ 8) (hm : m < 256 ^ k) : -9223372036854775808 ≤ sgn k m ∧ sgn k m ≤ 9223372036854775807 := by
  unfold sgn
  rcases (by omega : k = 1 ∨ k = 2 ∨ k = 3 ∨ k = 4 ∨ k = 5 ∨ k = 6 ∨ k = 7 ∨ k = 8) with rfl | rfl | rfl | rfl | rfl | rfl | rfl | rfl
  all_goals
    simp at hm ⊢
    split <;> omega
theorem inAll_bounds {l : List FieldV} {vs : List Int} (hl : ∀ f ∈ l, (-9223372036854775808 ≤ f.lo ∧ f.lo ≤ 9223372036854775807) ∧ (-9223372036854775808 ≤ f.hi ∧ f.hi ≤ 9223372036854775807)) (hlen : vs.length = l.length) (h : inAll l vs = true) : ∀ x ∈ vs, -9223372036854775808 ≤ x ∧ x ≤ 9223372036854775807 := by
  intro x hx
  obtain ⟨k, hk⟩ := List.mem_iff_getElem?.1 hx
  have hkl : k < l.length := by have := (List.getElem?_eq_some_iff.1 hk).1; omega
  have hf : l[k]? = some l[k] := List.getElem?_eq_getElem hkl
  have hm : (l[k], x) ∈ l.zip vs := List.mem_of_getElem? (i := k) (by rw [List.getElem?_zip_eq_some]; exact ⟨hf, hk⟩)
  have := List.all_eq_true.1 h _ hm
  have := of_decide_eq_true this
  have hb := hl _ (List.getElem_mem hkl)
  simp only at this
  omega

end Go.Proofs.Ytonejdjhdjckjaa

/-
  The law ShapeBack walked. (Its last part is printed by gen_shback.py.)
-/
set_option linter.unusedSimpArgs false
set_option linter.unusedVariables false
namespace Go.Proofs.Ytonejdjhdjckjaa
open Go.RowKit NumLaw Go.ChangeShapes Go.WideShapes Go.ChangeAt

theorem list_of' {β : Type} {R : Nat → β → Prop} (n : Nat) (h : ∀ i, i < n → ∃ x, R i x) : ∃ l : List β, l.length = n ∧ ∀ i x, l[i]? = some x → R i x := by
  induction n with
  | zero => exact ⟨[], rfl, fun i x hx => by simp at hx⟩
  | succ n ih =>
    obtain ⟨l, hl, hr⟩ := ih (fun i hi => h i (by omega))
    obtain ⟨x, hx⟩ := h n (by omega)
    refine ⟨l ++ [x], by simp [hl], fun i y hy => ?_⟩
    rcases Nat.lt_or_ge i l.length with hi | hi
    · rw [List.getElem?_append_left hi] at hy
      exact hr i y hy
    · rw [List.getElem?_append_right hi] at hy
      rcases Nat.eq_or_lt_of_le hi with he | he
      · rw [← he] at hy
        simp at hy
        subst hy
        rw [← he, hl]
        exact hx
      · rw [List.getElem?_eq_none (by simp; omega)] at hy; cases hy
section
variable {H : Type} {enc : TypeId × Value → H} {W : World}
set_option maxRecDepth 10000 in
theorem open_frows {b0 : Nat} {v : Value} {d : DataW H} {p : List MemPlace} (hv : Value.okWide Try.prog W .any b0 76 v) (h : DataW.Trod enc Try.prog W 0 (fun _ => true) true 76 v d p) :
    ∃ (A : Option Addr) (n c : Nat) (l : List FieldV), v = .slice A n c ∧ RdF W W.heap.size A n c l := by
  obtain ⟨A, n, c, rfl, hn, hc, hat⟩ := open_rows Try.underlying76 Try.underlying99 (by kernel_rfl) (by kernel_rfl) (Nat.succ_pos 3) hv h
  rcases Nat.eq_zero_or_pos n with rfl | hpos
  · exact ⟨A, 0, c, [], rfl, rfl, hn, hc, fun h => absurd h (Nat.lt_irrefl _)⟩
  obtain ⟨g, off, rfl, hlt, hel⟩ := hat hpos
  have := list_of' (R := fun i o => FieldAt W g (off + i * 4) o) n (fun i hi => by
    obtain ⟨u0, m0, y0, c0, t0⟩ := hel i hi 0 _ rfl
    obtain ⟨u1, m1, y1, c1, t1⟩ := hel i hi 1 _ rfl
    obtain ⟨u2, m2, y2, c2, t2⟩ := hel i hi 2 _ rfl
    obtain ⟨u3, m3, y3, c3, t3⟩ := hel i hi 3 _ rfl
    obtain ⟨z0, e0, _, w0⟩ := DataW.trod_int Try.underlying3 t0
    obtain ⟨z1, e1, _⟩ := DataW.trod_bool Try.underlying4 t1
    obtain ⟨z2, e2, _, w2⟩ := DataW.trod_int Try.underlying2 t2
    obtain ⟨z3, e3, _, w3⟩ := DataW.trod_int Try.underlying2 t3
    injection e0 with e0; injection e1 with e1; injection e2 with e2; injection e3 with e3
    subst e0; subst e1; subst e2; subst e3
    exact ⟨⟨z0, z1, z2, z3⟩, by simpa using c0, c1, c2, c3, bounds_i64 w0, bounds_i64 w2, bounds_i64 w3⟩)
  obtain ⟨l, hl, ho⟩ := this
  exact ⟨_, n, c, l, rfl, hl, hn, hc, fun _ => ⟨g, off, rfl, hlt, ho⟩⟩
end
theorem RdF.bounds {w : World} {B n c : Nat} {A : Option Addr} {l : List FieldV} (h : RdF w B A n c l) : ∀ f ∈ l, (-9223372036854775808 ≤ f.lo ∧ f.lo ≤ 9223372036854775807) ∧ (-9223372036854775808 ≤ f.hi ∧ f.hi ≤ 9223372036854775807) := by
  intro f hf
  obtain ⟨k, hk⟩ := List.mem_iff_getElem?.1 hf
  have hkl : k < n := by have := (List.getElem?_eq_some_iff.1 hk).1; rw [h.1] at this; exact this
  obtain ⟨g, off, f', _, _, hx, _, _, _, _, _, h6, h7⟩ := h.at_ hkl
  rw [hk] at hx
  injection hx with hx
  subst hx
  exact ⟨h6, h7⟩

end Go.Proofs.Ytonejdjhdjckjaa

/-
  A cell that holds a slice of structs, opened; a slice of structs whose cells all are numbers.
-/
set_option linter.unusedSimpArgs false
set_option linter.unusedVariables false
namespace Go.Proofs.Ytonejdjhdjckjaa
open Go.RowKit Go.ChangeShapes Go.WideShapes Go.ChangeAt

section
variable {H : Type} {enc : TypeId × Value → H} {P : Program} {W : World}
theorem cell_els {t e : TypeId} {fs : Array Field} {sz : Nat} {fuel : Nat} {u : Value} {x : DataW H × List MemPlace} (ht : P.underlying t = some (.slice e)) (he : P.underlying e = some (.struct fs)) (hC : P.cellsOf e = sz) (hpos : 0 < sz)
    (h : DataW.trod enc P W 0 (fun _ => true) true fuel t [u] = some x) :
    ∃ (A : Option Addr) (n c : Nat), u = .slice A n c ∧ n ≤ c ∧ c ≤ maxLen ∧ (0 < n → ∃ g off, A = some ⟨g, off, none⟩ ∧ g < W.heap.size ∧
      ∀ i, i < n → ∃ (cs : List Value) (m : Nat) (y : _), cs.length = sz ∧ DataW.trod enc P W 0 (fun _ => true) true m e cs = some y ∧ ∀ j u, cs[j]? = some u → W.cell? ⟨g, off + i * sz + j, none⟩ = some u) := by
  rcases Go.Deep.open_slice ht h with ⟨hcs, _⟩ | ⟨a, len, cap, m, n', D, Pl, hcs, _, hl, hm, hmm, _, hi⟩
  · injection hcs with hcs
    subst hcs
    exact ⟨none, 0, 0, rfl, Nat.le_refl _, Nat.zero_le _, fun h => absurd h (Nat.lt_irrefl _)⟩
  · injection hcs with hcs
    subst hcs
    refine ⟨_, len, cap, rfl, hl, hm, fun hn => ?_⟩
    have hmc : len ≤ m := by rw [hmm]; simp; omega
    have one : ∀ i, i < len → ∃ (cs : List Value) (k : Nat) (y : _), cs.length = sz ∧ DataW.trod enc P W 0 (fun _ => true) true k e cs = some y ∧ ∀ j u, cs[j]? = some u → W.cell? (a.add (i * sz + j)) = some u := by
      intro i hin
      obtain ⟨cs, hc, htr⟩ := hi i (by omega)
      rw [hC] at hc
      obtain ⟨_, hlen, hat⟩ := World.cells?_some hc
      refine ⟨cs, _, _, hlen, htr, fun j u hj => ?_⟩
      have hjl : j < sz := by have := (List.getElem?_eq_some_iff.1 hj).1; omega
      rw [← addr_add, hat j hjl, hj]
    obtain ⟨cs0, _, _, hl0, _, hu0⟩ := one 0 hn
    have hu0 := hu0 0 cs0[0] (List.getElem?_eq_getElem (by omega))
    rw [Nat.zero_mul, Nat.zero_add, addr_zero] at hu0
    have hsp := World.cell?_spot hu0
    have hlt := World.block_lt_of_cell? W _ hu0
    obtain ⟨g, off, sp⟩ := a
    simp only at hsp
    subst hsp
    refine ⟨g, off, rfl, hlt, fun i hin => ?_⟩
    obtain ⟨cs, k, y, h0, h1, h2⟩ := one i hin
    refine ⟨cs, k, y, h0, h1, fun j u hj => ?_⟩
    have := h2 j u hj
    rwa [Addr.add_mid, ← Nat.add_assoc] at this
/-- Rows of a kind Rw: what each element's cells are. -/
theorem rows_of {sz : Nat} {e : TypeId} {β : Type} {C : β → List Value} {Q : β → Prop} {A : Option Addr} {n c : Nat} (hsz : ∀ x, (C x).length = sz ∨ ¬ Q x) (hn : n ≤ c) (hc : c ≤ maxLen)
    (hone : ∀ (m : Nat) (cs : List Value) (y : _), cs.length = sz → DataW.trod enc P W 0 (fun _ => true) true m e cs = some y → ∃ x, Q x ∧ cs = C x)
    (hat : 0 < n → ∃ g off, A = some ⟨g, off, none⟩ ∧ g < W.heap.size ∧
      ∀ i, i < n → ∃ (cs : List Value) (m : Nat) (y : _), cs.length = sz ∧ DataW.trod enc P W 0 (fun _ => true) true m e cs = some y ∧ ∀ j u, cs[j]? = some u → W.cell? ⟨g, off + i * sz + j, none⟩ = some u) :
    ∃ l : List β, RdR W W.heap.size sz A n c (l.map C) ∧ ∀ x ∈ l, Q x := by
  rcases Nat.eq_zero_or_pos n with h0 | hpos
  · subst h0
    exact ⟨[], ⟨rfl, by simp, hn, hc, fun h => absurd h (Nat.lt_irrefl _)⟩, by simp⟩
  obtain ⟨g, off, rfl, hlt, hel⟩ := hat hpos
  obtain ⟨l, hl, ho⟩ := list_of' (R := fun i x => Q x ∧ W.rangeAt g (off + i * sz) (C x)) n (fun i hi => by
    obtain ⟨cs, m, y, hlen, htr, hcell⟩ := hel i hi
    obtain ⟨x, hq, rfl⟩ := hone m cs y hlen htr
    exact ⟨x, hq, fun j v hv => hcell j v hv⟩)
  have hQ : ∀ x ∈ l, Q x := fun x hx => by
    obtain ⟨i, hi⟩ := List.getElem?_of_mem hx
    exact (ho i x hi).1
  refine ⟨l, ⟨by simp [hl], fun r hr => ?_, hn, hc, fun _ => ⟨g, off, rfl, hlt, fun k r hk => ?_⟩⟩, hQ⟩
  · obtain ⟨x, hx, rfl⟩ := List.mem_map.1 hr
    exact (hsz x).resolve_right (fun h => h (hQ x hx))
  · rw [List.getElem?_map] at hk
    cases hx : l[k]? with
    | none => rw [hx] at hk; cases hk
    | some x =>
      rw [hx] at hk
      injection hk with hk
      subst hk
      exact (ho k x hx).2
end

end Go.Proofs.Ytonejdjhdjckjaa

/-
  The plain law of a stable order by size, the greatest first (insertion).
-/
set_option linter.unusedSimpArgs false
set_option linter.unusedVariables false
namespace Go.Proofs.Ytonejdjhdjckjaa
open Go.RowKit

section
variable {α : Type} {β : Type} (sz : α → Int)
/-- x laid behind the last one that is not less; the list is told from its end. -/
def insB (x : α) : List α → List α
  | [] => [x]
  | y :: r => if sz y < sz x then y :: insB x r else x :: y :: r
def stb (l : List α) : List α := (l.foldl (fun r x => insB sz x r) []).reverse
theorem snoc_ind {p : List α → Prop} (h0 : p []) (hs : ∀ l x, p l → p (l ++ [x])) : ∀ l, p l := fun l => by
  have : ∀ r : List α, p r.reverse := fun r => by
    induction r with
    | nil => exact h0
    | cons x r ih => rw [List.reverse_cons]; exact hs _ _ ih
  have h := this l.reverse
  rwa [List.reverse_reverse] at h
theorem stb_nil : stb sz [] = [] := rfl
theorem stb_snoc (l : List α) (x : α) : stb sz (l ++ [x]) = (insB sz x (stb sz l).reverse).reverse := by
  unfold stb
  rw [List.foldl_append, List.reverse_reverse]
  rfl
theorem insB_at {x : α} : ∀ {s p : List α}, (∀ y ∈ s, sz y < sz x) → (p = [] ∨ ∃ y r, p = y :: r ∧ ¬ sz y < sz x) → insB sz x (s ++ p) = s ++ x :: p
  | [], p, _, hp => by
    rcases hp with rfl | ⟨y, r, rfl, h⟩
    · rfl
    · show insB sz x (y :: r) = _
      unfold insB
      rw [if_neg h]; rfl
  | y :: s, p, hs, hp => by
    show insB sz x (y :: (s ++ p)) = _
    unfold insB
    rw [if_pos (hs y List.mem_cons_self), insB_at (fun z hz => hs z (List.mem_cons_of_mem _ hz)) hp]
    rfl
/-- The step of the order: so many were passed. -/
theorem stb_at {l p s : List α} {x : α} (h : stb sz l = p ++ s) (hs : ∀ y ∈ s, sz y < sz x) (hp : p = [] ∨ ∃ r y, p = r ++ [y] ∧ ¬ sz y < sz x) : stb sz (l ++ [x]) = p ++ x :: s := by
  rw [stb_snoc, h, List.reverse_append, insB_at sz (s := s.reverse) (p := p.reverse) (fun y hy => hs y (List.mem_reverse.1 hy)) (by
    rcases hp with rfl | ⟨r, y, rfl, h9⟩
    · exact .inl rfl
    · exact .inr ⟨y, r.reverse, by simp, h9⟩)]
  simp
theorem insB_len (x : α) : ∀ r : List α, (insB sz x r).length = r.length + 1
  | [] => rfl
  | y :: r => by
    unfold insB
    split
    · simp [insB_len x r]
    · rfl
theorem stb_len : ∀ l : List α, (stb sz l).length = l.length := snoc_ind (p := fun l => (stb sz l).length = l.length) rfl fun l x ih => by
  rw [stb_snoc, List.length_reverse, insB_len, List.length_reverse, ih, List.length_append]; rfl
theorem insB_mem {x z : α} : ∀ {r : List α}, z ∈ insB sz x r ↔ z = x ∨ z ∈ r
  | [] => by simp [insB]
  | y :: r => by
    unfold insB
    split
    · simp only [List.mem_cons, insB_mem]
      constructor
      · rintro (h | h | h)
        · exact .inr (.inl h)
        · exact .inl h
        · exact .inr (.inr h)
      · rintro (h | h | h)
        · exact .inr (.inl h)
        · exact .inl h
        · exact .inr (.inr h)
    · simp
theorem stb_mem {z : α} : ∀ l : List α, z ∈ stb sz l ↔ z ∈ l := snoc_ind (p := fun l => z ∈ stb sz l ↔ z ∈ l) (by simp [stb]) fun l x ih => by
  rw [stb_snoc, List.mem_reverse, insB_mem, List.mem_reverse, ih, List.mem_append, List.mem_singleton]
  exact or_comm
/-- Those of one size. -/
def byS (n : Int) (l : List α) : List α := l.filter fun y => sz y == n
theorem byS_ins (n : Int) (x : α) : ∀ r : List α, byS sz n (insB sz x r) = if sz x = n then x :: byS sz n r else byS sz n r
  | [] => by
    unfold insB byS
    by_cases h : sz x = n
    · rw [if_pos h, List.filter_cons_of_pos (by simp [h])]
    · rw [if_neg h, List.filter_cons_of_neg (by simp [h])]
  | y :: r => by
    have ih := byS_ins n x r
    unfold insB
    by_cases hl : sz y < sz x
    · rw [if_pos hl]
      unfold byS at ih ⊢
      by_cases hy : sz y = n
      · have hx : ¬ sz x = n := by omega
        rw [if_neg hx] at ih ⊢
        rw [List.filter_cons_of_pos (by simp [hy]), List.filter_cons_of_pos (by simp [hy]), ih]
      · rw [List.filter_cons_of_neg (by simp [hy]), List.filter_cons_of_neg (by simp [hy]), ih]
    · rw [if_neg hl]
      unfold byS
      by_cases h : sz x = n
      · rw [if_pos h, List.filter_cons_of_pos (by simp [h])]
      · rw [if_neg h, List.filter_cons_of_neg (by simp [h])]
theorem byS_snoc (n : Int) (l : List α) (x : α) : byS sz n (l ++ [x]) = if sz x = n then byS sz n l ++ [x] else byS sz n l := by
  unfold byS
  rw [List.filter_append]
  by_cases h : sz x = n
  · rw [if_pos h, List.filter_cons_of_pos (by simp [h])]; rfl
  · rw [if_neg h, List.filter_cons_of_neg (by simp [h])]; simp
/-- Those of one size keep their order. -/
theorem byS_stb (n : Int) : ∀ l : List α, byS sz n (stb sz l) = byS sz n l := snoc_ind (p := fun l => byS sz n (stb sz l) = byS sz n l) rfl fun l x ih => by
  have hr : ∀ r : List α, byS sz n r.reverse = (byS sz n r).reverse := fun r => by unfold byS; rw [List.filter_reverse]
  rw [stb_snoc, hr, byS_ins, byS_snoc, ← ih, hr]
  split
  · rw [List.reverse_cons, List.reverse_reverse]
  · rw [List.reverse_reverse]
/-- None is greater than one ahead of it. -/
theorem insB_sorted {x : α} : ∀ {r : List α}, r.Pairwise (fun a b => sz a ≤ sz b) → (insB sz x r).Pairwise (fun a b => sz a ≤ sz b)
  | [], _ => by simp [insB]
  | y :: r, h => by
    have h1 := List.pairwise_cons.1 h
    unfold insB
    by_cases hl : sz y < sz x
    · rw [if_pos hl]
      refine List.pairwise_cons.2 ⟨fun z hz => ?_, insB_sorted h1.2⟩
      rcases (insB_mem sz).1 hz with rfl | hz
      · omega
      · exact h1.1 z hz
    · rw [if_neg hl]
      refine List.pairwise_cons.2 ⟨fun z hz => ?_, h⟩
      rcases List.mem_cons.1 hz with rfl | hz
      · omega
      · have := h1.1 z hz; omega
theorem stb_sorted : ∀ l : List α, (stb sz l).Pairwise (fun a b => sz b ≤ sz a) := snoc_ind (p := fun l => (stb sz l).Pairwise (fun a b => sz b ≤ sz a)) (by simp [stb]) fun l x ih => by
  rw [stb_snoc, List.pairwise_reverse]
  refine insB_sorted sz ?_
  rw [List.pairwise_reverse]
  exact ih
/-- Of these four sizes: the greatest first, and so on. -/
theorem stb_four : ∀ l : List α, (∀ y ∈ l, sz y = 8 ∨ sz y = 4 ∨ sz y = 2 ∨ sz y = 1) → stb sz l = byS sz 8 l ++ (byS sz 4 l ++ (byS sz 2 l ++ byS sz 1 l)) := by
  refine snoc_ind (p := fun l => (∀ y ∈ l, sz y = 8 ∨ sz y = 4 ∨ sz y = 2 ∨ sz y = 1) → stb sz l = _) (fun _ => rfl) fun l x ih hl => ?_
  have hl0 := ih (fun y hy => hl y (List.mem_append.2 (.inl hy)))
  have hb : ∀ (n : Int) (y : α), y ∈ byS sz n l → sz y = n := fun n y hy => by
    have := (List.mem_filter.1 hy).2
    simpa using this
  have hlast : ∀ (p : List α) (m : Int), (∀ y ∈ p, m ≤ sz y) → sz x ≤ m → (p = [] ∨ ∃ r y, p = r ++ [y] ∧ ¬ sz y < sz x) := fun p m hp hm => by
    rcases List.eq_nil_or_concat p with rfl | ⟨r, y, rfl⟩
    · exact .inl rfl
    · refine .inr ⟨r, y, by simp, ?_⟩
      have := hp y (by simp)
      omega
  simp only [byS_snoc]
  rcases hl x (by simp) with h | h | h | h
  · rw [if_pos h, if_neg (by omega), if_neg (by omega), if_neg (by omega)]
    rw [stb_at sz (p := byS sz 8 l) (s := byS sz 4 l ++ (byS sz 2 l ++ byS sz 1 l)) hl0 (fun y hy => by
      simp only [List.mem_append] at hy
      rcases hy with hy | hy | hy
      · rw [hb 4 y hy, h]; decide
      · rw [hb 2 y hy, h]; decide
      · rw [hb 1 y hy, h]; decide) (hlast _ 8 (fun y hy => by rw [hb 8 y hy]; omega) (by omega))]
    simp
  · rw [if_neg (by omega), if_pos h, if_neg (by omega), if_neg (by omega)]
    rw [stb_at sz (p := byS sz 8 l ++ byS sz 4 l) (s := byS sz 2 l ++ byS sz 1 l) (by rw [hl0]; simp) (fun y hy => by
      simp only [List.mem_append] at hy
      rcases hy with hy | hy
      · rw [hb 2 y hy, h]; decide
      · rw [hb 1 y hy, h]; decide) (hlast _ 4 (fun y hy => by
        simp only [List.mem_append] at hy
        rcases hy with hy | hy
        · rw [hb 8 y hy]; decide
        · rw [hb 4 y hy]; omega) (by omega))]
    simp
  · rw [if_neg (by omega), if_neg (by omega), if_pos h, if_neg (by omega)]
    rw [stb_at sz (p := byS sz 8 l ++ (byS sz 4 l ++ byS sz 2 l)) (s := byS sz 1 l) (by rw [hl0]; simp) (fun y hy => by
      rw [hb 1 y hy, h]; decide) (hlast _ 2 (fun y hy => by
        simp only [List.mem_append] at hy
        rcases hy with hy | hy | hy
        · rw [hb 8 y hy]; decide
        · rw [hb 4 y hy]; decide
        · rw [hb 2 y hy]; omega) (by omega))]
    simp
  · rw [if_neg (by omega), if_neg (by omega), if_neg (by omega), if_pos h]
    rw [stb_at sz (p := byS sz 8 l ++ (byS sz 4 l ++ (byS sz 2 l ++ byS sz 1 l))) (s := []) (by rw [hl0]; simp) (fun y hy => by cases hy) (hlast _ 1 (fun y hy => by
        simp only [List.mem_append] at hy
        rcases hy with hy | hy | hy | hy
        · rw [hb 8 y hy]; decide
        · rw [hb 4 y hy]; decide
        · rw [hb 2 y hy]; decide
        · rw [hb 1 y hy]; omega) (by omega))]
    simp
end
section
variable {α : Type} {β : Type}
theorem insB_map (sz : α → Int) (f : β → α) (x : β) : ∀ r : List β, (insB (fun b => sz (f b)) x r).map f = insB sz (f x) (r.map f)
  | [] => rfl
  | y :: r => by
    have ih := insB_map sz f x r
    show (insB (fun b => sz (f b)) x (y :: r)).map f = insB sz (f x) (f y :: r.map f)
    unfold insB
    split
    · rw [List.map_cons, ih]
    · rfl
theorem stb_map (sz : α → Int) (f : β → α) : ∀ l : List β, (stb (fun b => sz (f b)) l).map f = stb sz (l.map f) := snoc_ind (p := fun l => (stb (fun b => sz (f b)) l).map f = stb sz (l.map f)) rfl fun l x ih => by
  rw [stb_snoc, List.map_reverse, insB_map, List.map_reverse, ih, List.map_append, List.map_cons, List.map_nil, stb_snoc]
/-- Each one spread into some of its size: it is the same whether they are ordered before or after. -/
theorem stb_flat (sz : α → Int) (sz' : β → Int) (f : α → List β) (l : List α) (h : ∀ y ∈ l, sz y = 8 ∨ sz y = 4 ∨ sz y = 2 ∨ sz y = 1) (hf : ∀ y ∈ l, ∀ z ∈ f y, sz' z = sz y) : stb sz' (l.flatMap f) = (stb sz l).flatMap f := by
  have hfm : ∀ n (l : List α), (∀ y ∈ l, ∀ z ∈ f y, sz' z = sz y) → byS sz' n (l.flatMap f) = (byS sz n l).flatMap f := fun n l => by
    induction l with
    | nil => intro _; rfl
    | cons y l ih =>
      intro hf
      have ih := ih (fun y hy => hf y (List.mem_cons_of_mem _ hy))
      have hy := hf y List.mem_cons_self
      unfold byS at ih ⊢
      rw [List.flatMap_cons, List.filter_append, ih]
      by_cases hn : sz y = n
      · rw [List.filter_cons_of_pos (by simp [hn]), List.flatMap_cons, List.filter_eq_self.2 (fun z hz => by simp [hy z hz, hn])]
      · rw [List.filter_cons_of_neg (by simp [hn]), List.filter_eq_nil_iff.2 (fun z hz => by simp [hy z hz, hn])]; rfl
  rw [stb_four sz l h, stb_four sz' _ (fun z hz => by
    obtain ⟨y, hy, hz⟩ := List.mem_flatMap.1 hz
    rw [hf y hy z hz]
    exact h y hy), hfm 8 l hf, hfm 4 l hf, hfm 2 l hf, hfm 1 l hf]
  simp
end

end Go.Proofs.Ytonejdjhdjckjaa

/-
  The plain law of schema: parts, slots, what is put and taken.
-/
set_option linter.unusedSimpArgs false
set_option linter.unusedVariables false
namespace Go.Proofs.Ytonejdjhdjckjaa
open Go.RowKit NumLaw

structure PtT where
  nm : ByteArray
  sz : Int
  sg : Bool
  mn : Int
def ptC (p : PtT) : List Value := [.string p.nm, .int .i64 p.sz, .bool p.sg, .int .i64 p.mn]
def mx1 (n : Int) : Nat := if n < 1 then 1 else n.toNat
/-- A size that a field may have. -/
def szQ (n : Int) : Prop := n = 8 ∨ n = 4 ∨ n = 2 ∨ n = 1
def PtQ (l : List PtT) : Prop := ∀ p ∈ l, szQ p.sz
/-- Each part, and where its numbers begin. -/
def offs : Nat → List PtT → List (PtT × Nat)
  | _, [] => []
  | n, p :: l => (p, n) :: offs (n + mx1 p.mn) l
def cntS (l : List PtT) : Nat := (l.map fun p => mx1 p.mn).foldl (· + ·) 0
def wdS (l : List PtT) : Nat := (l.map fun p => p.sz.toNat * mx1 p.mn).foldl (· + ·) 0
abbrev SlT := Int × Bool × Nat
def slP (p : PtT × Nat) : List SlT := (List.range (mx1 p.1.mn)).map fun j => (p.1.sz, p.1.sg, p.2 + j)
def sltL (l : List PtT) : List SlT := (offs 0 l).flatMap slP
def slZ (s : SlT) : Int := s.1
def wireS (l : List PtT) : List SlT := stb slZ (sltL l)
def fldOf (s : SlT) : FieldV := anyF s.1 s.2.1
def valOf (v : List Int) (s : SlT) : Int := v.getD s.2.2 0
/-- The parts in the order of the wire, each with where its numbers begin. -/
def wireP (l : List PtT) : List (PtT × Nat) := stb (fun p => p.1.sz) (offs 0 l)
theorem offs_mem : ∀ (l : List PtT) (n : Nat) (p : PtT × Nat), p ∈ offs n l → p.1 ∈ l
  | [], _, _, h => by cases h
  | q :: l, n, p, h => by
    rcases List.mem_cons.1 h with rfl | h
    · exact List.mem_cons_self
    · exact List.mem_cons_of_mem _ (offs_mem l _ p h)
theorem foldl_add0 (l : List Nat) (a : Nat) : l.foldl (· + ·) a = a + l.foldl (· + ·) 0 := by
  induction l generalizing a with
  | nil => rfl
  | cons x l ih => rw [List.foldl_cons, List.foldl_cons, ih (a + x), ih (0 + x)]; omega
theorem cntS_cons (p : PtT) (l : List PtT) : cntS (p :: l) = mx1 p.mn + cntS l := by
  unfold cntS
  rw [List.map_cons, List.foldl_cons, foldl_add0]; omega
theorem cntS_snoc (p : PtT) (l : List PtT) : cntS (l ++ [p]) = cntS l + mx1 p.mn := by
  unfold cntS
  rw [List.map_append, List.foldl_append]; rfl
theorem wdS_cons (p : PtT) (l : List PtT) : wdS (p :: l) = p.sz.toNat * mx1 p.mn + wdS l := by
  unfold wdS
  rw [List.map_cons, List.foldl_cons, foldl_add0]; omega
theorem wdS_snoc (p : PtT) (l : List PtT) : wdS (l ++ [p]) = wdS l + p.sz.toNat * mx1 p.mn := by
  unfold wdS
  rw [List.map_append, List.foldl_append]; rfl
theorem slt_at : ∀ (l : List PtT) (n : Nat), ((offs n l).flatMap slP).map (fun s => s.2.2) = List.range' n (cntS l)
  | [], n => rfl
  | p :: l, n => by
    show ((slP (p, n)) ++ (offs (n + mx1 p.mn) l).flatMap slP).map _ = _
    rw [List.map_append, slt_at l, cntS_cons, ← List.range'_append_1]
    congr 1
    unfold slP
    rw [List.map_map, List.range'_eq_map_range]
    rfl
theorem slt_len (l : List PtT) : (sltL l).length = cntS l := by
  have := congrArg List.length (slt_at l 0)
  rwa [List.length_map, List.length_range'] at this
theorem insB_perm {α : Type} (sz : α → Int) (x : α) : ∀ r : List α, (insB sz x r).Perm (x :: r)
  | [] => List.Perm.refl _
  | y :: r => by
    unfold insB
    split
    · exact ((insB_perm sz x r).cons y).trans (List.Perm.swap x y r)
    · exact List.Perm.refl _
theorem stb_perm {α : Type} (sz : α → Int) : ∀ l : List α, (stb sz l).Perm l := snoc_ind (p := fun l => (stb sz l).Perm l) (List.Perm.refl _) fun l x ih => by
  rw [stb_snoc]
  refine (List.reverse_perm _).trans ((insB_perm sz x _).trans ?_)
  refine (((List.reverse_perm _).trans ih).cons x).trans ?_
  exact (List.perm_append_singleton x l).symm
theorem wire_at (l : List PtT) : ((wireS l).map (fun s => s.2.2)).Perm (List.range (cntS l)) := by
  have h := (stb_perm slZ (sltL l)).map (fun s : SlT => s.2.2)
  unfold sltL at h
  rw [slt_at, ← List.range_eq_range'] at h
  exact h
theorem wire_len (l : List PtT) : (wireS l).length = cntS l := by unfold wireS; rw [stb_len, slt_len]
theorem slP_sz (p : PtT × Nat) : ∀ s ∈ slP p, slZ s = p.1.sz := fun s hs => by
  obtain ⟨j, _, rfl⟩ := List.mem_map.1 hs
  rfl
theorem slt_q {l : List PtT} (h : PtQ l) : ∀ s ∈ sltL l, szQ s.1 := fun s hs => by
  obtain ⟨p, hp, hs⟩ := List.mem_flatMap.1 hs
  have e : s.1 = p.1.sz := slP_sz p s hs
  rw [e]
  exact h _ (offs_mem l 0 p hp)
theorem wire_q {l : List PtT} (h : PtQ l) : ∀ s ∈ wireS l, szQ s.1 := fun s hs => slt_q h s ((stb_mem slZ _).1 hs)
/-- The slots of the parts, ordered: the slots, ordered. -/
theorem wire_flat {l : List PtT} (h : PtQ l) : wireS l = (wireP l).flatMap slP :=
  stb_flat (fun p : PtT × Nat => p.1.sz) slZ slP (offs 0 l) (fun p hp => h _ (offs_mem l 0 p hp)) (fun p _ s hs => slP_sz p s hs)
theorem any_right {n : Int} (h : szQ n) (sg : Bool) : rightF (anyF n sg) = true ∧ (anyF n sg).size = n := by
  rcases h with rfl | rfl | rfl | rfl <;> cases sg <;> decide
theorem rightL_map {L : List SlT} (h : ∀ s ∈ L, szQ s.1) : rightL (L.map fldOf) = true := by
  unfold rightL
  rw [List.all_eq_true]
  intro f hf
  obtain ⟨s, hs, rfl⟩ := List.mem_map.1 hf
  exact (any_right (h s hs) _).1
theorem sumL_map {L : List SlT} (h : ∀ s ∈ L, szQ s.1) : (sumL (L.map fldOf) : Nat) = (L.map fun s => s.1.toNat).foldl (· + ·) 0 := by
  unfold sumL
  rw [List.map_map]
  congr 1
  refine List.map_congr_left fun s hs => ?_
  show (anyF s.1 s.2.1).size.toNat = _
  rw [(any_right (h s hs) _).2]
theorem foldl_perm {l l' : List Nat} (h : l.Perm l') : l.foldl (· + ·) 0 = l'.foldl (· + ·) 0 := by
  induction h with
  | nil => rfl
  | cons x _ ih => rw [List.foldl_cons, List.foldl_cons, foldl_add0, foldl_add0 _ (0 + x), ih]
  | swap x y l => rw [List.foldl_cons, List.foldl_cons, List.foldl_cons, List.foldl_cons]; congr 1; omega
  | trans _ _ h1 h2 => rw [h1, h2]
theorem slP_wd (p : PtT × Nat) : ((slP p).map fun s => s.1.toNat).foldl (· + ·) 0 = p.1.sz.toNat * mx1 p.1.mn := by
  unfold slP
  rw [List.map_map]
  generalize mx1 p.1.mn = n
  induction n with
  | zero => rfl
  | succ n ih =>
    rw [List.range_succ, List.map_append, List.foldl_append, ih, Nat.mul_succ]
    rfl
theorem slt_wd : ∀ (l : List PtT) (n : Nat), (((offs n l).flatMap slP).map fun s => s.1.toNat).foldl (· + ·) 0 = wdS l
  | [], _ => rfl
  | p :: l, n => by
    show ((slP (p, n) ++ (offs (n + mx1 p.mn) l).flatMap slP).map _).foldl _ _ = _
    rw [List.map_append, List.foldl_append, foldl_add0, slt_wd l, slP_wd, wdS_cons]
/-- The fields are as wide as the parts. -/
theorem wire_wd {l : List PtT} (h : PtQ l) : sumL ((wireS l).map fldOf) = wdS l := by
  rw [sumL_map (wire_q h)]
  unfold wireS
  rw [foldl_perm ((stb_perm slZ (sltL l)).map (fun s : SlT => s.1.toNat))]
  exact slt_wd l 0

/-! ### put -/
def putSE (l : List PtT) (v : List Int) : Nat := if v.length = cntS l then shE ((wireS l).map fldOf) ((wireS l).map (valOf v)) else 1
def putSB (l : List PtT) (v : List Int) : List UInt8 := if v.length = cntS l then shP ((wireS l).map fldOf) ((wireS l).map (valOf v)) else []
theorem inAll_app {A B : List FieldV} {a b : List Int} (h : A.length = a.length) : inAll (A ++ B) (a ++ b) = (inAll A a && inAll B b) := by
  unfold inAll
  rw [List.zip_append h, List.all_append]
theorem shB_app {A B : List FieldV} {a b : List Int} (h : A.length = a.length) : shB (A ++ B) (a ++ b) = shB A a ++ shB B b := by
  unfold shB
  rw [List.zip_append h, List.flatMap_append]
theorem rightL_app (A B : List FieldV) : rightL (A ++ B) = (rightL A && rightL B) := by unfold rightL; rw [List.all_append]
/-- Part by part, as the document has it. -/
def okP (v : List Int) (p : PtT × Nat) : Bool := inAll ((slP p).map fldOf) ((slP p).map (valOf v))
def byP (v : List Int) (p : PtT × Nat) : List UInt8 := shB ((slP p).map fldOf) ((slP p).map (valOf v))
theorem inAll_flat (v : List Int) : ∀ L : List (PtT × Nat), inAll ((L.flatMap slP).map fldOf) ((L.flatMap slP).map (valOf v)) = L.all (okP v)
  | [] => rfl
  | p :: L => by
    rw [List.flatMap_cons, List.map_append, List.map_append, inAll_app (by simp), inAll_flat v L, List.all_cons]; rfl
theorem shB_flat (v : List Int) : ∀ L : List (PtT × Nat), shB ((L.flatMap slP).map fldOf) ((L.flatMap slP).map (valOf v)) = L.flatMap (byP v)
  | [] => rfl
  | p :: L => by
    rw [List.flatMap_cons, List.map_append, List.map_append, shB_app (by simp), shB_flat v L, List.flatMap_cons]; rfl
theorem putSE_flat {l : List PtT} {v : List Int} (h : PtQ l) (hv : v.length = cntS l) : putSE l v = if (wireP l).all (okP v) = true then 0 else 5 := by
  unfold putSE shE
  rw [if_pos hv, if_pos ⟨rightL_map (wire_q h), by simp⟩, wire_flat h, inAll_flat]
theorem putSB_flat {l : List PtT} {v : List Int} (h : PtQ l) (hv : v.length = cntS l) : putSB l v = if (wireP l).all (okP v) = true then (wireP l).flatMap (byP v) else [] := by
  have he := putSE_flat h hv
  unfold putSE at he
  rw [if_pos hv] at he
  unfold putSB shP
  rw [if_pos hv, he, wire_flat h, shB_flat]
  by_cases ho : (wireP l).all (okP v) = true
  · rw [if_pos ho, if_pos ho, if_pos rfl]
  · rw [if_neg ho, if_neg ho, if_neg (by omega)]

/-! ### take -/
/-- Numbers laid at their places. -/
def scat (o : List Int) (L : List (Nat × Int)) : List Int := L.foldl (fun o p => o.set p.1 p.2) o
theorem scat_len : ∀ (L : List (Nat × Int)) (o : List Int), (scat o L).length = o.length
  | [], _ => rfl
  | p :: L, o => by
    show (scat (o.set p.1 p.2) L).length = _
    rw [scat_len L, List.length_set]
theorem scat_app (o : List Int) (L L' : List (Nat × Int)) : scat o (L ++ L') = scat (scat o L) L' := by unfold scat; rw [List.foldl_append]
theorem scat_not : ∀ (L : List (Nat × Int)) (o : List Int) (k : Nat), (∀ p ∈ L, p.1 ≠ k) → (scat o L)[k]? = o[k]?
  | [], _, _, _ => rfl
  | p :: L, o, k, h => by
    show (scat (o.set p.1 p.2) L)[k]? = _
    rw [scat_not L _ k (fun q hq => h q (List.mem_cons_of_mem _ hq)), List.getElem?_set_ne (h p List.mem_cons_self)]
theorem scat_at : ∀ (L : List (Nat × Int)) (o : List Int), (L.map Prod.fst).Nodup → ∀ p ∈ L, p.1 < o.length → (scat o L)[p.1]? = some p.2
  | [], _, _, _, h, _ => by cases h
  | q :: L, o, hn, p, hp, hl => by
    rw [List.map_cons, List.nodup_cons] at hn
    show (scat (o.set q.1 q.2) L)[p.1]? = _
    rcases List.mem_cons.1 hp with rfl | hp
    · rw [scat_not L _ _ (fun r hr e => hn.1 (List.mem_map.2 ⟨r, hr, e⟩)), List.getElem?_set_self hl]
    · exact scat_at L _ hn.2 p hp (by rw [List.length_set]; exact hl)
def atsS (l : List PtT) : List Nat := (wireS l).map fun s => s.2.2
def takSE (l : List PtT) (b : List UInt8) : Nat := shTE ((wireS l).map fldOf) b
def takSV (l : List PtT) (b : List UInt8) : List Int := if takSE l b = 0 then scat (List.replicate (cntS l) 0) ((atsS l).zip (takeV ((wireS l).map fldOf) b)) else []
theorem ats_nodup (l : List PtT) : (atsS l).Nodup := (wire_at l).nodup_iff.2 List.nodup_range
theorem ats_mem (l : List PtT) (k : Nat) : k ∈ atsS l ↔ k < cntS l := by unfold atsS; rw [(wire_at l).mem_iff, List.mem_range]
theorem ats_len (l : List PtT) : (atsS l).length = cntS l := by unfold atsS; rw [List.length_map, wire_len]
/-- What is laid at the places of the wire is read there. -/
theorem scat_read (l : List PtT) (V : List Int) (hV : V.length = cntS l) : (atsS l).map (fun k => (scat (List.replicate (cntS l) 0) ((atsS l).zip V)).getD k 0) = V := by
  have hz : ((atsS l).zip V).map Prod.fst = atsS l := by rw [List.map_fst_zip (by rw [ats_len, hV]; exact Nat.le_refl _)]
  refine List.ext_getElem? fun i => ?_
  rw [List.getElem?_map]
  by_cases hi : i < cntS l
  · obtain ⟨a, h1⟩ : ∃ a, (atsS l)[i]? = some a := ⟨_, List.getElem?_eq_getElem (by rw [ats_len]; exact hi)⟩
    obtain ⟨x, h2⟩ : ∃ x, V[i]? = some x := ⟨_, List.getElem?_eq_getElem (by omega)⟩
    have hm : (a, x) ∈ (atsS l).zip V := by
      refine List.mem_of_getElem? (i := i) ?_
      rw [List.getElem?_zip_eq_some]
      exact ⟨h1, h2⟩
    have h3 := scat_at ((atsS l).zip V) (List.replicate (cntS l) 0) (by rw [hz]; exact ats_nodup l) _ hm (by rw [List.length_replicate]; exact (ats_mem l _).1 (List.mem_of_getElem? h1))
    show _ = _
    rw [h1, h2, Option.map_some, List.getD_eq_getElem?_getD, h3]
    rfl
  · rw [List.getElem?_eq_none (by rw [ats_len]; omega), List.getElem?_eq_none (by omega)]; rfl
/-- What is read at the places and laid there is as it was. -/
theorem scat_back (l : List PtT) (v : List Int) (hv : v.length = cntS l) : scat (List.replicate (cntS l) 0) ((atsS l).zip ((atsS l).map fun k => v.getD k 0)) = v := by
  refine List.ext_getElem? fun k => ?_
  by_cases hk : k < cntS l
  · have hm := (ats_mem l k).2 hk
    obtain ⟨i, hi⟩ := List.getElem?_of_mem hm
    have hz : ((atsS l).zip ((atsS l).map fun k => v.getD k 0)).map Prod.fst = atsS l := by rw [List.map_fst_zip (by rw [List.length_map]; exact Nat.le_refl _)]
    have hmm : (k, v.getD k 0) ∈ (atsS l).zip ((atsS l).map fun k => v.getD k 0) := by
      refine List.mem_of_getElem? (i := i) ?_
      rw [List.getElem?_zip_eq_some]
      exact ⟨hi, by rw [List.getElem?_map, hi]; rfl⟩
    have h3 := scat_at _ (List.replicate (cntS l) 0) (by rw [hz]; exact ats_nodup l) _ hmm (by rw [List.length_replicate]; exact hk)
    rw [h3, List.getElem?_eq_getElem (by omega), List.getD_eq_getElem?_getD, List.getElem?_eq_getElem (by omega)]
    rfl
  · rw [List.getElem?_eq_none (by rw [scat_len, List.length_replicate]; omega), List.getElem?_eq_none (by omega)]
theorem val_ats (l : List PtT) (v : List Int) : (wireS l).map (valOf v) = (atsS l).map fun k => v.getD k 0 := by unfold atsS; rw [List.map_map]; rfl
/-- There and back. -/
theorem sch_there {l : List PtT} {v : List Int} (hq : PtQ l) (h : putSE l v = 0) : takSE l (putSB l v) = 0 ∧ takSV l (putSB l v) = v ∧ (putSB l v).length = wdS l ∧ v.length = cntS l := by
  unfold putSE at h
  by_cases hv : v.length = cntS l
  · rw [if_pos hv] at h
    obtain ⟨h1, h2, h3⟩ := shape_there h
    have hb : putSB l v = shP ((wireS l).map fldOf) ((wireS l).map (valOf v)) := by unfold putSB; rw [if_pos hv]
    have h4 : takSE l (putSB l v) = 0 := by rw [hb]; exact h1
    refine ⟨h4, ?_, ?_, hv⟩
    · unfold takSV
      rw [if_pos h4, hb]
      unfold shT at h2
      rw [if_pos h1] at h2
      rw [h2, val_ats, scat_back l v hv]
    · rw [hb, h3]
      unfold widthL
      rw [if_pos (rightL_map (wire_q hq)), wire_wd hq]
  · rw [if_neg hv] at h; cases h
theorem sch_back {l : List PtT} {b : List UInt8} (h : takSE l b = 0) : putSE l (takSV l b) = 0 ∧ putSB l (takSV l b) = b ∧ (takSV l b).length = cntS l := by
  have hl : (takSV l b).length = cntS l := by unfold takSV; rw [if_pos h, scat_len, List.length_replicate]
  obtain ⟨h1, h2, h3⟩ := shape_back h
  have hw : (wireS l).map (valOf (takSV l b)) = shT ((wireS l).map fldOf) b := by
    rw [val_ats]
    unfold takSV
    rw [if_pos h]
    have e : shT ((wireS l).map fldOf) b = takeV ((wireS l).map fldOf) b := by unfold shT; exact if_pos h
    rw [e]
    exact scat_read l _ (by rw [takeV_len, List.length_map, wire_len])
  refine ⟨?_, ?_, hl⟩
  · unfold putSE; rw [if_pos hl, hw]; exact h1
  · unfold putSB; rw [if_pos hl, hw]; exact h2

end Go.Proofs.Ytonejdjhdjckjaa

/-
  Small laws for seats without the shapes.
-/
set_option linter.unusedSimpArgs false
set_option linter.unusedVariables false
namespace Go.Proofs.Ytonejdjhdjckjaa
open Go.RowKit NumLaw

theorem wtr_belowG {w w' : World} {g : Nat} {v : Value} {l : List UInt8} {bad : Bool} (h : Wtr w g v l bad) (ha : Aw (Foot g v) w w') : Below g w w' :=
  ⟨ha.os, ha.tape, ha.output, ha.size, fun k hk => ha.block k (Nat.lt_trans hk h.lt) (fun hf => absurd (h.foot hf).1 (by omega))⟩
theorem below_awG {B : Nat} {a A' B' : World} {U : Nat → Prop} (h : Below B a A') (ha : Aw U A' B') (hu : ∀ k, U k → B ≤ k) (hB : B ≤ A'.heap.size) : Below B a B' :=
  ⟨ha.os.trans h.os, ha.tape.trans h.tape, ha.output.trans h.output, Nat.le_trans h.size ha.size, fun k hk => (ha.block k (by omega) (fun hU => by have := hu k hU; omega)).trans (h.block k hk)⟩
theorem rd_litG (w : World) (e : TypeId) (cs : List Value) (hm : cs.length ≤ maxLen) : Rd (w.alloc (.cells cs.toArray e)) (w.heap.size + 1) 1 (some ⟨w.heap.size, 0, none⟩) cs.length cs.length cs := by
  refine ⟨by simp, Nat.le_refl _, hm, fun _ => ⟨_, rfl, Nat.lt_succ_self _, fun j u hu => ?_⟩⟩
  have e1 : (⟨w.heap.size, 0, none⟩ : Addr).add j = ⟨w.heap.size, j, none⟩ := by unfold Addr.add; split <;> simp_all
  rw [e1, World.cell?, show (⟨w.heap.size, j, none⟩ : Addr).block = w.heap.size from rfl, heap_alloc_new w _]
  simpa using hu

end Go.Proofs.Ytonejdjhdjckjaa

/-
  A struct laid cell by cell; what a message taken is.
-/
set_option linter.unusedSimpArgs false
set_option linter.unusedVariables false
namespace Go.Proofs.Ytonejdjhdjckjaa
open Go.RowKit NumLaw

/-- Cells of block g laid anew, from k on. -/
def stN (w : World) (g : Nat) : Nat → List Value → World
  | _, [] => w
  | k, v :: vs => stN (w.setCell ⟨g, k, none⟩ v) g (k + 1) vs
theorem stN_heap {g e : Nat} : ∀ (vs pre olds : List Value) (w : World), w.heap[g]? = some (.cells (pre ++ olds).toArray e) → olds.length = vs.length → (stN w g pre.length vs).heap[g]? = some (.cells (pre ++ vs).toArray e)
  | [], pre, olds, w, h, hl => by
    obtain rfl : olds = [] := List.eq_nil_of_length_eq_zero (by simpa using hl)
    exact h
  | v :: vs, pre, [], w, h, hl => by simp at hl
  | v :: vs, pre, o :: olds, w, h, hl => by
    have h1 := blk_set (i := pre.length) h v
    have e1 : (pre ++ o :: olds).toArray.setIfInBounds pre.length v = ((pre ++ [v]) ++ olds).toArray := by simp
    rw [e1] at h1
    have := stN_heap vs (pre ++ [v]) olds _ h1 (by simpa using hl)
    unfold stN
    simpa using this
theorem stN_below {B g : Nat} {a : World} : ∀ (vs : List Value) (k : Nat) (w : World), Below B a w → B ≤ g → Below B a (stN w g k vs)
  | [], _, _, h, _ => h
  | v :: vs, k, w, h, hg => stN_below vs (k + 1) _ (h.setCell (p := ⟨g, k, none⟩) hg v) hg
theorem stN_own {base : Nat} {e : TypeId} {size n : Nat} {v : Value} {xs : List Value} {g : Nat} : ∀ (vs : List Value) (k : Nat) (w : World), w.ownsRow base e size v n xs → g < base → (stN w g k vs).ownsRow base e size v n xs
  | [], _, _, h, _ => h
  | u :: vs, k, w, h, hg => stN_own vs (k + 1) _ (own_set h hg u) hg
/-- A row of the call's own: where its cells lie. -/
theorem own_at {w : World} {base : Nat} {e : TypeId} {n c : Nat} {A : Option Addr} {xs : List Value} (h : w.ownsRow base e 1 (.slice A n c) n xs) (hn : 0 < n) : ∃ g, A = some ⟨g, 0, none⟩ ∧ base ≤ g ∧ g < w.heap.size ∧ ∀ j u, xs[j]? = some u → w.cell? ⟨g, j, none⟩ = some u := by
  rcases h.2 with ⟨hv, h0⟩ | ⟨g, cap, cur, hv, hg, hh, h1, h2, h3, h4⟩
  · injection hv with e1 e2 e3; omega
  · have hcell := h.cells (g := g) (by rw [hv]; rfl)
    injection hv with e1 e2 e3
    refine ⟨g, e1, hg, blk_lt hh, fun j u hu => ?_⟩
    have := hcell j u hu
    rwa [show (⟨g, 0, none⟩ : Addr).add j = ⟨g, j, none⟩ by unfold Addr.add; split <;> simp_all] at this
/-- Halts the walk in front of a store. -/
theorem stop_store {P : Program} {w : World} {ops : Array Oper} {rest : List Oper} {a : Act} {Q : Exit → Act → World → Prop} {x y : Operand} {t ty : TypeId} {pos : String} {af : Array Edge}
    (h : Stop (wpList P ops Q (⟨none, .store t x y, ty, pos, af, none⟩ :: rest) a w)) : wpList P ops Q (⟨none, .store t x y, ty, pos, af, none⟩ :: rest) a w := h
/-- The numbers taken; none: zeros. -/
def takeD (l : List FieldV) (b : List UInt8) : List Int := if shTE l b = 0 then shT l b else List.replicate l.length 0

theorem takeD_there {l : List FieldV} {vs : List Int} (h : shE l vs = 0) : takeD l (shP l vs) = vs ∧ shTE l (shP l vs) = 0 := by
  obtain ⟨h1, h2, _⟩ := shape_there h
  exact ⟨by unfold takeD; rw [if_pos h1, h2], h1⟩
theorem takeD_back {l : List FieldV} {b : List UInt8} (h : shTE l b = 0) : shE l (takeD l b) = 0 ∧ shP l (takeD l b) = b := by
  obtain ⟨h1, h2, _⟩ := shape_back h
  unfold takeD
  rw [if_pos h]
  exact ⟨h1, h2⟩
theorem takeD_none {l : List FieldV} {b : List UInt8} (h : shTE l b ≠ 0) : takeD l b = List.replicate l.length 0 := by
  unfold takeD
  rw [if_neg h]
theorem shP_none {l : List FieldV} {vs : List Int} (h : shE l vs ≠ 0) : shP l vs = [] := by unfold shP; rw [if_neg h]
theorem takeD_bounds {l : List FieldV} {b : List UInt8} (hl : ∀ f ∈ l, (-9223372036854775808 ≤ f.lo ∧ f.lo ≤ 9223372036854775807) ∧ (-9223372036854775808 ≤ f.hi ∧ f.hi ≤ 9223372036854775807)) : ∀ z ∈ takeD l b, -9223372036854775808 ≤ z ∧ z ≤ 9223372036854775807 := by
  by_cases h : shTE l b = 0
  · have hT : takeD l b = takeV l b := by unfold takeD; rw [if_pos h]; unfold shT; rw [if_pos h]
    have hin : inAll l (takeV l b) = true := by
      unfold shTE at h
      split at h
      · split at h
        · cases h
        · split at h
          · cases h
          · split at h
            · rename_i h4; exact h4
            · cases h
      · cases h
    rw [hT]
    exact inAll_bounds hl (takeV_len l b) hin
  · rw [takeD_none h]
    intro z hz
    obtain ⟨_, rfl⟩ := List.mem_replicate.1 hz
    omega

end Go.Proofs.Ytonejdjhdjckjaa

/-
  Where a walk halts: ahead of a load, or a store, of a certain type.
-/
set_option linter.unusedSimpArgs false
set_option linter.unusedVariables false
namespace Go.Proofs.Ytonejdjhdjckjaa
open Go.RowKit

theorem stop_loadT (t : TypeId) {P : Program} {w : World} {ops : Array Oper} {rest : List Oper} {a : Act} {Q : Exit → Act → World → Prop} {d : Option Tmp} {x : Operand} {ty : TypeId} {pos : String} {af : Array Edge}
    (h : Stop (wpList P ops Q (⟨d, .load t x, ty, pos, af, none⟩ :: rest) a w)) : wpList P ops Q (⟨d, .load t x, ty, pos, af, none⟩ :: rest) a w := h
theorem stop_storeT (t : TypeId) {P : Program} {w : World} {ops : Array Oper} {rest : List Oper} {a : Act} {Q : Exit → Act → World → Prop} {x y : Operand} {ty : TypeId} {pos : String} {af : Array Edge}
    (h : Stop (wpList P ops Q (⟨none, .store t x y, ty, pos, af, none⟩ :: rest) a w)) : wpList P ops Q (⟨none, .store t x y, ty, pos, af, none⟩ :: rest) a w := h
theorem al2 (w : World) (o0 o1 : Obj) : ((w.alloc o0).alloc o1).heap[w.heap.size]? = some o0 ∧ ((w.alloc o0).alloc o1).heap[w.heap.size + 1]? = some o1 ∧ ((w.alloc o0).alloc o1).heap.size = w.heap.size + 2 ∧ Below w.heap.size w ((w.alloc o0).alloc o1) := by
  have h0 := heap_alloc_new w o0
  have h1 := heap_alloc_new (w.alloc o0) o1
  have s0 : (w.alloc o0).heap.size = w.heap.size + 1 := World.size_alloc _ _
  have s1 : ((w.alloc o0).alloc o1).heap.size = w.heap.size + 2 := by rw [World.size_alloc, s0]
  rw [s0] at h1
  exact ⟨(heap_alloc_old _ o1 (by omega)).trans h0, h1, s1, ((Below.refl _ _).alloc (Nat.le_refl _) _).alloc (by omega) _⟩
theorem al3 (w : World) (o0 o1 o2 : Obj) : (((w.alloc o0).alloc o1).alloc o2).heap[w.heap.size]? = some o0 ∧ (((w.alloc o0).alloc o1).alloc o2).heap[w.heap.size + 1]? = some o1 ∧ (((w.alloc o0).alloc o1).alloc o2).heap[w.heap.size + 2]? = some o2 ∧
    (((w.alloc o0).alloc o1).alloc o2).heap.size = w.heap.size + 3 ∧ Below w.heap.size w (((w.alloc o0).alloc o1).alloc o2) := by
  obtain ⟨a, b, s, hb⟩ := al2 w o0 o1
  have h := heap_alloc_new ((w.alloc o0).alloc o1) o2
  rw [s] at h
  exact ⟨(heap_alloc_old _ o2 (by omega)).trans a, (heap_alloc_old _ o2 (by omega)).trans b, h, by rw [World.size_alloc, s], hb.alloc hb.size _⟩
theorem al4 (w : World) (o0 o1 o2 o3 : Obj) : ((((w.alloc o0).alloc o1).alloc o2).alloc o3).heap[w.heap.size]? = some o0 ∧ ((((w.alloc o0).alloc o1).alloc o2).alloc o3).heap[w.heap.size + 1]? = some o1 ∧
    ((((w.alloc o0).alloc o1).alloc o2).alloc o3).heap[w.heap.size + 2]? = some o2 ∧ ((((w.alloc o0).alloc o1).alloc o2).alloc o3).heap[w.heap.size + 3]? = some o3 ∧
    ((((w.alloc o0).alloc o1).alloc o2).alloc o3).heap.size = w.heap.size + 4 ∧ Below w.heap.size w ((((w.alloc o0).alloc o1).alloc o2).alloc o3) := by
  obtain ⟨a, b, c, s, hb⟩ := al3 w o0 o1 o2
  have h := heap_alloc_new (((w.alloc o0).alloc o1).alloc o2) o3
  rw [s] at h
  exact ⟨(heap_alloc_old _ o3 (by omega)).trans a, (heap_alloc_old _ o3 (by omega)).trans b, (heap_alloc_old _ o3 (by omega)).trans c, h, by rw [World.size_alloc, s], hb.alloc hb.size _⟩
theorem al5 (w : World) (o0 o1 o2 o3 o4 : Obj) : (((((w.alloc o0).alloc o1).alloc o2).alloc o3).alloc o4).heap[w.heap.size]? = some o0 ∧ (((((w.alloc o0).alloc o1).alloc o2).alloc o3).alloc o4).heap[w.heap.size + 1]? = some o1 ∧
    (((((w.alloc o0).alloc o1).alloc o2).alloc o3).alloc o4).heap[w.heap.size + 2]? = some o2 ∧ (((((w.alloc o0).alloc o1).alloc o2).alloc o3).alloc o4).heap[w.heap.size + 3]? = some o3 ∧ (((((w.alloc o0).alloc o1).alloc o2).alloc o3).alloc o4).heap[w.heap.size + 4]? = some o4 ∧
    (((((w.alloc o0).alloc o1).alloc o2).alloc o3).alloc o4).heap.size = w.heap.size + 5 ∧ Below w.heap.size w (((((w.alloc o0).alloc o1).alloc o2).alloc o3).alloc o4) := by
  obtain ⟨a, b, c, s, hb⟩ := al3 w o0 o1 o2
  obtain ⟨d, e, s2, hb2⟩ := al2 (((w.alloc o0).alloc o1).alloc o2) o3 o4
  rw [s] at d e s2 hb2
  have hk : ∀ k, k < w.heap.size + 3 → _ := fun k hk => hb2.block k hk
  exact ⟨(hk _ (by omega)).trans a, (hk _ (by omega)).trans b, (hk _ (by omega)).trans c, d, e, s2, hb.trans (hb2.mono (by omega))⟩
/-- A struct that lies whole in its block, and a value beside it, handed back. -/
theorem results_cell2 {P : Program} {fn : Func} {p q : Tmp} {ty : TypeId} (h : fn.results = #[.cell p ty, .tmp q]) (tmps : Array Value) (w : World) (g : Nat) (t : TypeId) (cs : Array Value) (fr : Nat × Nat) (d : TypeDesc)
    (hp : tmps.getD p undef = .pointer (some ⟨g, 0, none⟩)) (hg : w.heap[g]? = some (.cells cs t fr))
    (hu : P.underlying ty = some d) (hd : (match d with | .struct _ | .array _ _ => true | _ => false) = true) (hi : (P.info? ty).map (·.size) = some cs.size) :
    (results fn tmps).run P w = .ok (.tuple #[.agg cs, tmps.getD q undef]) w := by
  have hp' : tmps[p]?.getD undef = .pointer (some ⟨g, 0, none⟩) := by simpa using hp
  simp [results, h, hp', asAddr, run_loadVar_row w g t ty cs fr d hg hu hd hi]

end Go.Proofs.Ytonejdjhdjckjaa

/-
  A block of rows of cells: one row read, one row stored; rows copied into it.
-/
set_option linter.unusedSimpArgs false
set_option linter.unusedVariables false
namespace Go.Proofs.Ytonejdjhdjckjaa
open Go.RowKit

def RW (w : World) (g : Nat) (t : TypeId) (rows : List (List Value)) : Prop := w.heap[g]? = some (.cells rows.flatten.toArray t (0, 0))
section
variable {w w' : World} {g : Nat} {t : TypeId} {rows : List (List Value)} {size : Nat}
theorem RW.at_ (h : RW w g t rows) (ha : ∀ r ∈ rows, r.length = size) {k : Nat} {r : List Value} (hk : rows[k]? = some r) : w.rangeAt g (k * size) r := fun j v hv => by
  have hj : j < r.length := (List.getElem?_eq_some_iff.1 hv).1
  have hr := ha r (List.mem_of_getElem? hk)
  refine blk_cell (cs := rows.flatten.toArray) h ?_
  rw [List.getElem?_toArray, flat_at rows k j r ha hk (by omega)]
  exact hv
theorem RW.there (h : RW w g t rows) (ha : ∀ r ∈ rows, r.length = size) {k : Nat} {r : List Value} (hk : rows[k]? = some r) {n : Nat} (hn : n = size) : w.there g (k * size) n := fun j hj => by
  subst hn
  have hr := ha r (List.mem_of_getElem? hk)
  have := h.at_ ha hk j _ (List.getElem?_eq_getElem (by omega))
  exact ⟨by rw [this]; rfl, blk_free (cs := rows.flatten.toArray) h⟩
theorem setCells_heap (g : Nat) : ∀ (vs : List Value) (o : Nat) (w : World) (l : List Value) (t : TypeId), w.heap[g]? = some (.cells l.toArray t (0, 0)) → o + vs.length ≤ l.length →
    (w.setCells g o vs).heap[g]? = some (.cells (l.take o ++ vs ++ l.drop (o + vs.length)).toArray t (0, 0))
  | [], o, w, l, t, h, _ => by
    show w.heap[g]? = _
    rw [h]; simp
  | v :: vs, o, w, l, t, h, hl => by
    have h1 := blk_set (i := o) h v
    rw [List.setIfInBounds_toArray] at h1
    have ih := setCells_heap g vs (o + 1) (w.setCell ⟨g, o, none⟩ v) (l.set o v) t h1 (by rw [List.length_set]; simp at hl; omega)
    show ((w.setCell ⟨g, o, none⟩ v).setCells g (o + 1) vs).heap[g]? = _
    rw [ih]
    have e := list_seg_step l o v vs (by simpa using hl)
    rw [e]
    simp
theorem flatten_set (ha : ∀ r ∈ rows, r.length = size) {k : Nat} {r' : List Value} (hk : k < rows.length) (hr : r'.length = size) :
    rows.flatten.take (k * size) ++ r' ++ rows.flatten.drop (k * size + r'.length) = (rows.set k r').flatten := by
  have h1 : rows = rows.take k ++ rows[k] :: rows.drop (k + 1) := by rw [← List.drop_eq_getElem_cons hk, List.take_append_drop]
  have h2 : (rows.take k).flatten.length = k * size := by
    rw [flat_len (rows.take k) (fun r hr => ha r (List.mem_of_mem_take hr)), List.length_take, Nat.min_eq_left (by omega)]
  have h3 : rows[k].length = size := ha _ (List.getElem_mem hk)
  have h4 : rows.set k r' = rows.take k ++ r' :: rows.drop (k + 1) := by
    rw [List.set_eq_take_append_cons_drop, if_pos hk]
  have h5 : rows.flatten = (rows.take k).flatten ++ (rows[k] ++ (rows.drop (k + 1)).flatten) := by
    conv => lhs; rw [h1]
    rw [List.flatten_append, List.flatten_cons]
  rw [h4, List.flatten_append, List.flatten_cons, h5, List.take_append_of_le_length (by omega), List.take_of_length_le (by omega)]
  have h6 : ((rows.take k).flatten ++ (rows[k] ++ (rows.drop (k + 1)).flatten)).drop (k * size + r'.length) = (rows.drop (k + 1)).flatten := by
    rw [List.drop_append, List.drop_eq_nil_of_le (by omega), List.nil_append, h2, Nat.add_sub_cancel_left, List.drop_append, List.drop_eq_nil_of_le (by omega), List.nil_append, hr, h3, Nat.sub_self, List.drop_zero]
  rw [h6, List.append_assoc]
theorem RW.set (h : RW w g t rows) (ha : ∀ r ∈ rows, r.length = size) {k : Nat} {r' : List Value} (hk : k < rows.length) (hr : r'.length = size) : RW (w.setCells g (k * size) r') g t (rows.set k r') := by
  have hl := flat_len rows ha
  have := setCells_heap g r' (k * size) w rows.flatten t h (by
    rw [hl, hr]
    have := Nat.mul_le_mul_right size (show k + 1 ≤ rows.length by omega)
    rw [Nat.succ_mul] at this
    exact this)
  rw [flatten_set ha hk hr] at this
  exact this
theorem below_setCells {B : Nat} {w0 : World} (hg : B ≤ g) : ∀ (vs : List Value) (o : Nat) (w : World), Below B w0 w → Below B w0 (w.setCells g o vs)
  | [], _, _, h => h
  | v :: vs, o, w, h => below_setCells hg vs (o + 1) _ (h.setCell (p := ⟨g, o, none⟩) hg v)
theorem RW.old {B : Nat} (h : RW w g t rows) (hb : Below B w w') (hg : g < B) : RW w' g t rows := blk_old h hb hg
end
/-- Rows copied over a whole block. -/
theorem run_copy_rows {P : Program} (w : World) (dT sT ty elem : TypeId) (g n dCap : Nat) (a : Addr) (sCap size : Nat) (cur : Array Value) (t : TypeId) (cs : List Value)
    (hu : P.underlying dT = some (.slice elem)) (hs : (P.info? elem).map (·.size) = some size)
    (hg : w.heap[g]? = some (.cells cur t (0, 0))) (hn : cs.length = n * size) (hc : cur.size = n * size)
    (hsrc : ∀ j v, cs[j]? = some v → w.cell? (a.add j) = some v) (h1 : ∀ v ∈ cs, v.oneCell' = true) :
    (Builtin.copy_ #[dT, sT] ty #[.slice (some ⟨g, 0, none⟩) n dCap, .slice (some a) n sCap]).run P w = .ok (goInt n) (w.setRow g cs.toArray) := by
  have hl := run_loadCells_list (P := P) w a cs hsrc
  have hst := run_storeCells_at P g 0 t cs 0 cur w hg (by omega) h1
  have e : (cur.toList.take (0 + 0) ++ cs ++ cur.toList.drop (0 + 0 + cs.length)) = cs := by
    rw [List.drop_eq_nil_of_le (by rw [Array.length_toList]; omega)]; simp
  rw [e] at hst
  cases hq : P.info? elem with
  | none => simp [hq] at hs
  | some i =>
    have hi : i.size = size := by simpa [hq] using hs
    simp [Builtin.copy_, run_underlying hu, Builtin.lenOf, Builtin.firstCells, sizeOf, typeInfo, hq, hi, ← hn, hl, hst]

theorem run_copy_zero {P : Program} (w : World) (dT sT ty elem : TypeId) (d a : Option Addr) (dCap sCap : Nat) (hu : P.underlying dT = some (.slice elem)) {i : TypeInfo} (hq : P.info? elem = some i) :
    (Builtin.copy_ #[dT, sT] ty #[.slice d 0 dCap, .slice a 0 sCap]).run P w = .ok (goInt 0) w := by
  have hl : ∀ (x : Addr), (loadCells x 0).run P w = .ok #[] w := fun x => by simpa using run_loadCells_list (P := P) w x [] (by simp)
  cases d <;> cases a <;> simp [Builtin.copy_, run_underlying hu, Builtin.lenOf, Builtin.firstCells, sizeOf, typeInfo, hq, storeCells, hl]
/-- Rows copied over a whole block: the block has these rows. -/
theorem run_copy_RW {P : Program} {w : World} {dT sT ty elem : TypeId} {g n dCap sCap size B : Nat} {A : Option Addr} {cur : Array Value} {t : TypeId} {rows : List (List Value)}
    (hu : P.underlying dT = some (.slice elem)) {i : TypeInfo} (hq : P.info? elem = some i) (hs : i.size = size) (h0 : 0 < size)
    (hg : w.heap[g]? = some (.cells cur t (0, 0))) (hc : cur.size = n * size) (h : RdR w B size A n sCap rows) (h1 : ∀ u ∈ rows.flatten, u.oneCell' = true) :
    ∃ w', (Builtin.copy_ #[dT, sT] ty #[.slice (some ⟨g, 0, none⟩) n dCap, .slice A n sCap]).run P w = .ok (goInt n) w' ∧ RW w' g t rows ∧ ∀ (B0 : Nat) (w0 : World), Below B0 w0 w → B0 ≤ g → Below B0 w0 w' := by
  have hl : rows.length = n := h.1
  have hfl : rows.flatten.length = n * size := by rw [flat_len rows h.2.1, hl]
  rcases Nat.eq_zero_or_pos n with hn | hn
  · subst hn
    have hr : rows = [] := List.eq_nil_of_length_eq_zero hl
    subst hr
    refine ⟨w, run_copy_zero w dT sT ty elem _ A dCap sCap hu hq, ?_, fun _ _ h _ => h⟩
    unfold RW
    rw [hg]
    have : cur = #[] := Array.eq_empty_of_size_eq_zero (by rw [hc]; simp)
    rw [this]; rfl
  · obtain ⟨ad, rfl, hb, hcell⟩ := (RdR.rd h h0).at_ hn
    refine ⟨_, run_copy_rows w dT sT ty elem g n dCap ad sCap size cur t rows.flatten hu (by rw [hq, ← hs]; rfl) hg hfl hc hcell h1, ?_, fun B0 w0 hb0 hB => below_setRow hb0 hB _⟩
    exact setRow_heap _ _ _ _ _ _ hg
theorem wpList_copy_run' {P : Program} {w w' : World} {ops : Array Oper} {rest : List Oper} {a : Act} {Q : Exit → Act → World → Prop} {d : Option Tmp} {x y : Operand} {t t' ty : TypeId} {pos : String} {af : Array Edge} {v u r : Value}
    (hx : a.eval x = v) (hy : a.eval y = u) (hr : (Builtin.copy_ #[t, t'] ty #[v, u]).run P w = .ok r w') (h : wpList P ops Q rest (a.put d r) w') : wpList P ops Q (⟨d, .call { callee := .builtin .copy, args := #[x, y], argTypes := #[t, t'] }, ty, pos, af, none⟩ :: rest) a w :=
  wpList_plain rfl fun _ hK => by
    unfold Oper.wp execOp
    simp only [resolve, invoke, builtin, Sem.run_bind, Sem.run_pure, Result.andThen_ok, List.map_toArray, List.map_cons, List.map_nil, hx, hy, hr]
    exact hK _ _ h
theorem own_full {w : World} {base g n : Nat} {e : TypeId} {size : Nat} {xs : List Value} (h : w.ownsRow base e size (.slice (some ⟨g, 0, none⟩) n n) n xs) : ∃ cur, w.heap[g]? = some (.cells cur e (0, 0)) ∧ cur.size = n * size ∧ base ≤ g := by
  rcases h.2 with ⟨hv, _⟩ | ⟨g', cap, cur, hv, hb, hg, _, _, hs, _⟩
  · cases hv
  · injection hv with e1 _ e3
    injection e1 with e1
    injection e1 with e1 _ _
    subst e1
    subst e3
    exact ⟨cur, hg, hs, hb⟩
theorem stop_makeR {P : Program} {w : World} {ops : Array Oper} {rest : List Oper} {a : Act} {Q : Exit → Act → World → Prop} {d : Option Tmp} {t ty : TypeId} {x y : Operand} {pos : String} {af : Array Edge}
    (h : Stop (wpList P ops Q (⟨d, .makeSlice t x y, ty, pos, af, none⟩ :: rest) a w)) : wpList P ops Q (⟨d, .makeSlice t x y, ty, pos, af, none⟩ :: rest) a w := h
theorem stop_copyR {P : Program} {w : World} {ops : Array Oper} {rest : List Oper} {a : Act} {Q : Exit → Act → World → Prop} {d : Option Tmp} {ar : Array Operand} {ts : Array TypeId} {ty : TypeId} {pos : String} {af : Array Edge} {g : Option (Nat × Bool)}
    (h : Stop (wpList P ops Q (⟨d, .call { callee := .builtin .copy, args := ar, argTypes := ts }, ty, pos, af, g⟩ :: rest) a w)) : wpList P ops Q (⟨d, .call { callee := .builtin .copy, args := ar, argTypes := ts }, ty, pos, af, g⟩ :: rest) a w := h
/-- The rows of a block, as a slice. -/
theorem RW.rd {w : World} {g n : Nat} {t : TypeId} {rows : List (List Value)} {size : Nat} (h : RW w g t rows) (ha : ∀ r ∈ rows, r.length = size) (hl : rows.length = n) (hm : n ≤ maxLen) : RdR w w.heap.size size (some ⟨g, 0, none⟩) n n rows := by
  refine ⟨hl, ha, Nat.le_refl _, hm, fun _ => ⟨g, 0, rfl, blk_lt h, fun k r hk => ?_⟩⟩
  rw [Nat.zero_add]
  exact h.at_ ha hk

end Go.Proofs.Ytonejdjhdjckjaa

/-
  Rows of one cell an element whose block bears a mark behind its end ([]byte(s)): append onto such a row.
-/
set_option linter.unusedSimpArgs false
set_option linter.unusedVariables false
namespace Go.Proofs.Ytonejdjhdjckjaa
open Go.RowKit

def OwB (w : World) (base : Nat) (e : TypeId) (A : Option Addr) (n c : Nat) (xs : List Value) : Prop :=
  xs.length = n ∧ n ≤ c ∧ c ≤ maxLen ∧ ∃ g cs fr, A = some ⟨g, 0, none⟩ ∧ base ≤ g ∧ w.heap[g]? = some (.cells cs e fr) ∧ cs.size = c ∧ (fr = (0, 0) ∨ c ≤ fr.1) ∧ cs.toList.take n = xs
theorem setCells_heapF (g : Nat) (fr : Nat × Nat) : ∀ (vs : List Value) (o : Nat) (w : World) (l : List Value) (t : TypeId), w.heap[g]? = some (.cells l.toArray t fr) → o + vs.length ≤ l.length →
    (w.setCells g o vs).heap[g]? = some (.cells (l.take o ++ vs ++ l.drop (o + vs.length)).toArray t fr)
  | [], o, w, l, t, h, _ => by
    show w.heap[g]? = _
    rw [h]; simp
  | v :: vs, o, w, l, t, h, hl => by
    have h1 := blk_set (i := o) h v
    rw [List.setIfInBounds_toArray] at h1
    have ih := setCells_heapF g fr vs (o + 1) (w.setCell ⟨g, o, none⟩ v) (l.set o v) t h1 (by rw [List.length_set]; simp at hl; omega)
    show ((w.setCell ⟨g, o, none⟩ v).setCells g (o + 1) vs).heap[g]? = _
    rw [ih]
    have e := list_seg_step l o v vs (by simpa using hl)
    rw [e]
    simp
theorem OwB.up {w w' : World} {base n c : Nat} {e : TypeId} {A : Option Addr} {xs : List Value} (h : OwB w base e A n c xs) (hb : Below w.heap.size w w') : OwB w' base e A n c xs := by
  obtain ⟨h1, h2, h3, g, cs, fr, h4, h5, h6, h7⟩ := h
  exact ⟨h1, h2, h3, g, cs, fr, h4, h5, blk_old h6 hb (blk_lt h6), h7⟩
theorem OwB.drew {w : World} {base n c : Nat} {e : TypeId} {A : Option Addr} {xs : List Value} (h : OwB w base e A n c xs) : OwB w.drew base e A n c xs := h
theorem OwB.rd {w : World} {base n c : Nat} {e : TypeId} {A : Option Addr} {xs : List Value} (h : OwB w base e A n c xs) : Rd w w.heap.size 1 A n c xs := by
  obtain ⟨h1, h2, h3, g, cs, fr, rfl, h5, h6, h7, h8, rfl⟩ := h
  refine ⟨by omega, h2, h3, fun _ => ⟨_, rfl, blk_lt h6, fun j u hu => ?_⟩⟩
  have e1 : (⟨g, 0, none⟩ : Addr).add j = ⟨g, j, none⟩ := by unfold Addr.add; split <;> simp_all
  rw [e1]
  refine blk_cell h6 ?_
  rw [List.getElem?_take] at hu
  split at hu
  · rwa [Array.getElem?_toList] at hu
  · cases hu
theorem OwB.bytes (w : World) (e : TypeId) (s : ByteArray) (base : Nat) (hB : base ≤ w.heap.size) (hm : s.size ≤ maxLen) : OwB (Lib.bytesWorld w e s) base e (some ⟨w.heap.size, 0, none⟩) s.size (grownCap w s.size 0 e) (s.data.toList.map fun b => Value.int .u8 (b.toNat : Int)) := by
  have hge := grownCap_ge w s.size 0 e
  have hsz : (Lib.bytesCells w e s).size = grownCap w s.size 0 e := by
    unfold Lib.bytesCells
    rw [Array.size_append, Array.size_map, Array.size_replicate]
    have : s.data.size = s.size := rfl
    omega
  refine ⟨by rw [List.length_map]; exact Array.length_toList, hge, grownCap_le_maxLen _ _ _ _ hm, w.heap.size, _, _, rfl, hB, Lib.bytesWorld_at_new w e s, hsz, .inr (by rw [hsz]; exact Nat.le_refl _), ?_⟩
  unfold Lib.bytesCells
  rw [Array.toList_append, Array.toList_map, List.take_append_of_le_length (by rw [List.length_map]; exact Nat.le_of_eq Array.length_toList.symm), List.take_of_length_le (by rw [List.length_map]; exact Nat.le_of_eq Array.length_toList)]
theorem OwB.own {w : World} {base n c : Nat} {e : TypeId} {A : Option Addr} {xs : List Value} (h : w.ownsRow base e 1 (.slice A n c) n xs) (hn : 0 < n) : OwB w base e A n c xs := by
  obtain ⟨h1, h2⟩ := h
  rcases h2 with ⟨_, h0⟩ | ⟨g, cap, cur, he, hb, hg, h3, h4, h5, h6⟩
  · omega
  · injection he with e1 e2 e3
    subst e1; subst e3
    exact ⟨by omega, h3, h4, g, cur, (0, 0), rfl, hb, hg, by omega, .inl rfl, by simpa using h6⟩
theorem setCells_size (g : Nat) : ∀ (vs : List Value) (o : Nat) (w : World), (w.setCells g o vs).heap.size = w.heap.size
  | [], _, _ => rfl
  | v :: vs, o, w => by
    show ((w.setCell ⟨g, o, none⟩ v).setCells g (o + 1) vs).heap.size = _
    rw [setCells_size g vs (o + 1)]
    exact Array.size_modify
theorem wpList_appB {P : Program} {w : World} {ops : Array Oper} {rest : List Oper} {a : Act} {Q : Exit → Act → World → Prop} {d : Option Tmp} {s x : Operand} {t ty : TypeId} {pos : String} {af : Array Edge}
    {base : Nat} {e : TypeId} {i : TypeInfo} {z : Value} {bytes : Nat} (ht : P.underlying t = some (.slice e)) (hi : P.info? e = some i ∧ i.zero = some z ∧ i.size = 1 ∧ i.bytes = bytes) (hzs : z.cells.size = 1)
    {A0 : Option Addr} {n c0 : Nat} {xs : List Value} (hown : OwB w base e A0 n c0 xs) (hs : a.eval s = .slice A0 n c0)
    {B : Nat} {A : Option Addr} {m c : Nat} {news : List Value} (hr : Rd w B 1 A m c news) (hm : 0 < m) (hx : a.eval x = .slice A m c) (h1 : ∀ u ∈ news, u.oneCell' = true)
    {k : Nat} {ys : List Value} (hk : n + m = k) (hys : xs ++ news = ys)
    (h63 : k ≤ maxLen) (hbytes : k * bytes ≤ 140737488355328) (hbase : base ≤ w.heap.size)
    (h : ∀ A' c' w', OwB w' base e A' k c' ys → (∀ {B0 : Nat} {w0 : World}, Below B0 w0 w → B0 ≤ base → Below B0 w0 w') → w.heap.size ≤ w'.heap.size → wpList P ops Q rest (a.put d (.slice A' k c')) w') :
    wpList P ops Q (⟨d, .call { callee := .builtin .append, args := #[s, x], argTypes := #[t, t] }, ty, pos, af, none⟩ :: rest) a w := by
  subst hk; subst hys
  obtain ⟨hl, hnc, hcm, g, cs, fr, rfl, hg, hh, hcs, hfr, rfl⟩ := hown
  obtain ⟨hrl, _, _, hra⟩ := hr
  obtain ⟨ad, rfl, hadB, hcell⟩ := hra hm
  have hin : ∀ j, j < c0 → (w.cell? ⟨g, j, none⟩).isSome = true := fun j hj => by
    rw [blk_cell (v := cs[j]'(by omega)) hh (Array.getElem?_eq_getElem (by omega))]; rfl
  have hfz : ∀ j, j < c0 → w.frozen? ⟨g, j, none⟩ = false := fun j hj => by
    rw [World.frozen?, show (⟨g, j, none⟩ : Addr).block = g from rfl, hh]
    rcases hfr with rfl | hfr
    · simp
    · have : ¬ fr.1 ≤ j := by omega
      simp [this]
  have hold : ∀ j u, (cs.toList.take n)[j]? = some u → w.cell? ⟨g, 0 + j, none⟩ = some u := fun j u hu => by
    rw [List.getElem?_take] at hu
    rw [Nat.zero_add]
    split at hu
    · exact blk_cell hh (by rwa [Array.getElem?_toList] at hu)
    · cases hu
  refine wpList_append_arg w rfl s x t rfl e i z 1 bytes ht hi.1 hi.2.1 hi.2.2.1 hi.2.2.2 hzs (by omega) g 0 n c0 (cs.toList.take n) hs (by omega) hold ad m c news hx hrl hcell h1 (fun hroom j hj => ?_) h63 hbytes (fun hroom => ?_) (fun hgrow v' w' own' hgr => ?_)
  · rw [Nat.mul_one, Nat.zero_add]
    exact ⟨hin _ (by omega), hfz _ (by omega)⟩
  · rw [Nat.mul_one, Nat.zero_add]
    have hs2 := setCells_heapF g fr news n w cs.toList e (by simpa using hh) (by have h9 : cs.toList.length = cs.size := Array.length_toList; omega)
    refine h _ _ _ ⟨by rw [List.length_append]; omega, hroom, hcm, g, _, fr, rfl, hg, hs2, ?_, hfr, ?_⟩ (fun hb hB0 => below_setCells (by omega) _ _ _ hb) (Nat.le_of_eq (setCells_size _ _ _ _).symm)
    · simp
      omega
    · simp only [List.append_assoc]
      rw [← List.append_assoc, List.take_append_of_le_length (by rw [List.length_append]; omega), List.take_of_length_le (by rw [List.length_append]; omega)]
  · obtain ⟨A', c', rfl⟩ := own_sl own'
    have hb := Below.grown (Below.refl w.heap.size w) hgr (Nat.le_refl _) (fun j hj => by cases hj)
    have ho := OwB.own own' (by omega)
    obtain ⟨h1, h2, h3, g', cs', fr', h4, h5, h6⟩ := ho
    exact h _ _ _ ⟨h1, h2, h3, g', cs', fr', h4, by omega, h6⟩ (fun hb0 hB0 => Below.grown hb0 hgr (by omega) (fun j hj => by cases hj)) hb.size
end Go.Proofs.Ytonejdjhdjckjaa
