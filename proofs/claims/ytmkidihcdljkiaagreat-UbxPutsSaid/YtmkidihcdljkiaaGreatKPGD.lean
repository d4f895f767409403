/-
  Several texts in one: Shape5 Shape6.
-/
import Derived.Test.YtmkidihcdljkiaaGreatKPGC
import Derived.Deep.OwnRows
/-
  shape.Put walked.
-/
set_option linter.unusedSimpArgs false
set_option linter.unusedVariables false
namespace Go.Proofs.YtmkidihcdljkiaaGreat
open Go.RowKit NumLaw
attribute [local go_sem] Addr.add_mid

/-- The numbers are within their fields. -/
def inAll (l : List FieldV) (vs : List Int) : Bool := (l.zip vs).all fun p => inF p.1 p.2
def shB (l : List FieldV) (vs : List Int) : List UInt8 := (l.zip vs).flatMap fun p => bytesN p.1.size.toNat (un p.2)
def shE (l : List FieldV) (vs : List Int) : Nat := if rightL l = true ∧ vs.length = l.length then if inAll l vs = true then 0 else 5 else 1
def shP (l : List FieldV) (vs : List Int) : List UInt8 := if shE l vs = 0 then shB l vs else []
def RetPS (w : World) (l : List UInt8) (err : Nat) (e : Ending) (w' : World) : Prop :=
  ∃ A n c, e = .returned (.tuple #[.slice A n c, .int .i64 (err : Int)]) ∧ w'.ownsRow w.heap.size 5 1 (.slice A n c) n (bv l) ∧ Below w.heap.size w w'
theorem zip_take_succ {l : List FieldV} {vs : List Int} {k : Nat} {f : FieldV} {x : Int} (h1 : l[k]? = some f) (h2 : vs[k]? = some x) : (l.zip vs).take (k + 1) = (l.zip vs).take k ++ [(f, x)] :=
  take_succ (by rw [List.getElem?_zip_eq_some]; exact ⟨h1, h2⟩)
/-- A number within a right field has room in its bytes. -/
theorem in_fits {f : FieldV} {x : Int} (hr : rightF f = true) (hx : inF f x = true) : 1 ≤ f.size ∧ f.size ≤ 8 ∧ (f.sg = true → fI f.size x = true) ∧ (f.sg = false → fU f.size (un x) = true ∧ 0 ≤ x) := by
  obtain ⟨size, sg, lo, hi⟩ := f
  have hs := right_fits hr
  unfold rightF at hr
  simp only [Bool.and_eq_true, decide_eq_true_eq] at hr hs
  obtain ⟨⟨⟨h1, h2⟩, h3⟩, h4⟩ := hr
  have h3 := of_decide_eq_true h3
  have h4 := of_decide_eq_true h4
  have hx := of_decide_eq_true hx
  unfold anyF at h3 h4
  rw [if_pos h1] at h3 h4
  simp only at h3 h4 hx hs
  refine ⟨hs.1, hs.2, fun hg => ?_, fun hg => ?_⟩
  · simp only at hg
    subst hg
    simp only [if_true] at h3 h4
    show fI size x = true
    unfold fI
    exact decide_eq_true ⟨hs.1, hs.2, by omega, by omega⟩
  · simp only at hg
    subst hg
    simp only [Bool.false_eq_true, if_false] at h3 h4
    have hx0 : 0 ≤ x := by omega
    have hun : un x = x.toNat ∨ True := .inr trivial
    refine ⟨?_, hx0⟩
    unfold fU un
    rcases fits_cases h1 with rfl | rfl | rfl | rfl | rfl | rfl | rfl | rfl
    all_goals
      simp at h4
      simp
      omega

theorem wtr_below {w w' : World} {g : Nat} {v : Value} {l : List UInt8} {bad : Bool} (h : Wtr w g v l bad) (ha : Aw (Foot g v) w w') : Below g w w' :=
  ⟨ha.os, ha.tape, ha.output, ha.size, fun k hk => ha.block k (Nat.lt_trans hk h.lt) (fun hf => by have := (h.foot hf).1; omega)⟩
theorem way_at (a b : Value) (w : World) : (Instr.field 185 (.agg #[a, b]) 0).run Tryz.prog w = .ok a w ∧ (Instr.field 185 (.agg #[a, b]) 1).run Tryz.prog w = .ok b w := by
  constructor
  · simp [Instr.field, Sem.run_bind, run_underlying Tryz.underlying185, asAgg, part, isAgg, run_underlying Tryz.underlying182]
  · simp [Instr.field, Sem.run_bind, run_underlying Tryz.underlying185, asAgg, part, isAgg, run_underlying Tryz.underlying183]
set_option maxRecDepth 10000 in
set_option maxHeartbeats 4000000 in
theorem shPut_go (A : Option Addr) (n c B : Nat) (l : List FieldV) (A' : Option Addr) (c' B' : Nat) (vs : List Int) (w : World) (h : RdF w B A n c l) (hB : B ≤ w.heap.size) (h' : Rd w B' 1 A' n c' (vs.map (Value.int .i64))) (hB' : B' ≤ w.heap.size) (hn : n ≤ 100000) (hvb : ∀ x ∈ vs, -9223372036854775808 ≤ x ∧ x ≤ 9223372036854775807) (hr : rightL l = true) :
    Calls Tryz.prog 115 #[.slice A n c, .slice A' n c'] w (RetPS w (shP l vs) (shE l vs)) := by
  have hle := h.2.1
  have hlv : vs.length = n := by have := h'.len; simpa using this
  have Hl := Lib.hid h.1
  have Hlv := Lib.hid hlv
  have Hr := Lib.hid hr
  have hright := shRight_any A n c B l w h hB
  rw [hr] at hright
  have hE : shE l vs = if inAll l vs = true then 0 else 5 := by unfold shE; rw [if_pos ⟨hr, by rw [hlv, h.1]⟩]
  have HE := Lib.hid hE
  obtain ⟨oE, hoE⟩ : ∃ oE, oE = shE l vs := ⟨_, rfl⟩
  obtain ⟨oP, hoP⟩ : ∃ oP, oP = shP l vs := ⟨_, rfl⟩
  rw [← hoE, ← hoP]
  have HoE := Lib.hid hoE
  have HoP := Lib.hid hoP
  have Hvb := Lib.hid hvb
  clear hr hlv hE hoE hoP hvb
  go_enter Tryz.func115, Tryz.ntmps115
  go_wp2_with fail
  go_fit hright
  rintro e w1 ⟨rfl, hb1⟩
  go_wp2_with fail
  go_fit (wMake_any w1)
  rintro e w2 ⟨rfl, hw2, hb12⟩
  have hb2 := bnx hb1 hb12
  have hlow := hb1.size
  generalize w1.heap.size = g at *
  clear hb1 hb12 hright
  go_wp2_with fail
  go_loopw [22] (fun i wr => ∃ (k : Nat) (v : Value) (lw : List UInt8), k ≤ n ∧ i = .int .i64 k ∧ Wtr wr g v lw false ∧ Below w.heap.size w wr ∧ lw.length ≤ k * 8 ∧ Hid (lw = ((l.zip vs).take k).flatMap fun p => bytesN p.1.size.toNat (un p.2)) ∧ Hid (((l.zip vs).take k).all (fun p => inF p.1 p.2) = true)) (fun i _ => n - (intOf i).toNat)
  case atStart => exact ⟨0, .slice none 0 0, [], by omega, rfl, hw2, hb2, by simp, Lib.hid rfl, Lib.hid rfl⟩
  case round =>
    clear hw2 hb2 w2
    obtain ⟨k, v, lw, hk, rfl, hw, hb, hlw, hlB, hall⟩ := hrel
    by_cases hlt : k < n
    · obtain ⟨gf, off, f, rfl, hgf, hx, h1, h2, h3, h4, _⟩ := (h.up (hb.mono hB)).at_ hlt
      obtain ⟨adv, uv, rfl, hu, hcv⟩ := h'.one hlt
      obtain ⟨x, hxx, rfl⟩ : ∃ x, vs[k]? = some x ∧ Value.int .i64 x = uv := by simpa using hu
      have hadv : adv.block < B' := by
        obtain ⟨ad', e', hb', _⟩ := h'.at_ (by omega)
        injection e' with e'
        rw [e']; exact hb'
      have hrf := List.all_eq_true.1 Hr.out _ (List.mem_of_getElem? hx)
      have hzs := zip_take_succ hx hxx
      have Hfit := Lib.hid (fun hin => in_fits (x := x) hrf hin)
      have Hs := Lib.hid hzs
      have hm : (f, x) ∈ l.zip vs := List.mem_of_getElem? (i := k) (by rw [List.getElem?_zip_eq_some]; exact ⟨hx, hxx⟩)
      have Hm := Lib.hid hm
      have Hxb := Lib.hid (Hvb.out x (List.mem_of_getElem? hxx))
      clear hu hxx hx hzs hm
      have hin := fun w => shin_any f x w
      have hof := fun w => shof_any f w
      obtain ⟨size, sg, lo, hi⟩ := f
      simp only at h1 h2 h3 h4 hof Hfit Hs
      unfold fv at hin hof
      simp only at hin hof
      have Hin := Lib.hid hin
      have Hof := Lib.hid hof
      clear hin hof
      have hb3 := hb.alloc hb.size (.cells #[.int .i64 size, .bool sg, .int .i64 lo, .int .i64 hi] 130)
      have hbox := heap_alloc_new wr (.cells #[.int .i64 size, .bool sg, .int .i64 lo, .int .i64 hi] 130)
      have hw3 := hw.keep ((Aw.refl (fun _ => False) wr).alloc (.cells #[.int .i64 size, .bool sg, .int .i64 lo, .int .i64 hi] 130)) (fun _ _ h => h)
      have hgl : g < wr.heap.size := hw.lt
      go_wp2_with fail
      clear hb hw h1 h2 h3 h4
      replace hbox : (wr.alloc (.cells #[.int .i64 size, .bool sg, .int .i64 lo, .int .i64 hi] 130)).drew.heap[wr.heap.size]? = _ := hbox
      replace hb3 := hb3.drew
      replace hw3 := hw3.keep ((Aw.refl (fun _ => False) _).drew) (fun _ _ h => h)
      refine Ord.region_ (fun w' => Below w.heap.size w w') true [27] (by kernel_rfl) (by kernel_rfl) hb3 ?_
      generalize (wr.alloc (.cells #[.int .i64 size, .bool sg, .int .i64 lo, .int .i64 hi] 130)).drew = w3 at *
      have hrow : w3.rangeAt wr.heap.size 0 [.int .i64 size, .bool sg, .int .i64 lo, .int .i64 hi] := own_range hbox 0 (fun j v hv => by simpa using hv)
      repeat (first | (refine Ord.e_p (v := ?_) rfl (by rfl) ?_ ?_; rotate_left; · (intro w2; go_simp; try with_reducible rfl)) | (refine Ord.e_u (by rfl) ?_)); (try simp only [Act.put, List.setIfInBounds_toArray, List.set_cons_zero, List.set_cons_succ])
      refine Ord.e_row Tryz.underlying130 rfl (by kernel_rfl) rfl hrow (by rfl) (by rfl) ?_
      (try simp only [Act.put, List.setIfInBounds_toArray, List.set_cons_zero, List.set_cons_succ])
      repeat (first | (refine Ord.e_p (v := ?_) rfl (by rfl) ?_ ?_; rotate_left; · (intro w2; go_simp; try with_reducible rfl)) | (refine Ord.e_u (by rfl) ?_)); (try simp only [Act.put, List.setIfInBounds_toArray, List.set_cons_zero, List.set_cons_succ])
      refine Ord.e_loadS Tryz.underlying2 rfl (fun w' hS => ((show Below _ w w' from hS).cell (p := adv.add k) (by rw [blk_add]; omega)).trans hcv) hb3 rfl (by rfl) ?_
      (try simp only [Act.put, List.setIfInBounds_toArray, List.set_cons_zero, List.set_cons_succ])
      repeat (first | (refine Ord.e_p (v := ?_) rfl (by rfl) ?_ ?_; rotate_left; · (intro w2; go_simp; try with_reducible rfl)) | (refine Ord.e_u (by rfl) ?_)); (try simp only [Act.put, List.setIfInBounds_toArray, List.set_cons_zero, List.set_cons_succ])
      refine Ord.e_x rfl (by rfl) ?_
      go_wp2_with fail
      go_fit (Hin.out _)
      rintro e w4 ⟨rfl, hb4⟩
      have hb4' := bnx hb3 hb4
      go_wp2_with fail
      refine Ord.Seg.go hb4' (fun _ => hb4) ?_
      (try simp only [Act.put, List.setIfInBounds_toArray, List.set_cons_zero, List.set_cons_succ])
      repeat (first | (refine Ord.e_p (v := ?_) rfl (by rfl) ?_ ?_; rotate_left; · (intro w2; go_simp; try with_reducible rfl)) | (refine Ord.e_u (by rfl) ?_)); (try simp only [Act.put, List.setIfInBounds_toArray, List.set_cons_zero, List.set_cons_succ])
      refine Ord.e_nil ?_
      replace hbox := blk_old hbox hb4 (blk_lt hbox)
      replace hw3 := hw3.keep (Aw.of_below' (U := fun _ => False) hb4) (fun _ _ h => h)
      clear hrow hb3 hb4
      cases hin : inF ⟨size, sg, lo, hi⟩ x with
      | false =>
        have hna : inAll (l.take 0 ++ l) vs = false := by
          unfold inAll
          rw [List.take_zero, List.nil_append, List.all_eq_false]
          exact ⟨_, Hm.out, by rw [hin]; simp⟩
        rw [List.take_zero, List.nil_append] at hna
        obtain rfl : oE = 5 := by rw [HoE.out, HE.out, if_neg (by rw [hna]; simp)]
        obtain rfl : oP = [] := by rw [HoP.out]; unfold shP; rw [if_neg (by rw [← HoE.out]; simp)]
        clear hna hin
        go_wp2
        go_ret2
        exact ⟨none, 0, 0, rfl, World.ownsRow_nil _ _ _ _, hb4'⟩
      | true =>
        have HIN := Lib.hid hin
        have Hf2 := Lib.hid (Hfit.out hin)
        have hs1 : 1 ≤ size := Hf2.out.1
        have hs8 : size ≤ 8 := Hf2.out.2.1
        clear hin Hfit
        go_wp2_with fail
        replace hbox : w4.drew.heap[wr.heap.size]? = _ := hbox
        replace hb4' := hb4'.drew
        replace hw3 := hw3.keep ((Aw.refl (fun _ => False) _).drew) (fun _ _ h => h)
        refine Ord.region_at [0, 3, 4, 5, 6, 7, 8, 9, 1, 2, 10] (fun w' => Below w.heap.size w w') true [34, 39, 44] (by kernel_rfl) (by kernel_rfl) rfl hb4' ?_
        simp only [Ord.lst, List.filterMap_cons, List.filterMap_nil, List.getElem?_toArray, List.getElem?_cons_succ, List.getElem?_cons_zero]
        generalize w4.drew = w5 at *
        have hrow : w5.rangeAt wr.heap.size 0 [.int .i64 size, .bool sg, .int .i64 lo, .int .i64 hi] := own_range hbox 0 (fun j v hv => by simpa using hv)
        have c0 := blk_cell (i := 0) (v := .int .i64 size) hbox rfl
        repeat (first | (refine Ord.e_p (v := ?_) rfl (by rfl) ?_ ?_; rotate_left; · (intro w2; go_simp; try with_reducible rfl)) | (refine Ord.e_u (by rfl) ?_)); (try simp only [Act.put, List.setIfInBounds_toArray, List.set_cons_zero, List.set_cons_succ])
        refine Ord.e_row Tryz.underlying130 rfl (by kernel_rfl) rfl hrow (by rfl) (by rfl) ?_
        (try simp only [Act.put, List.setIfInBounds_toArray, List.set_cons_zero, List.set_cons_succ])
        repeat (first | (refine Ord.e_p (v := ?_) rfl (by rfl) ?_ ?_; rotate_left; · (intro w2; go_simp; try with_reducible rfl)) | (refine Ord.e_u (by rfl) ?_)); (try simp only [Act.put, List.setIfInBounds_toArray, List.set_cons_zero, List.set_cons_succ])
        refine Ord.e_load Tryz.underlying3 rfl c0 rfl (by rfl) (by rfl) ?_
        (try simp only [Act.put, List.setIfInBounds_toArray, List.set_cons_zero, List.set_cons_succ])
        repeat (first | (refine Ord.e_p (v := ?_) rfl (by rfl) ?_ ?_; rotate_left; · (intro w2; go_simp; try with_reducible rfl)) | (refine Ord.e_u (by rfl) ?_)); (try simp only [Act.put, List.setIfInBounds_toArray, List.set_cons_zero, List.set_cons_succ])
        refine Ord.e_loadS Tryz.underlying2 rfl (fun w' hS => ((show Below _ w w' from hS).cell (p := adv.add k) (by rw [blk_add]; omega)).trans hcv) hb4' rfl (by rfl) ?_
        (try simp only [Act.put, List.setIfInBounds_toArray, List.set_cons_zero, List.set_cons_succ])
        repeat (first | (refine Ord.e_p (v := ?_) rfl (by rfl) ?_ ?_; rotate_left; · (intro w2; go_simp; try with_reducible rfl)) | (refine Ord.e_u (by rfl) ?_)); (try simp only [Act.put, List.setIfInBounds_toArray, List.set_cons_zero, List.set_cons_succ])
        refine Ord.e_x rfl (by rfl) ?_
        go_wp2_with fail
        go_fit (Hof.out _)
        rintro e w5' ⟨rfl, hb55⟩
        have hb5' := bnx hb4' hb55
        have hw5 := hw3.keep (Aw.of_below' (U := fun _ => False) hb55) (fun _ _ h => h)
        clear hw3 hrow c0 hbox
        cases sg with
        | true =>
          have hfI : fI size x = true := (Hf2.out.2.2.1 rfl)
          have HfI := Lib.hid hfI
          rw [show ofV true = .agg #[.func (.func 132) #[] #[], .func (.func 133) #[] #[]] from rfl]
          go_wp2_with fail
          refine Ord.Seg.go hb5' (fun _ => hb55) ?_
          (try simp only [Act.put, List.setIfInBounds_toArray, List.set_cons_zero, List.set_cons_succ])
          clear hfI hb55 hb4'
          have hway := fun w => (way_at (.func (.func 132) #[] #[]) (.func (.func 133) #[] #[]) w).1
          repeat (first | (refine Ord.e_p (v := ?_) rfl (by rfl) ?_ ?_; rotate_left; · (intro w2; go_simp; try with_reducible rfl)) | (refine Ord.e_u (by rfl) ?_)); (try simp only [Act.put, List.setIfInBounds_toArray, List.set_cons_zero, List.set_cons_succ])
          refine Ord.e_x rfl (by rfl) ?_
          go_wp2_with fail
          go_fit (wI_any g v lw false size x w5' hw5 Hxb.out (by omega))
          rintro e w6 ⟨rfl, v6, hw6, ha6, _⟩
          have hb6 := hb5'.trans ((wtr_below hw5 ha6).mono hlow)
          rw [HfI.out] at hw6
          go_wp2_with fail
          refine Ord.Seg.go hb6 (fun h => by cases h) ?_
          (try simp only [Act.put, List.setIfInBounds_toArray, List.set_cons_zero, List.set_cons_succ])
          refine Ord.e_nil ?_
          clear hw5 ha6 hb5'
          go_wp2
          go_roundw
          case rel =>
            refine ⟨k + 1, v6, _, by omega, by go_num, hw6, hb6, ?_, Lib.hid ?_, Lib.hid ?_⟩
            · show (lw ++ bytesN size.toNat (un x)).length ≤ _
              rw [List.length_append, bytesN_len]; omega
            · show lw ++ bytesN size.toNat (un x) = _
              rw [Hs.out, List.flatMap_append, ← hlB.out]; simp
            · rw [Hs.out, List.all_append, hall.out]; simp [HIN.out]
          case measure => simp [intOf]; omega
        | false =>
          have hfU : fU size (un x) = true := (Hf2.out.2.2.2 rfl).1
          have HfU := Lib.hid hfU
          rw [show ofV false = .agg #[.func (.func 136) #[] #[], .func (.func 137) #[] #[]] from rfl]
          go_wp2_with fail
          refine Ord.Seg.go hb5' (fun _ => hb55) ?_
          (try simp only [Act.put, List.setIfInBounds_toArray, List.set_cons_zero, List.set_cons_succ])
          clear hfU hb55 hb4'
          have hway := fun w => (way_at (.func (.func 136) #[] #[]) (.func (.func 137) #[] #[]) w).1
          repeat (first | (refine Ord.e_p (v := ?_) rfl (by rfl) ?_ ?_; rotate_left; · (intro w2; go_simp; try with_reducible rfl)) | (refine Ord.e_u (by rfl) ?_)); (try simp only [Act.put, List.setIfInBounds_toArray, List.set_cons_zero, List.set_cons_succ])
          refine Ord.e_x rfl (by rfl) ?_
          go_wp2_with fail
          go_fit (shplain1_any g v lw false size x w5' hw5 (by omega))
          rintro e w6 ⟨rfl, v6, hw6, ha6, _⟩
          have hb6 := hb5'.trans ((wtr_below hw5 ha6).mono hlow)
          rw [HfU.out] at hw6
          go_wp2_with fail
          refine Ord.Seg.go hb6 (fun h => by cases h) ?_
          (try simp only [Act.put, List.setIfInBounds_toArray, List.set_cons_zero, List.set_cons_succ])
          refine Ord.e_nil ?_
          clear hw5 ha6 hb5'
          go_wp2
          go_roundw
          case rel =>
            refine ⟨k + 1, v6, _, by omega, by go_num, hw6, hb6, ?_, Lib.hid ?_, Lib.hid ?_⟩
            · show (lw ++ bytesN size.toNat (un x)).length ≤ _
              rw [List.length_append, bytesN_len]; omega
            · show lw ++ bytesN size.toNat (un x) = _
              rw [Hs.out, List.flatMap_append, ← hlB.out]; simp
            · rw [Hs.out, List.all_append, hall.out]; simp [HIN.out]
          case measure => simp [intOf]; omega
    · obtain rfl : k = n := by omega
      have ht : (l.zip vs).take k = l.zip vs := List.take_of_length_le (by rw [List.length_zip, Hl.out, Hlv.out]; omega)
      rw [ht] at hall hlB
      have hall2 : inAll l vs = true := hall.out
      obtain rfl : oE = 0 := by rw [HoE.out, HE.out, if_pos hall2]
      obtain rfl : oP = lw := by rw [HoP.out, hlB.out]; unfold shP; rw [if_pos HoE.out.symm]; rfl
      clear ht
      go_wp2_with fail
      go_fit (wBytes_any g v oP false wr hw (by omega))
      rintro e w5 ⟨A5, c5, n5, rfl, hown5, hb5⟩
      go_wp2
      go_ret2
      exact ⟨A5, n5, c5, rfl, own_mono hown5 hb.size, bnx hb hb5⟩

set_option maxHeartbeats 1000000 in
theorem shPut_any (A : Option Addr) (n c B : Nat) (l : List FieldV) (A' : Option Addr) (n' c' B' : Nat) (vs : List Int) (w : World) (h : RdF w B A n c l) (hB : B ≤ w.heap.size) (h' : Rd w B' 1 A' n' c' (vs.map (Value.int .i64))) (hB' : B' ≤ w.heap.size) (hn : n ≤ 100000) (hvb : ∀ x ∈ vs, -9223372036854775808 ≤ x ∧ x ≤ 9223372036854775807) :
    Calls Tryz.prog 115 #[.slice A n c, .slice A' n' c'] w (RetPS w (shP l vs) (shE l vs)) := by
  have hlv : vs.length = n' := by have := h'.len; simpa using this
  have hright := shRight_any A n c B l w h hB
  cases hr : rightL l with
  | false =>
    have e1 : shE l vs = 1 := by unfold shE; rw [if_neg (by rw [hr]; simp)]
    rw [show shP l vs = [] by unfold shP; rw [e1]; rfl, e1]
    rw [hr] at hright
    clear hr e1 hlv
    go_enter Tryz.func115, Tryz.ntmps115
    go_wp2_with fail
    go_fit hright
    rintro e w1 ⟨rfl, hb1⟩
    go_wp2
    go_ret2
    exact ⟨none, 0, 0, rfl, World.ownsRow_nil _ _ _ _, hb1⟩
  | true =>
    by_cases hnn : n' = n
    · subst hnn
      exact shPut_go A n' c B l A' c' B' vs w h hB h' hB' hn hvb hr
    · have e1 : shE l vs = 1 := by unfold shE; rw [if_neg (by rw [hlv, h.1]; intro hh; exact hnn hh.2)]
      rw [show shP l vs = [] by unfold shP; rw [e1]; rfl, e1]
      rw [hr] at hright
      have hnn' : ¬ (n' : Int) = (n : Int) := by omega
      clear hr e1 hlv hnn
      go_enter Tryz.func115, Tryz.ntmps115
      go_wp2_with fail
      go_fit hright
      rintro e w1 ⟨rfl, hb1⟩
      go_wp2
      go_ret2
      exact ⟨none, 0, 0, rfl, World.ownsRow_nil _ _ _ _, hb1⟩

end Go.Proofs.YtmkidihcdljkiaaGreat

/-
  shape.Take walked.
-/
set_option linter.unusedSimpArgs false
set_option linter.unusedVariables false
namespace Go.Proofs.YtmkidihcdljkiaaGreat
open Go.RowKit NumLaw
attribute [local go_sem] Addr.add_mid

theorem foldl_add (l : List Nat) : ∀ a, l.foldl (· + ·) a = a + l.foldl (· + ·) 0 := by
  induction l with
  | nil => intro a; simp
  | cons x l ih => intro a; simp only [List.foldl_cons]; rw [ih (a + x), ih (0 + x)]; omega
theorem sumL_cons (f : FieldV) (l : List FieldV) : sumL (f :: l) = f.size.toNat + sumL l := by
  simp only [sumL, List.map_cons, List.foldl_cons]
  rw [foldl_add]; omega
/-- A field's number, of its bytes. -/
def fieldV (f : FieldV) (b : List UInt8) : Int := if f.sg = true then sgn f.size.toNat (num b) else sg64 (num b)
def takeV : List FieldV → List UInt8 → List Int
  | [], _ => []
  | f :: l, b => fieldV f (b.take f.size.toNat) :: takeV l (b.drop f.size.toNat)
def shTE (l : List FieldV) (b : List UInt8) : Nat := if rightL l = true then if b.length < sumL l then 2 else if sumL l < b.length then 7 else if inAll l (takeV l b) = true then 0 else 5 else 1
def shT (l : List FieldV) (b : List UInt8) : List Int := if shTE l b = 0 then takeV l b else []
theorem i64_info : (Tryz.prog.info? 2).map (fun i => (i.zero, i.size, i.bytes)) = some (some (.int .i64 0), 1, 8) := by kernel_rfl
end Go.Proofs.YtmkidihcdljkiaaGreat
