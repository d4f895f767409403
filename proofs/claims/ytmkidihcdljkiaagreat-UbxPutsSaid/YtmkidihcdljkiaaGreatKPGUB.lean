/-
  Several texts in one: Ubx10 Ubx12.
-/
import Derived.Test.YtmkidihcdljkiaaGreatKPUbx5
import Derived.Test.YtmkidihcdljkiaaGreatKPUbx2
import Derived.Test.YtmkidihcdljkiaaGreatKPGSV
import Derived.Test.YtmkidihcdljkiaaGreatKPGVD
import Derived.Laws.StructEq
import Derived.Test.YtmkidihcdljkiaaGreatKPUbx9
/-
  The document's Same; num, Few of layer 21 (printed by gen_ubx10.py).
-/
set_option linter.unusedSimpArgs false
set_option linter.unusedVariables false
namespace Go.Proofs.YtmkidihcdljkiaaGreat
open Go.RowKit NumLaw
attribute [local go_sem] Addr.add_mid
attribute [-go_sem] run_eql_struct

theorem num21_any (n : Int) (w : World) : Calls Tryz.prog 13 #[.int .i64 n] w fun e w' => e = .returned (.int .i64 n) ∧ w = w' := by
  go_enter Tryz.func13, Tryz.ntmps13
  go_wp2
  go_ret
  exact ⟨rfl, rfl⟩
theorem wpList_load_midG {P : Program} {ops : Array Oper} {rest : List Oper} {op : Oper} {a : Act} {w : World} {Q : Exit → Act → World → Prop} (hw : Region.wanted op (yielded ops a.tmps) = true) (ty : TypeId) (x : Operand) (ho : op.op = .load ty x)
    (b o : Nat) (hx : a.eval x = .pointer (some ⟨b, o, none⟩)) (cs : List Value) (d : TypeDesc) (hc : w.rangeAt b o cs)
    (hu : P.underlying ty = some d) (hd : d.isRow = true) (hi : (P.info? ty).map (·.size) = some cs.length)
    (h : wpList P ops Q rest (a.put op.dst (.agg cs.toArray)) w) : wpList P ops Q (op :: rest) a w := by
  unfold wpList
  rw [if_pos hw]
  exact .inl (wp_load_mid ty x ho b o hx cs d hc hu hd hi h)
theorem ub_part (xs : List Int) (o : Nat) (x : Int) (w : World) (h : xs[o]? = some x) : (part 2 (i64s xs).toArray o).run Tryz.prog w = .ok (.int .i64 x) w := by
  have h' : (i64s xs).toArray[o]? = some (.int .i64 x) := by simp [i64s, h]
  simp [part, isAgg, run_underlying Tryz.underlying2, h']
theorem ub_eqF (xs : List Int) (d : Nat) (w : World) : ∀ (fs : List Field), (∀ f ∈ fs, f.type = 2 ∧ f.offset < xs.length) → (Op.eqFields (d + 1) (i64s xs).toArray (i64s xs).toArray fs).run Tryz.prog w = .ok true w
  | [], _ => by simp [Op.eqFields]
  | f :: fs, h => by
    obtain ⟨ht, ho⟩ := h f List.mem_cons_self
    have ih := ub_eqF xs d w fs (fun g hg => h g (List.mem_cons_of_mem _ hg))
    have hp := ub_part xs f.offset xs[f.offset] w (List.getElem?_eq_getElem ho)
    simp only [Op.eqFields, ht]
    split
    · simp only [Sem.run_bind, hp, Result.andThen_ok, run_equalIn_int w _ _ _ _ _ _ Tryz.underlying2, beq_self_eq_true, Bool.not_true, Bool.false_eq_true, if_false, Sem.run_ite]
      exact ih
    · exact ih
theorem pvt_sameU (xs : List Int) (hl : xs.length = 32) (w : World) : (binOp .eql 23 (.agg (i64s xs).toArray) (.agg (i64s xs).toArray)).run Tryz.prog w = .ok (.bool true) w := by
  have hf : (Tryz.prog.fieldsOf 23).toList.all (fun f => f.type == 2 && decide (f.offset < 32)) = true := by kernel_rfl
  rw [run_eql_struct, run_equalIn_agg w 9999 _ _ _ (by simp only [Program.fieldsOf, Tryz.underlying23]) (by kernel_rfl)]
  rw [ub_eqF xs 9998 w _ (fun f h => by
    have := List.all_eq_true.1 hf f h
    simp at this
    exact ⟨this.1, by omega⟩)]
  rfl
theorem dop_sameU (xs : List Int) (hl : xs.length = 8) (w : World) : (binOp .eql 28 (.agg (i64s xs).toArray) (.agg (i64s xs).toArray)).run Tryz.prog w = .ok (.bool true) w := by
  have hf : (Tryz.prog.fieldsOf 28).toList.all (fun f => f.type == 2 && decide (f.offset < 8)) = true := by kernel_rfl
  rw [run_eql_struct, run_equalIn_agg w 9999 _ _ _ (by simp only [Program.fieldsOf, Tryz.underlying28]) (by kernel_rfl)]
  rw [ub_eqF xs 9998 w _ (fun f h => by
    have := List.all_eq_true.1 hf f h
    simp at this
    exact ⟨this.1, by omega⟩)]
  rfl
theorem ack_sameL (y : Bool) (a b : Int) (w : World) : (binOp .eql 30 (.agg (acS y a b).toArray) (.agg (acS y a b).toArray)).run Tryz.prog w = .ok (.bool true) w := by
  rw [run_eql_struct, run_equalIn_agg w 9999 _ _ _ (by simp only [Program.fieldsOf, Tryz.underlying30]) (by kernel_rfl)]
  simp [acS, Program.fieldsOf, Tryz.underlying30, Op.eqFields, part, run_equalIn_int w _ _ _ _ _ _ Tryz.underlying2, run_equalIn_bool' w _ _ _ _ Tryz.underlying4]
set_option maxRecDepth 10000 in
set_option maxHeartbeats 4000000 in
theorem sameub_any (V : UbV) (a a' : UbA) (w : World) (hp : V.p.length = 32) (hd : V.d.length = 8) (hl : ∀ s ∈ V.l, s.length = 7) (h : UbR w w.heap.size V a) (h' : UbR w w.heap.size V a') :
    Calls Tryz.prog 14 #[.agg (ubL V a).toArray, .agg (ubL V a').toArray] w fun e w' => e = .returned (.bool true) ∧ Below w.heap.size w w' := by
  obtain ⟨x0, x1, hs, hb⟩ := al2 w (.cells (ubL V a).toArray 35) (.cells (ubL V a').toArray 35)
  have hx : UbB ((w.alloc (.cells (ubL V a).toArray 35)).alloc (.cells (ubL V a').toArray 35)) w.heap.size V a := x0
  have hy : UbB ((w.alloc (.cells (ubL V a).toArray 35)).alloc (.cells (ubL V a').toArray 35)) (w.heap.size + 1) V a' := x1
  have hr := (h.up hb).more hb.size
  have hr' := (h'.up hb).more hb.size
  have hqp : ∀ w, (binOp .eql 23 (.agg (i64s V.p).toArray) (.agg (i64s V.p).toArray)).run Tryz.prog w = .ok (.bool true) w := pvt_sameU V.p hp
  have hqd := dop_sameU V.d hd
  have hqa := ack_sameL V.y V.a1 V.a2
  have Hip : Hid ((Tryz.prog.info? 23).map (·.size) = some (i64s V.p).length) := Lib.hid (by rw [i64s_len, hp]; kernel_rfl)
  have Hid_ : Hid ((Tryz.prog.info? 28).map (·.size) = some (i64s V.d).length) := Lib.hid (by rw [i64s_len, hd]; kernel_rfl)
  have hn : a.n = a'.n := by have e1 := h.s.1; have e2 := h'.s.1; omega
  have hn' : a.n' = a'.n' := by have e1 := h.q.1; have e2 := h'.q.1; omega
  have Hs17 := Lib.hid (fun w1 (h1 : RdR w1 w1.heap.size 7 a.A a.n a.c (V.l.map saC)) (h2 : RdR w1 w1.heap.size 7 a'.A a'.n a'.c (V.l.map saC)) => same17_any V.t a.A a'.A a.n a.c a'.c V.l w1 h1 (by rw [hn]; exact h2) hl)
  rw [show ∀ x : Option Addr, Value.slice x a.n a'.c = Value.slice x a'.n a'.c from fun x => by rw [hn]] at Hs17
  have Hs20 := Lib.hid (fun w1 (h1 : RdR w1 w1.heap.size 2 a.A' a.n' a.c' (V.q.map prC)) (h2 : RdR w1 w1.heap.size 2 a'.A' a'.n' a'.c' (V.q.map prC)) => same20_any V.la a.A' a'.A' a.n' a.c' a'.c' V.q w1 h1 (by rw [hn']; exact h2))
  rw [show ∀ x : Option Addr, Value.slice x a.n' a'.c' = Value.slice x a'.n' a'.c' from fun x => by rw [hn']] at Hs20
  clear hn hn'
  have Hp := Lib.hid hp
  have Hd := Lib.hid hd
  have Hl := Lib.hid hl
  clear x0 x1 h h' hp hd hl
  go_enter Tryz.func14, Tryz.ntmps14
  go_wp2_with (with_reducible refine stop_loadT 3 ?_)
  generalize ((w.alloc (.cells (ubL V a).toArray 35)).alloc (.cells (ubL V a').toArray 35)) = w1 at *
  have c0 := hx.kc
  have c1 := hy.kc
  refine go_ ?_
  go_wp2_with (first | (with_reducible refine stop_loadT 23 ?_) | (with_reducible refine stop_storeT 23 ?_) | (with_reducible refine stop_loadG 23 ?_) | (with_reducible refine stop_loadT 26 ?_) | (with_reducible refine stop_storeT 26 ?_) | (with_reducible refine stop_loadG 26 ?_) | (with_reducible refine stop_loadT 28 ?_) | (with_reducible refine stop_storeT 28 ?_) | (with_reducible refine stop_loadG 28 ?_) | (with_reducible refine stop_loadT 30 ?_) | (with_reducible refine stop_storeT 30 ?_) | (with_reducible refine stop_loadG 30 ?_) | (with_reducible refine stop_loadT 33 ?_) | (with_reducible refine stop_storeT 33 ?_) | (with_reducible refine stop_loadG 33 ?_))
  refine go_ (wpList_load_midG (by kernel_rfl) _ _ rfl (w.heap.size) 1 rfl _ _ (hx.pr Hp.out) Tryz.underlying23 rfl (Hip.out) ?_)
  go_wp2_with (first | (with_reducible refine stop_loadT 23 ?_) | (with_reducible refine stop_storeT 23 ?_) | (with_reducible refine stop_loadG 23 ?_) | (with_reducible refine stop_loadT 26 ?_) | (with_reducible refine stop_storeT 26 ?_) | (with_reducible refine stop_loadG 26 ?_) | (with_reducible refine stop_loadT 28 ?_) | (with_reducible refine stop_storeT 28 ?_) | (with_reducible refine stop_loadG 28 ?_) | (with_reducible refine stop_loadT 30 ?_) | (with_reducible refine stop_storeT 30 ?_) | (with_reducible refine stop_loadG 30 ?_) | (with_reducible refine stop_loadT 33 ?_) | (with_reducible refine stop_storeT 33 ?_) | (with_reducible refine stop_loadG 33 ?_))
  refine go_ (wpList_load_midG (by kernel_rfl) _ _ rfl (w.heap.size + 1) 1 rfl _ _ (hy.pr Hp.out) Tryz.underlying23 rfl (Hip.out) ?_)
  go_wp2_with (first | (with_reducible refine stop_loadT 23 ?_) | (with_reducible refine stop_storeT 23 ?_) | (with_reducible refine stop_loadG 23 ?_) | (with_reducible refine stop_loadT 26 ?_) | (with_reducible refine stop_storeT 26 ?_) | (with_reducible refine stop_loadG 26 ?_) | (with_reducible refine stop_loadT 28 ?_) | (with_reducible refine stop_storeT 28 ?_) | (with_reducible refine stop_loadG 28 ?_) | (with_reducible refine stop_loadT 30 ?_) | (with_reducible refine stop_storeT 30 ?_) | (with_reducible refine stop_loadG 30 ?_) | (with_reducible refine stop_loadT 33 ?_) | (with_reducible refine stop_storeT 33 ?_) | (with_reducible refine stop_loadG 33 ?_))
  refine go_ (wpList_load_midG (by kernel_rfl) _ _ rfl (w.heap.size) 33 rfl _ _ (hx.sr Hp.out) Tryz.underlying26 rfl (by kernel_rfl) ?_)
  go_wp2_with (first | (with_reducible refine stop_loadT 23 ?_) | (with_reducible refine stop_storeT 23 ?_) | (with_reducible refine stop_loadG 23 ?_) | (with_reducible refine stop_loadT 26 ?_) | (with_reducible refine stop_storeT 26 ?_) | (with_reducible refine stop_loadG 26 ?_) | (with_reducible refine stop_loadT 28 ?_) | (with_reducible refine stop_storeT 28 ?_) | (with_reducible refine stop_loadG 28 ?_) | (with_reducible refine stop_loadT 30 ?_) | (with_reducible refine stop_storeT 30 ?_) | (with_reducible refine stop_loadG 30 ?_) | (with_reducible refine stop_loadT 33 ?_) | (with_reducible refine stop_storeT 33 ?_) | (with_reducible refine stop_loadG 33 ?_))
  refine go_ (wpList_load_midG (by kernel_rfl) _ _ rfl (w.heap.size + 1) 33 rfl _ _ (hy.sr Hp.out) Tryz.underlying26 rfl (by kernel_rfl) ?_)
  go_wp2_with fail
  go_fit (Hs17.out w1 hr.s hr'.s)
  rintro e w2 ⟨rfl, hb2⟩
  replace hx := hx.old hb2 (blk_lt hx)
  replace hy := hy.old hb2 (blk_lt hy)
  replace hr := (hr.up hb2).more hb2.size
  replace hr' := (hr'.up hb2).more hb2.size
  replace hb := bnx hb hb2
  clear hb2 c0 c1
  generalize w2 = w1 at *
  go_wp2_with (first | (with_reducible refine stop_loadT 23 ?_) | (with_reducible refine stop_storeT 23 ?_) | (with_reducible refine stop_loadG 23 ?_) | (with_reducible refine stop_loadT 26 ?_) | (with_reducible refine stop_storeT 26 ?_) | (with_reducible refine stop_loadG 26 ?_) | (with_reducible refine stop_loadT 28 ?_) | (with_reducible refine stop_storeT 28 ?_) | (with_reducible refine stop_loadG 28 ?_) | (with_reducible refine stop_loadT 30 ?_) | (with_reducible refine stop_storeT 30 ?_) | (with_reducible refine stop_loadG 30 ?_) | (with_reducible refine stop_loadT 33 ?_) | (with_reducible refine stop_storeT 33 ?_) | (with_reducible refine stop_loadG 33 ?_))
  refine go_ (wpList_load_midG (by kernel_rfl) _ _ rfl (w.heap.size) 35 rfl _ _ (hx.dr Hp.out) Tryz.underlying28 rfl (Hid_.out) ?_)
  go_wp2_with (first | (with_reducible refine stop_loadT 23 ?_) | (with_reducible refine stop_storeT 23 ?_) | (with_reducible refine stop_loadG 23 ?_) | (with_reducible refine stop_loadT 26 ?_) | (with_reducible refine stop_storeT 26 ?_) | (with_reducible refine stop_loadG 26 ?_) | (with_reducible refine stop_loadT 28 ?_) | (with_reducible refine stop_storeT 28 ?_) | (with_reducible refine stop_loadG 28 ?_) | (with_reducible refine stop_loadT 30 ?_) | (with_reducible refine stop_storeT 30 ?_) | (with_reducible refine stop_loadG 30 ?_) | (with_reducible refine stop_loadT 33 ?_) | (with_reducible refine stop_storeT 33 ?_) | (with_reducible refine stop_loadG 33 ?_))
  refine go_ (wpList_load_midG (by kernel_rfl) _ _ rfl (w.heap.size + 1) 35 rfl _ _ (hy.dr Hp.out) Tryz.underlying28 rfl (Hid_.out) ?_)
  go_wp2_with (first | (with_reducible refine stop_loadT 23 ?_) | (with_reducible refine stop_storeT 23 ?_) | (with_reducible refine stop_loadG 23 ?_) | (with_reducible refine stop_loadT 26 ?_) | (with_reducible refine stop_storeT 26 ?_) | (with_reducible refine stop_loadG 26 ?_) | (with_reducible refine stop_loadT 28 ?_) | (with_reducible refine stop_storeT 28 ?_) | (with_reducible refine stop_loadG 28 ?_) | (with_reducible refine stop_loadT 30 ?_) | (with_reducible refine stop_storeT 30 ?_) | (with_reducible refine stop_loadG 30 ?_) | (with_reducible refine stop_loadT 33 ?_) | (with_reducible refine stop_storeT 33 ?_) | (with_reducible refine stop_loadG 33 ?_))
  refine go_ (wpList_load_midG (by kernel_rfl) _ _ rfl (w.heap.size) 43 rfl _ _ (hx.ar Hp.out Hd.out) Tryz.underlying30 rfl (by kernel_rfl) ?_)
  go_wp2_with (first | (with_reducible refine stop_loadT 23 ?_) | (with_reducible refine stop_storeT 23 ?_) | (with_reducible refine stop_loadG 23 ?_) | (with_reducible refine stop_loadT 26 ?_) | (with_reducible refine stop_storeT 26 ?_) | (with_reducible refine stop_loadG 26 ?_) | (with_reducible refine stop_loadT 28 ?_) | (with_reducible refine stop_storeT 28 ?_) | (with_reducible refine stop_loadG 28 ?_) | (with_reducible refine stop_loadT 30 ?_) | (with_reducible refine stop_storeT 30 ?_) | (with_reducible refine stop_loadG 30 ?_) | (with_reducible refine stop_loadT 33 ?_) | (with_reducible refine stop_storeT 33 ?_) | (with_reducible refine stop_loadG 33 ?_))
  refine go_ (wpList_load_midG (by kernel_rfl) _ _ rfl (w.heap.size + 1) 43 rfl _ _ (hy.ar Hp.out Hd.out) Tryz.underlying30 rfl (by kernel_rfl) ?_)
  go_wp2_with (first | (with_reducible refine stop_loadT 23 ?_) | (with_reducible refine stop_storeT 23 ?_) | (with_reducible refine stop_loadG 23 ?_) | (with_reducible refine stop_loadT 26 ?_) | (with_reducible refine stop_storeT 26 ?_) | (with_reducible refine stop_loadG 26 ?_) | (with_reducible refine stop_loadT 28 ?_) | (with_reducible refine stop_storeT 28 ?_) | (with_reducible refine stop_loadG 28 ?_) | (with_reducible refine stop_loadT 30 ?_) | (with_reducible refine stop_storeT 30 ?_) | (with_reducible refine stop_loadG 30 ?_) | (with_reducible refine stop_loadT 33 ?_) | (with_reducible refine stop_storeT 33 ?_) | (with_reducible refine stop_loadG 33 ?_))
  refine go_ (wpList_load_midG (by kernel_rfl) _ _ rfl (w.heap.size) 46 rfl _ _ (hx.qr Hp.out Hd.out) Tryz.underlying33 rfl (by kernel_rfl) ?_)
  go_wp2_with (first | (with_reducible refine stop_loadT 23 ?_) | (with_reducible refine stop_storeT 23 ?_) | (with_reducible refine stop_loadG 23 ?_) | (with_reducible refine stop_loadT 26 ?_) | (with_reducible refine stop_storeT 26 ?_) | (with_reducible refine stop_loadG 26 ?_) | (with_reducible refine stop_loadT 28 ?_) | (with_reducible refine stop_storeT 28 ?_) | (with_reducible refine stop_loadG 28 ?_) | (with_reducible refine stop_loadT 30 ?_) | (with_reducible refine stop_storeT 30 ?_) | (with_reducible refine stop_loadG 30 ?_) | (with_reducible refine stop_loadT 33 ?_) | (with_reducible refine stop_storeT 33 ?_) | (with_reducible refine stop_loadG 33 ?_))
  refine go_ (wpList_load_midG (by kernel_rfl) _ _ rfl (w.heap.size + 1) 46 rfl _ _ (hy.qr Hp.out Hd.out) Tryz.underlying33 rfl (by kernel_rfl) ?_)
  go_wp2_with fail
  go_fit (Hs20.out w1 hr.q hr'.q)
  rintro e w3 ⟨rfl, hb3⟩
  replace hb := bnx hb hb3
  clear hb3 hx hy hr hr'
  go_wp2
  go_ret
  exact ⟨rfl, hb⟩

set_option maxRecDepth 10000 in
set_option maxHeartbeats 1000000 in
theorem few21_yes (V : UbV) (a : UbA) (w : World) (hp : V.p.length = 32) (hd : V.d.length = 8) (h1 : a.n ≤ 70) (h2 : a.n' ≤ 40) :
    Calls Tryz.prog 6 #[.agg (ubL V a).toArray] w fun e w' => e = .returned (.bool true) ∧ Below w.heap.size w w' := by
  have hb := (Below.refl w.heap.size w).alloc (Nat.le_refl _) (.cells (ubL V a).toArray 35)
  have hx : UbB (w.alloc (.cells (ubL V a).toArray 35)) w.heap.size V a := heap_alloc_new _ _
  have cl := hx.lc hp
  have cq := hx.qc hp hd
  generalize ubL V a = l at *
  obtain ⟨A, n, c, A', n', c'⟩ := a
  simp only at cl cq h1 h2
  have g1 : (n : Int) ≤ 70 := by omega
  have g2 : (n' : Int) ≤ 40 := by omega
  clear hx hp hd
  go_enter Tryz.func6, Tryz.ntmps6
  go_wp2
  go_ret
  exact ⟨by simp [*], hb⟩

set_option maxRecDepth 10000 in
set_option maxHeartbeats 1000000 in
theorem few21_no1 (V : UbV) (a : UbA) (w : World) (hp : V.p.length = 32) (hd : V.d.length = 8) (h1 : ¬ a.n ≤ 70) :
    Calls Tryz.prog 6 #[.agg (ubL V a).toArray] w fun e w' => e = .returned (.bool false) ∧ Below w.heap.size w w' := by
  have hb := (Below.refl w.heap.size w).alloc (Nat.le_refl _) (.cells (ubL V a).toArray 35)
  have hx : UbB (w.alloc (.cells (ubL V a).toArray 35)) w.heap.size V a := heap_alloc_new _ _
  have cl := hx.lc hp
  have cq := hx.qc hp hd
  generalize ubL V a = l at *
  obtain ⟨A, n, c, A', n', c'⟩ := a
  simp only at cl cq h1
  have g1 : ¬ (n : Int) ≤ 70 := by omega

  clear hx hp hd
  go_enter Tryz.func6, Tryz.ntmps6
  go_wp2
  go_ret
  exact ⟨by simp [*], hb⟩

set_option maxRecDepth 10000 in
set_option maxHeartbeats 1000000 in
theorem few21_no2 (V : UbV) (a : UbA) (w : World) (hp : V.p.length = 32) (hd : V.d.length = 8) (h1 : a.n ≤ 70) (h2 : ¬ a.n' ≤ 40) :
    Calls Tryz.prog 6 #[.agg (ubL V a).toArray] w fun e w' => e = .returned (.bool false) ∧ Below w.heap.size w w' := by
  have hb := (Below.refl w.heap.size w).alloc (Nat.le_refl _) (.cells (ubL V a).toArray 35)
  have hx : UbB (w.alloc (.cells (ubL V a).toArray 35)) w.heap.size V a := heap_alloc_new _ _
  have cl := hx.lc hp
  have cq := hx.qc hp hd
  generalize ubL V a = l at *
  obtain ⟨A, n, c, A', n', c'⟩ := a
  simp only at cl cq h1 h2
  have g1 : (n : Int) ≤ 70 := by omega
  have g2 : ¬ (n' : Int) ≤ 40 := by omega
  clear hx hp hd
  go_enter Tryz.func6, Tryz.ntmps6
  go_wp2
  go_ret
  exact ⟨by simp [*], hb⟩

end Go.Proofs.YtmkidihcdljkiaaGreat

/-
  What must come, of layer 21 (printed by gen_ubx12.py).
-/
set_option linter.unusedSimpArgs false
set_option linter.unusedVariables false
namespace Go.Proofs.YtmkidihcdljkiaaGreat
open Go.RowKit NumLaw
attribute [local go_sem] Addr.add_mid

def kV : UbV := { ub0 with k := 4, y := true, a1 := 6, a2 := 1 }
theorem kV_ok : UbOk kV := ⟨by decide, rfl, by intro z hz; obtain ⟨_, rfl⟩ := List.mem_replicate.1 hz; omega, by decide, by simp [kV, ub0], by simp [kV, ub0], rfl, by simp [kV, ub0, d8], by decide, by decide, by decide, by simp [kV, ub0]⟩
theorem kV_bytes : ubEP kV = [181, 98, 5, 1, 2, 0, 6, 1, 15, 56] := by decide +kernel
theorem kV_err : ubEE kV = 0 := by decide +kernel
set_option maxRecDepth 10000 in
set_option maxHeartbeats 2000000 in
theorem knows21 (w : World) : Calls Tryz.prog 7 #[] w fun e w' => e = .returned (.bool true) ∧ Below w.heap.size w w' := by
  have hp : Calls Tryz.prog 10 #[.agg #[.int .i64 4, .int .i64 0, .int .i64 0, .int .i64 0, .int .i64 0, .int .i64 0, .int .i64 0, .int .i64 0, .int .i64 0, .int .i64 0, .int .i64 0, .int .i64 0, .int .i64 0, .int .i64 0, .int .i64 0, .int .i64 0, .int .i64 0, .int .i64 0, .int .i64 0, .int .i64 0, .int .i64 0, .int .i64 0, .int .i64 0, .int .i64 0, .int .i64 0, .int .i64 0, .int .i64 0, .int .i64 0, .int .i64 0, .int .i64 0, .int .i64 0, .int .i64 0, .int .i64 0, .int .i64 0, .slice none 0 0, .int .i64 0, .int .i64 0, .int .i64 0, .int .i64 0, .int .i64 0, .int .i64 0, .int .i64 0, .int .i64 0, .bool true, .int .i64 6, .int .i64 1, .int .i64 0, .slice none 0 0]] w (RetPS w (ubEP kV) (ubEE kV)) := ubEncode_any kV ua0 kV_ok w (UbR.nil _ _ _ rfl rfl)
  rw [kV_bytes, kV_err] at hp
  have Hp := Lib.hid hp
  clear hp
  go_enter Tryz.func7, Tryz.ntmps7
  go_wp2_with fail
  go_fit Hp.out
  rintro e w1 ⟨A1, n1, c1, rfl, hown1, hb1⟩
  have v1 := run_str w1 38 9 5 Tryz.underlying38 Tryz.underlying5 Tryz.underlying9 (Rd.own hown1)
  have r2 : Rd (w1.alloc (.cells #[.int .u8 181, .int .u8 98, .int .u8 5, .int .u8 1, .int .u8 2, .int .u8 0, .int .u8 6, .int .u8 1, .int .u8 15, .int .u8 56] 5)) (w1.heap.size + 1) 1 (some ⟨w1.heap.size, 0, none⟩) 10 10 (bv [181, 98, 5, 1, 2, 0, 6, 1, 15, 56]) := rd_const w1 5 [181, 98, 5, 1, 2, 0, 6, 1, 15, 56] (0, 0) (by simp [maxLen])
  have v2 := run_str _ 38 9 5 Tryz.underlying38 Tryz.underlying5 Tryz.underlying9 r2
  go_wp2_with fail
  go_fit (num21_any 0 _)
  rintro e w2 ⟨rfl, rfl⟩
  go_wp2
  go_ret
  exact ⟨rfl, hb1.alloc hb1.size _⟩

end Go.Proofs.YtmkidihcdljkiaaGreat
