/-
  Several texts in one: TlmOpen Tlm5 Tlm6.
-/
import Derived.Test.YtonejdjhdjckjaaKGA
import Derived.Test.YtonejdjhdjckjaaKGQ
import Derived.Test.YtonejdjhdjckjaaKTlm4
/-
  A packet that came in, opened.
-/
set_option linter.unusedSimpArgs false
set_option linter.unusedVariables false
namespace Go.Proofs.Ytonejdjhdjckjaa
open Go.RowKit Go.ChangeShapes Go.WideShapes Go.ChangeAt

theorem five_of {cs : Array Value} (h : cs.size = 5) : ∃ a b c d e, cs = #[a, b, c, d, e] := by
  obtain ⟨l⟩ := cs
  match l, h with
  | [a, b, c, d, e], _ => exact ⟨a, b, c, d, e, rfl⟩
section
variable {H : Type} {enc : TypeId × Value → H} {W : World}
set_option maxRecDepth 10000 in
theorem open_packet {b0 : Nat} {v : Value} {d : DataW H} {p : List MemPlace} (hv : Value.okWide Try.prog W .any b0 48 v) (h : DataW.Trod enc Try.prog W 0 (fun _ => true) true 48 v d p) :
    ∃ (sq sy co id : Int) (A : Option Addr) (n c : Nat) (l : List Int), v = .agg #[.int .i64 sq, .int .i64 sy, .int .i64 co, .int .i64 id, .slice A n c] ∧ Rd W W.heap.size 1 A n c (l.map (Value.int .i64)) ∧ PkB ⟨sq, sy, co, id, l⟩ := by
  obtain ⟨cs, rfl, hs, hat⟩ := open_fields Try.underlying48 hv h
  have hs5 : cs.size = 5 := hs.trans (by kernel_rfl)
  obtain ⟨u0, u1, u2, u3, u4, rfl⟩ := five_of hs5
  obtain ⟨m0, y0, t0⟩ := hat 0 _ rfl
  obtain ⟨m1, y1, t1⟩ := hat 1 _ rfl
  obtain ⟨m2, y2, t2⟩ := hat 2 _ rfl
  obtain ⟨m3, y3, t3⟩ := hat 3 _ rfl
  have t0 : DataW.trod enc Try.prog W 0 (fun _ => true) true m0 3 [u0] = some y0 := t0
  have t1 : DataW.trod enc Try.prog W 0 (fun _ => true) true m1 3 [u1] = some y1 := t1
  have t2 : DataW.trod enc Try.prog W 0 (fun _ => true) true m2 3 [u2] = some y2 := t2
  have t3 : DataW.trod enc Try.prog W 0 (fun _ => true) true m3 46 [u3, u4] = some y3 := t3
  obtain ⟨xs, k, _, _, _, hxl, hfs⟩ := DataW.trod_struct Try.underlying46 t3
  have hxl : xs.length = 2 := hxl
  have t4 := hfs 0 _ rfl
  rw [List.getElem?_eq_getElem (by omega)] at t4
  have t4 : DataW.trod enc Try.prog W 0 (fun _ => true) true k 3 [u3] = some xs[0] := t4
  have t5 := hfs 1 _ rfl
  rw [List.getElem?_eq_getElem (by omega)] at t5
  have t5 : DataW.trod enc Try.prog W 0 (fun _ => true) true k 35 [u4] = some xs[1] := t5
  obtain ⟨z0, e0, _, w0⟩ := DataW.trod_int Try.underlying3 t0
  obtain ⟨z1, e1, _, w1⟩ := DataW.trod_int Try.underlying3 t1
  obtain ⟨z2, e2, _, w2⟩ := DataW.trod_int Try.underlying3 t2
  obtain ⟨z3, e3, _, w3⟩ := DataW.trod_int Try.underlying3 t4
  obtain ⟨A, n, c, l, rfl, hr, hl⟩ := cell_nums Try.underlying35 Try.underlying2 (by kernel_rfl) t5
  injection e0 with e0
  injection e1 with e1
  injection e2 with e2
  injection e3 with e3
  subst e0
  subst e1
  subst e2
  subst e3
  exact ⟨z0, z1, z2, z3, A, n, c, l, rfl, hr, bounds_i64 w0, bounds_i64 w1, bounds_i64 w2, bounds_i64 w3, fun x hx => bounds_i64 (hl x hx)⟩
end

end Go.Proofs.Ytonejdjhdjckjaa

/-
  the document's Same, knows, TlmPuts walked (printed by gen_sch6.py).
-/
set_option linter.unusedSimpArgs false
set_option linter.unusedVariables false
namespace Go.Proofs.Ytonejdjhdjckjaa
open Go.RowKit NumLaw
attribute [local go_sem] Addr.add_mid
attribute [-go_sem] run_eql_struct run_neq_struct

set_option maxRecDepth 10000 in
set_option maxHeartbeats 2000000 in
theorem psame_any (sq sy co id : Int) (A : Option Addr) (n c : Nat) (A' : Option Addr) (n' c' : Nat) (v : List Int) (w : World) (h : Rd w w.heap.size 1 A n c (v.map (Value.int .i64))) (h' : Rd w w.heap.size 1 A' n' c' (v.map (Value.int .i64))) :
    Calls Try.prog 39 #[.agg #[.int .i64 sq, .int .i64 sy, .int .i64 co, .int .i64 id, .slice A n c], .agg #[.int .i64 sq, .int .i64 sy, .int .i64 co, .int .i64 id, .slice A' n' c']] w fun e w' => e = .returned (.bool true) ∧ Below w.heap.size w w' := by
  have a0 := heap_alloc_new w (.cells #[.int .i64 sq, .int .i64 sy, .int .i64 co, .int .i64 id, .slice A n c] 48)
  have hba : Below w.heap.size w (w.alloc (.cells #[.int .i64 sq, .int .i64 sy, .int .i64 co, .int .i64 id, .slice A n c] 48)) := (Below.refl _ _).alloc (Nat.le_refl _) _
  have hbb : Below (w.alloc (.cells #[.int .i64 sq, .int .i64 sy, .int .i64 co, .int .i64 id, .slice A n c] 48)).heap.size (w.alloc (.cells #[.int .i64 sq, .int .i64 sy, .int .i64 co, .int .i64 id, .slice A n c] 48)) ((w.alloc (.cells #[.int .i64 sq, .int .i64 sy, .int .i64 co, .int .i64 id, .slice A n c] 48)).alloc (.cells #[.int .i64 sq, .int .i64 sy, .int .i64 co, .int .i64 id, .slice A' n' c'] 48)) := (Below.refl _ _).alloc (Nat.le_refl _) _
  have a1 := heap_alloc_new (w.alloc (.cells #[.int .i64 sq, .int .i64 sy, .int .i64 co, .int .i64 id, .slice A n c] 48)) (.cells #[.int .i64 sq, .int .i64 sy, .int .i64 co, .int .i64 id, .slice A' n' c'] 48)
  have a2 := blk_old a0 hbb (blk_lt a0)
  simp only [World.size_alloc] at a1
  have hb := bnx hba hbb
  have c0 := blk_cell (i := 0) (v := .int .i64 sq) a2 rfl
  have c1 := blk_cell (i := 1) (v := .int .i64 sy) a2 rfl
  have c2 := blk_cell (i := 2) (v := .int .i64 co) a2 rfl
  have c3 := blk_cell (i := 3) (v := .int .i64 id) a2 rfl
  have c4 := blk_cell (i := 4) (v := .slice A n c) a2 rfl
  have d0 := blk_cell (i := 0) (v := .int .i64 sq) a1 rfl
  have d1 := blk_cell (i := 1) (v := .int .i64 sy) a1 rfl
  have d2 := blk_cell (i := 2) (v := .int .i64 co) a1 rfl
  have d3 := blk_cell (i := 3) (v := .int .i64 id) a1 rfl
  have d4 := blk_cell (i := 4) (v := .slice A' n' c') a1 rfl
  have h1 := h.nx hb
  have h2 := h'.nx hb
  clear a0 a1 a2 hba hbb
  go_enter Try.func39, Try.ntmps39
  go_wp2_with fail
  go_fit (same_any A n c _ v A' n' c' _ v _ h1 (Nat.le_refl _) h2 (Nat.le_refl _))
  rintro e w2 ⟨rfl, hbx⟩
  rw [decide_eq_true rfl]
  have hbf := bnx hb hbx
  clear h1 h2 hb hbx c0 c1 c2 c3 c4 d0 d1 d2 d3 d4
  go_wp2
  go_ret
  exact ⟨by simp, hbf⟩
theorem kn_put : tlE ⟨7, 1, 2, 42, [513]⟩ = 0 := by
  have h1 : (frm 42).1.toList.isEmpty = false := by
    rcases frm_id 42 with ⟨_, _, h⟩ | ⟨h, _⟩
    · exact absurd h (by decide +kernel)
    · exact h
  have h2 : putSE (frm 42).2 [513] = 0 := by decide +kernel
  unfold tlE
  rw [if_pos (by decide)]
  show sPE (frm 42) [513] = 0
  unfold sPE
  rw [if_neg (by rw [h1]; exact Bool.false_ne_true)]
  exact h2
theorem kn_bytes : (tlB ⟨7, 1, 2, 42, [513]⟩).length = 10 ∧ (tlB ⟨7, 1, 2, 42, [513]⟩).take 8 = [254, 2, 7, 1, 2, 42, 1, 2] := by
  have h1 : (frm 42).1.toList.isEmpty = false := by
    rcases frm_id 42 with ⟨_, _, h⟩ | ⟨h, _⟩
    · exact absurd h (by decide +kernel)
    · exact h
  have h2 : putSB (frm 42).2 [513] = [1, 2] := by decide +kernel
  have h3 : sPB (frm 42) [513] = [1, 2] := by
    unfold sPB
    rw [if_neg (by rw [h1]; exact Bool.false_ne_true)]
    exact h2
  have hI : tlI ⟨7, 1, 2, 42, [513]⟩ = [2, 7, 1, 2, 42, 1, 2] := by
    show [u8i ((sPB (frm 42) [513]).length : Int), u8i 7, u8i 1, u8i 2, u8i 42] ++ sPB (frm 42) [513] = _
    rw [h3]
    decide
  have hB : tlB ⟨7, 1, 2, 42, [513]⟩ = 254 :: ([2, 7, 1, 2, 42, 1, 2] ++ sm2 (frm 42) (tlI ⟨7, 1, 2, 42, [513]⟩)) := by
    unfold tlB
    rw [if_pos kn_put, hI]
  rw [hB]
  exact ⟨rfl, rfl⟩
theorem kn_size : szS 0 = 17 := by decide +kernel
set_option maxRecDepth 10000 in
set_option maxHeartbeats 4000000 in
theorem knows32 (w : World) : Calls Try.prog 32 #[] w fun e w' => e = .returned (.bool true) ∧ Below w.heap.size w w' := by
  have own1 := own_new w w.heap.size 2 [.int .i64 513] (Nat.le_refl _) (by simp [maxLen])
  have hr1 : Rd (w.alloc (.cells #[.int .i64 513] 2)) (w.alloc (.cells #[.int .i64 513] 2)).heap.size 1 (some ⟨w.heap.size, 0, none⟩) 1 1 (([513] : List Int).map (Value.int .i64)) := Rd.own own1
  have hb1 : Below w.heap.size w (w.alloc (.cells #[.int .i64 513] 2)) := (Below.refl _ _).alloc (Nat.le_refl _) _
  have hput := tlput_any 7 1 2 42 (some ⟨w.heap.size, 0, none⟩) 1 1 [513] _ hr1 ⟨by decide, by decide, by decide, by decide, by decide⟩
  rw [kn_put] at hput
  obtain ⟨q1, q2⟩ := kn_bytes
  generalize tlB ⟨7, 1, 2, 42, [513]⟩ = oB at *
  have Q1 := Lib.hid q1
  have Q2 := Lib.hid q2
  have Hput := Lib.hid hput
  have hs := fun w => tsize_any 0 w
  rw [kn_size] at hs
  have Hs := Lib.hid hs
  obtain ⟨i0, hi⟩ := info_parts u8_info
  have Hi := Lib.hid hi
  clear q1 q2 hput own1 hr1 hs hi
  go_enter Try.func32, Try.ntmps32
  go_wp2_with fail
  go_fit Hput.out
  rintro e w2 ⟨A2, n2, c2, rfl, own2, hbx⟩
  have hb2 := bnx hb1 hbx
  have hl2 := own_len own2
  obtain rfl : n2 = 10 := by rw [← hl2]; exact Q1.out
  have hr2 := Rd.own own2
  have hle2 := hr2.le
  have hmx2 := hr2.max
  unfold maxLen at hmx2
  have hcut : ∀ w, (Instr.slice 36 (.slice A2 10 c2) none (some (.int .i64 8)) none).run Try.prog w = .ok (.slice A2 8 c2) w := run_cut_h (P := Try.prog) Try.underlying36 Hi.out.1 A2 10 c2 8 (by omega)
  have Hcut := Lib.hid hcut
  have hr8 := hr2.btake (k := 8) (by omega)
  rw [Q2.out] at hr8
  clear hbx own2 hl2 hcut hb1 hr2
  go_wp2_with fail
  refine Ord.region_ (fun w' => Below w2.heap.size w2 w') false [27] (by kernel_rfl) (by kernel_rfl) (Below.refl _ _).drew ?_
  have hb3 : Below w2.heap.size w2 w2.drew := (Below.refl _ _).drew
  generalize w2.drew = w3 at *
  refine Ord.e_x rfl (by kernel_rfl) ?_
  go_wp2_with fail
  go_fit (Hs.out w3)
  rintro e w4 ⟨rfl, hbx⟩
  have hb4 := bnx hb3 hbx
  clear hbx hb3
  have hb3 := hb4
  clear hb4
  go_wp2_with fail
  refine Ord.Seg.go hb3 (fun h => by cases h) ?_
  (try simp only [Act.put, List.setIfInBounds_toArray, List.set_cons_zero, List.set_cons_succ])
  refine Ord.e_p (v := .bool true) rfl (by kernel_rfl) (fun w2 => by go_simp) ?_
  (try simp only [Act.put, List.setIfInBounds_toArray, List.set_cons_zero, List.set_cons_succ])
  ((with_reducible refine Ord.e_p (v := ?_) ?_ ?_ ?_ ?_); rotate_left; (· exact rfl); (· kernel_rfl); (· intro w2; go_simp; try with_reducible rfl))
  (try simp only [Act.put, List.setIfInBounds_toArray, List.set_cons_zero, List.set_cons_succ])
  ((with_reducible refine Ord.e_p (v := ?_) ?_ ?_ ?_ ?_); rotate_left; (· exact rfl); (· kernel_rfl); (· intro w2; go_simp; try with_reducible rfl))
  (try simp only [Act.put, List.setIfInBounds_toArray, List.set_cons_zero, List.set_cons_succ])
  refine Ord.e_x rfl (by kernel_rfl) ?_
  go_wp2_with fail
  go_fit (num32_any _ _)
  rintro e w5 ⟨rfl, rfl⟩
  go_wp2_with fail
  refine Ord.Seg.go hb3 (fun h => by cases h) ?_
  (try simp only [Act.put, List.setIfInBounds_toArray, List.set_cons_zero, List.set_cons_succ])
  refine Ord.e_p (v := .bool true) rfl (by kernel_rfl) (fun w2 => by go_simp) ?_
  (try simp only [Act.put, List.setIfInBounds_toArray, List.set_cons_zero, List.set_cons_succ])
  ((with_reducible refine Ord.e_p (v := ?_) ?_ ?_ ?_ ?_); rotate_left; (· exact rfl); (· kernel_rfl); (· intro w2; go_simp; try with_reducible rfl))
  (try simp only [Act.put, List.setIfInBounds_toArray, List.set_cons_zero, List.set_cons_succ])
  ((with_reducible refine Ord.e_p (v := ?_) ?_ ?_ ?_ ?_); rotate_left; (· exact rfl); (· kernel_rfl); (· intro w2; go_simp; try with_reducible rfl))
  (try simp only [Act.put, List.setIfInBounds_toArray, List.set_cons_zero, List.set_cons_succ])
  ((with_reducible refine Ord.e_p (v := ?_) ?_ ?_ ?_ ?_); rotate_left; (· exact rfl); (· kernel_rfl); (· intro w2; go_simp; try with_reducible rfl))
  (try simp only [Act.put, List.setIfInBounds_toArray, List.set_cons_zero, List.set_cons_succ])
  ((with_reducible refine Ord.e_p (v := ?_) ?_ ?_ ?_ ?_); rotate_left; (· exact rfl); (· kernel_rfl); (· intro w2; go_simp; try with_reducible rfl))
  (try simp only [Act.put, List.setIfInBounds_toArray, List.set_cons_zero, List.set_cons_succ])
  refine Ord.e_p (v := .bool true) rfl (by kernel_rfl) (fun w2 => by go_simp) ?_
  (try simp only [Act.put, List.setIfInBounds_toArray, List.set_cons_zero, List.set_cons_succ])
  ((with_reducible refine Ord.e_p (v := ?_) ?_ ?_ ?_ ?_); rotate_left; (· exact rfl); (· kernel_rfl); (· intro w2; go_simp; try with_reducible rfl))
  (try simp only [Act.put, List.setIfInBounds_toArray, List.set_cons_zero, List.set_cons_succ])
  ((with_reducible refine Ord.e_p (v := ?_) ?_ ?_ ?_ ?_); rotate_left; (· exact rfl); (· kernel_rfl); (· intro w2; go_simp; try with_reducible rfl))
  (try simp only [Act.put, List.setIfInBounds_toArray, List.set_cons_zero, List.set_cons_succ])
  ((with_reducible refine Ord.e_p (v := ?_) ?_ ?_ ?_ ?_); rotate_left; (· exact rfl); (· kernel_rfl); (· intro w2; go_simp; try with_reducible rfl))
  (try simp only [Act.put, List.setIfInBounds_toArray, List.set_cons_zero, List.set_cons_succ])
  refine Ord.e_p (v := .slice A2 8 c2) rfl (by kernel_rfl) (fun w2 => by have hcut := Hcut.out w2; go_simp) ?_
  (try simp only [Act.put, List.setIfInBounds_toArray, List.set_cons_zero, List.set_cons_succ])
  refine Ord.e_strS Try.underlying36 Try.underlying5 Try.underlying9 (fun w' hS => hr8.up (show Below _ w2 w' from hS)) hb3 hb3.size rfl (by kernel_rfl) ?_
  (try simp only [Act.put, List.setIfInBounds_toArray, List.set_cons_zero, List.set_cons_succ])
  refine Ord.e_x rfl (by kernel_rfl) ?_
  go_wp2
  refine Ord.Seg.go (hb3.alloc hb3.size _) (fun h => by cases h) ?_
  (try simp only [Act.put, List.setIfInBounds_toArray, List.set_cons_zero, List.set_cons_succ])
  have hr9 : Rd (w4.alloc (.cells #[.int .u8 254, .int .u8 2, .int .u8 7, .int .u8 1, .int .u8 2, .int .u8 42, .int .u8 1, .int .u8 2] 5)) (w4.heap.size + 1) 1 (some ⟨w4.heap.size, 0, none⟩) 8 8 (bv [254, 2, 7, 1, 2, 42, 1, 2]) := rd_const w4 5 [254, 2, 7, 1, 2, 42, 1, 2] (0, 0) (by simp [maxLen])
  replace hb3 := hb3.alloc hb3.size (.cells #[.int .u8 254, .int .u8 2, .int .u8 7, .int .u8 1, .int .u8 2, .int .u8 42, .int .u8 1, .int .u8 2] 5)
  have hr9' := hr9.more (B' := (w4.alloc (.cells #[.int .u8 254, .int .u8 2, .int .u8 7, .int .u8 1, .int .u8 2, .int .u8 42, .int .u8 1, .int .u8 2] 5)).heap.size) (by simp only [World.size_alloc]; exact Nat.le_refl _)
  clear hr9
  refine Ord.e_str Try.underlying36 Try.underlying5 Try.underlying9 hr9' rfl (by kernel_rfl) (by kernel_rfl) ?_
  (try simp only [Act.put, List.setIfInBounds_toArray, List.set_cons_zero, List.set_cons_succ])
  refine Ord.e_p (v := .bool true) rfl (by kernel_rfl) (fun w2 => by go_simp) ?_
  (try simp only [Act.put, List.setIfInBounds_toArray, List.set_cons_zero, List.set_cons_succ])
  ((with_reducible refine Ord.e_p (v := ?_) ?_ ?_ ?_ ?_); rotate_left; (· exact rfl); (· kernel_rfl); (· intro w2; go_simp; try with_reducible rfl))
  (try simp only [Act.put, List.setIfInBounds_toArray, List.set_cons_zero, List.set_cons_succ])
  ((with_reducible refine Ord.e_p (v := ?_) ?_ ?_ ?_ ?_); rotate_left; (· exact rfl); (· kernel_rfl); (· intro w2; go_simp; try with_reducible rfl))
  (try simp only [Act.put, List.setIfInBounds_toArray, List.set_cons_zero, List.set_cons_succ])
  refine Ord.e_nil ?_
  have hbf := bnx hb2 hb3
  clear hr9' hb3 hb2 hr8
  go_wp2
  go_ret
  exact ⟨rfl, hbf⟩
set_option maxRecDepth 20000 in
set_option maxHeartbeats 8000000 in
theorem tlputs_any (sq sy co id : Int) (A : Option Addr) (n c : Nat) (v : List Int) (w : World) (h : Rd w w.heap.size 1 A n c (v.map (Value.int .i64))) (hB : PkB ⟨sq, sy, co, id, v⟩) :
    Calls Try.prog 7 #[.agg #[.int .i64 sq, .int .i64 sy, .int .i64 co, .int .i64 id, .slice A n c]] w fun e w' => e = .returned (.bool true) ∧ Below w.heap.size w w' := by
  have hmx := h.max
  have hle := h.le
  unfold maxLen at hmx
  have a0 := heap_alloc_new w (.cells #[.int .i64 sq, .int .i64 sy, .int .i64 co, .int .i64 id, .slice A n c] 48)
  have hba : Below w.heap.size w (w.alloc (.cells #[.int .i64 sq, .int .i64 sy, .int .i64 co, .int .i64 id, .slice A n c] 48)) := (Below.refl _ _).alloc (Nat.le_refl _) _
  have hlt0 := blk_lt a0
  have h1 := h.nx hba
  have c4 := blk_cell (i := 4) (v := .slice A n c) a0 rfl
  by_cases g : 300 < n
  · have g' : (300 : Int) < (n : Int) := by omega
    clear h h1 a0 hlt0
    go_enter Try.func7, Try.ntmps7
    go_wp2_with fail
    go_fit (knows32 _)
    rintro e w1 ⟨rfl, hb⟩
    have hbf := bnx hba hb
    go_wp2
    go_ret
    exact ⟨rfl, hbf⟩
  have g' : ¬ (300 : Int) < (n : Int) := by omega
  have Hp := Lib.hid (fun A n c w h => tlput_any sq sy co id A n c v w h hB)
  have Hq := Lib.hid (fun A n c w h => qtlput_any sq sy co id A n c v w h hB)
  have Hs := Lib.hid (fun w => tsize_any id w)
  have Ht := Lib.hid (fun w => qtsize_any id w)
  generalize tlE ⟨sq, sy, co, id, v⟩ = oE at *
  generalize tlB ⟨sq, sy, co, id, v⟩ = oB at *
  generalize szS id = N at *
  clear h hB
  go_enter Try.func7, Try.ntmps7
  go_wp2_with fail
  go_fit (knows32 _)
  rintro e w1 ⟨rfl, hbx⟩
  have hb1 := bnx hba hbx
  obtain ⟨b0, hb0⟩ : ∃ b0, b0 = w.heap.size := ⟨_, rfl⟩
  rw [← hb0] at a0 hlt0 c4 ⊢
  have a1 := blk_old a0 hbx hlt0
  have h2 := h1.nx hbx
  clear c4
  have c0 := blk_cell (i := 0) (v := .int .i64 sq) a1 rfl
  have c1 := blk_cell (i := 1) (v := .int .i64 sy) a1 rfl
  have c2 := blk_cell (i := 2) (v := .int .i64 co) a1 rfl
  have c3 := blk_cell (i := 3) (v := .int .i64 id) a1 rfl
  have c4 := blk_cell (i := 4) (v := .slice A n c) a1 rfl
  clear hbx hba h1 hb0 a0 hlt0
  go_wp2_with fail
  go_fit (Hp.out A n c w1 h2)
  rintro e w2 ⟨Ap, np, kp, rfl, own2, hbx⟩
  have hb2 := bnx hb1 hbx
  have hr2 := Rd.own own2
  have h3 := h2.nx hbx
  have a2 := blk_old a1 hbx (blk_lt a1)
  clear c0 c1 c2 c3 c4 own2 hb1 h2 a1 hbx
  have c0 := blk_cell (i := 0) (v := .int .i64 sq) a2 rfl
  have c1 := blk_cell (i := 1) (v := .int .i64 sy) a2 rfl
  have c2 := blk_cell (i := 2) (v := .int .i64 co) a2 rfl
  have c3 := blk_cell (i := 3) (v := .int .i64 id) a2 rfl
  have c4 := blk_cell (i := 4) (v := .slice A n c) a2 rfl
  go_wp2_with fail
  go_fit (Hq.out A n c w2 h3)
  rintro e w3 ⟨Aq, nq, kq, rfl, own3, hbx⟩
  have hb3 := bnx hb2 hbx
  have hr3 := Rd.own own3
  replace hr2 := hr2.nx hbx
  have a3 := blk_old a2 hbx (blk_lt a2)
  have c3w := blk_cell (i := 3) (v := .int .i64 id) a3 rfl
  have hlt3 := blk_lt a3
  have Hc3 := Lib.hid (show ∀ w', Below w3.heap.size w3 w' → w'.cell? ⟨b0, 3, none⟩ = some (.int .i64 id) from fun w' hbq => (hbq.cell (p := ⟨b0, 3, none⟩) hlt3).trans c3w)
  clear c0 c1 c2 c3 c4 own3 hb2 h3 a2 a3 hbx c3w hlt3
  go_wp2_with fail
  refine Ord.region_ (fun w' => Below w3.heap.size w3 w') false [] (by kernel_rfl) (by kernel_rfl) (Below.refl _ _).drew ?_
  have hb4 : Below w3.heap.size w3 w3.drew := (Below.refl _ _).drew
  generalize w3.drew = w4 at *
  ((with_reducible refine Ord.e_p (v := ?_) ?_ ?_ ?_ ?_); rotate_left; (· exact rfl); (· kernel_rfl); (· intro w2; go_simp; try with_reducible rfl))
  (try simp only [Act.put, List.setIfInBounds_toArray, List.set_cons_zero, List.set_cons_succ])
  refine Ord.e_strS Try.underlying36 Try.underlying5 Try.underlying9 (fun w' hS => hr2.up (show Below _ w3 w' from hS)) hb4 hb4.size rfl (by kernel_rfl) ?_
  (try simp only [Act.put, List.setIfInBounds_toArray, List.set_cons_zero, List.set_cons_succ])
  ((with_reducible refine Ord.e_p (v := ?_) ?_ ?_ ?_ ?_); rotate_left; (· exact rfl); (· kernel_rfl); (· intro w2; go_simp; try with_reducible rfl))
  (try simp only [Act.put, List.setIfInBounds_toArray, List.set_cons_zero, List.set_cons_succ])
  refine Ord.e_strS Try.underlying36 Try.underlying5 Try.underlying9 (fun w' hS => hr3.up (show Below _ w3 w' from hS)) hb4 hb4.size rfl (by kernel_rfl) ?_
  (try simp only [Act.put, List.setIfInBounds_toArray, List.set_cons_zero, List.set_cons_succ])
  refine Ord.e_p (v := .bool true) rfl (by kernel_rfl) (fun w2 => by go_simp) ?_
  (try simp only [Act.put, List.setIfInBounds_toArray, List.set_cons_zero, List.set_cons_succ])
  ((with_reducible refine Ord.e_p (v := ?_) ?_ ?_ ?_ ?_); rotate_left; (· exact rfl); (· kernel_rfl); (· intro w2; go_simp; try with_reducible rfl))
  (try simp only [Act.put, List.setIfInBounds_toArray, List.set_cons_zero, List.set_cons_succ])
  ((with_reducible refine Ord.e_p (v := ?_) ?_ ?_ ?_ ?_); rotate_left; (· exact rfl); (· kernel_rfl); (· intro w2; go_simp; try with_reducible rfl))
  (try simp only [Act.put, List.setIfInBounds_toArray, List.set_cons_zero, List.set_cons_succ])
  refine Ord.e_x rfl (by kernel_rfl) ?_
  go_wp2_with fail
  go_fit (num32_any _ _)
  rintro e w5 ⟨rfl, rfl⟩
  go_wp2_with fail
  refine Ord.Seg.go hb4 (fun h => by cases h) ?_
  (try simp only [Act.put, List.setIfInBounds_toArray, List.set_cons_zero, List.set_cons_succ])
  ((with_reducible refine Ord.e_p (v := ?_) ?_ ?_ ?_ ?_); rotate_left; (· exact rfl); (· kernel_rfl); (· intro w2; go_simp; try with_reducible rfl))
  (try simp only [Act.put, List.setIfInBounds_toArray, List.set_cons_zero, List.set_cons_succ])
  refine Ord.e_x rfl (by kernel_rfl) ?_
  go_wp2_with fail
  go_fit (num32_any _ _)
  rintro e w5 ⟨rfl, rfl⟩
  go_wp2_with fail
  refine Ord.Seg.go hb4 (fun h => by cases h) ?_
  (try simp only [Act.put, List.setIfInBounds_toArray, List.set_cons_zero, List.set_cons_succ])
  refine Ord.e_p (v := .bool true) rfl (by kernel_rfl) (fun w2 => by go_simp) ?_
  (try simp only [Act.put, List.setIfInBounds_toArray, List.set_cons_zero, List.set_cons_succ])
  ((with_reducible refine Ord.e_p (v := ?_) ?_ ?_ ?_ ?_); rotate_left; (· exact rfl); (· kernel_rfl); (· intro w2; go_simp; try with_reducible rfl))
  (try simp only [Act.put, List.setIfInBounds_toArray, List.set_cons_zero, List.set_cons_succ])
  ((with_reducible refine Ord.e_p (v := ?_) ?_ ?_ ?_ ?_); rotate_left; (· exact rfl); (· kernel_rfl); (· intro w2; go_simp; try with_reducible rfl))
  (try simp only [Act.put, List.setIfInBounds_toArray, List.set_cons_zero, List.set_cons_succ])
  ((with_reducible refine Ord.e_p (v := ?_) ?_ ?_ ?_ ?_); rotate_left; (· exact rfl); (· kernel_rfl); (· intro w2; go_simp; try with_reducible rfl))
  (try simp only [Act.put, List.setIfInBounds_toArray, List.set_cons_zero, List.set_cons_succ])
  ((with_reducible refine Ord.e_p (v := ?_) ?_ ?_ ?_ ?_); rotate_left; (· exact rfl); (· kernel_rfl); (· intro w2; go_simp; try with_reducible rfl))
  (try simp only [Act.put, List.setIfInBounds_toArray, List.set_cons_zero, List.set_cons_succ])
  refine Ord.e_loadS (ad := ⟨b0, 3, none⟩) Try.underlying3 rfl (fun w' hS => Hc3.out w' hS) hb4 rfl (by kernel_rfl) ?_
  (try simp only [Act.put, List.setIfInBounds_toArray, List.set_cons_zero, List.set_cons_succ])
  refine Ord.e_x rfl (by kernel_rfl) ?_
  go_wp2_with fail
  go_fit (Hs.out w4)
  rintro e w5 ⟨rfl, hbx⟩
  have hb5 := bnx hb4 hbx
  clear hbx hb4
  go_wp2_with fail
  refine Ord.Seg.go hb5 (fun h => by cases h) ?_
  (try simp only [Act.put, List.setIfInBounds_toArray, List.set_cons_zero, List.set_cons_succ])
  ((with_reducible refine Ord.e_p (v := ?_) ?_ ?_ ?_ ?_); rotate_left; (· exact rfl); (· kernel_rfl); (· intro w2; go_simp; try with_reducible rfl))
  (try simp only [Act.put, List.setIfInBounds_toArray, List.set_cons_zero, List.set_cons_succ])
  ((with_reducible refine Ord.e_p (v := ?_) ?_ ?_ ?_ ?_); rotate_left; (· exact rfl); (· kernel_rfl); (· intro w2; go_simp; try with_reducible rfl))
  (try simp only [Act.put, List.setIfInBounds_toArray, List.set_cons_zero, List.set_cons_succ])
  refine Ord.e_loadS (ad := ⟨b0, 3, none⟩) Try.underlying3 rfl (fun w' hS => Hc3.out w' hS) hb5 rfl (by kernel_rfl) ?_
  (try simp only [Act.put, List.setIfInBounds_toArray, List.set_cons_zero, List.set_cons_succ])
  refine Ord.e_x rfl (by kernel_rfl) ?_
  go_wp2_with fail
  go_fit (Ht.out w5)
  rintro e w6 ⟨rfl, hbx⟩
  have hb6 := bnx hb5 hbx
  clear hbx hb5
  go_wp2_with fail
  refine Ord.Seg.go hb6 (fun h => by cases h) ?_
  (try simp only [Act.put, List.setIfInBounds_toArray, List.set_cons_zero, List.set_cons_succ])
  refine Ord.e_p (v := .bool true) rfl (by kernel_rfl) (fun w2 => by go_simp) ?_
  (try simp only [Act.put, List.setIfInBounds_toArray, List.set_cons_zero, List.set_cons_succ])
  ((with_reducible refine Ord.e_p (v := ?_) ?_ ?_ ?_ ?_); rotate_left; (· exact rfl); (· kernel_rfl); (· intro w2; go_simp; try with_reducible rfl))
  (try simp only [Act.put, List.setIfInBounds_toArray, List.set_cons_zero, List.set_cons_succ])
  ((with_reducible refine Ord.e_p (v := ?_) ?_ ?_ ?_ ?_); rotate_left; (· exact rfl); (· kernel_rfl); (· intro w2; go_simp; try with_reducible rfl))
  (try simp only [Act.put, List.setIfInBounds_toArray, List.set_cons_zero, List.set_cons_succ])
  refine Ord.e_nil ?_
  have hbf := bnx hb3 hb6
  clear hb6 hb3 hr2 hr3
  go_wp2
  go_ret
  exact ⟨rfl, hbf⟩

end Go.Proofs.Ytonejdjhdjckjaa

/-
  TlmSteady walked (printed by gen_sch6.py).
-/
set_option linter.unusedSimpArgs false
set_option linter.unusedVariables false
namespace Go.Proofs.Ytonejdjhdjckjaa
open Go.RowKit NumLaw
attribute [local go_sem] Addr.add_mid
attribute [-go_sem] run_eql_struct run_neq_struct

set_option maxRecDepth 20000 in
set_option maxHeartbeats 8000000 in
theorem tlsteady_any (A : Option Addr) (n c : Nat) (b : List UInt8) (A2 : Option Addr) (n2 c2 : Nat) (m : List UInt8) (w : World) (h : Rd w w.heap.size 1 A n c (bv b)) (h2 : Rd w w.heap.size 1 A2 n2 c2 (bv m)) :
    Calls Try.prog 9 #[.slice A n c, .slice A2 n2 c2] w fun e w' => e = .returned (.bool true) ∧ Below w.heap.size w w' := by
  have hmx := h.max
  have hle := h.le
  have hmx2 := h2.max
  have hle2 := h2.le
  unfold maxLen at hmx hmx2
  rcases (by omega : 1000 < n ∨ (¬ 1000 < n ∧ 1000 < n2) ∨ (¬ 1000 < n ∧ ¬ 1000 < n2)) with g1 | ⟨g1, g2⟩ | ⟨g1, g2⟩
  · have g1' : (1000 : Int) < (n : Int) := by omega
    go_enter Try.func9, Try.ntmps9
    go_wp2_with fail
    go_fit (knows32 _)
    rintro e w1 ⟨rfl, hb⟩
    go_wp2
    go_ret
    exact ⟨rfl, hb⟩
  · have g1' : ¬ (1000 : Int) < (n : Int) := by omega
    have g2' : (1000 : Int) < (n2 : Int) := by omega
    go_enter Try.func9, Try.ntmps9
    go_wp2_with fail
    go_fit (knows32 _)
    rintro e w1 ⟨rfl, hb⟩
    go_wp2
    go_ret
    exact ⟨rfl, hb⟩
  have g1' : ¬ (1000 : Int) < (n : Int) := by omega
  have g2' : ¬ (1000 : Int) < (n2 : Int) := by omega
  have Hst := Lib.hid (@tlm_steady b m)
  obtain ⟨i0, hi⟩ := info_parts u8_info
  have Hi := Lib.hid hi
  clear hi
  go_enter Try.func9, Try.ntmps9
  go_wp2_with fail
  go_fit (knows32 _)
  rintro e w1 ⟨rfl, hb1⟩
  replace h := h.nx hb1
  replace h2 := h2.nx hb1
  go_wp2_with fail
  go_fit (tltake_any A n c b w1 h (by omega))
  unfold RetTl
  rintro e w2 ⟨Ap, np, kp, rfl, hrp, hbx⟩
  have hb2 := bnx hb1 hbx
  replace h := h.nx hbx
  replace h2 := h2.nx hbx
  clear hb1 hbx
  obtain ⟨P, hP⟩ : ∃ P, P = tkP b := ⟨_, rfl⟩
  obtain ⟨oN, hN⟩ : ∃ N, N = tkN b := ⟨_, rfl⟩
  obtain ⟨oE, hE⟩ : ∃ E, E = tkE b := ⟨_, rfl⟩
  rw [← hP, ← hN, ← hE]
  rw [← hP] at hrp
  rw [← hP, ← hN, ← hE] at Hst
  clear hP hN hE
  obtain ⟨psq, psy, pco, pid, pv⟩ := P
  dsimp only at hrp ⊢
  have a3 := heap_alloc_new w2 (.cells #[.int .i64 psq, .int .i64 psy, .int .i64 pco, .int .i64 pid, .slice Ap np kp] 48)
  have hba : Below w2.heap.size w2 (w2.alloc (.cells #[.int .i64 psq, .int .i64 psy, .int .i64 pco, .int .i64 pid, .slice Ap np kp] 48)) := (Below.refl _ _).alloc (Nat.le_refl _) _
  have hb3 := bnx hb2 hba
  have h3 := h.nx hba
  have h23 := h2.nx hba
  have hrp3 := hrp.nx hba
  obtain ⟨gp, hgp⟩ : ∃ g, g = w2.heap.size := ⟨_, rfl⟩
  rw [← hgp] at a3
  clear hb2 h h2 hrp hba
  go_wp2_with (at_builtin; refine stop_ ?_)
  rw [← hgp]
  have hz3 : (w2.alloc (.cells #[.int .i64 psq, .int .i64 psy, .int .i64 pco, .int .i64 pid, .slice Ap np kp] 48)).heap.size = gp + 1 := by rw [hgp]; exact World.size_alloc _ _
  obtain ⟨g3, hg3⟩ : ∃ g, g = gp + 1 := ⟨_, rfl⟩
  rw [← hg3] at hz3 ⊢
  generalize (w2.alloc (.cells #[.int .i64 psq, .int .i64 psy, .int .i64 pco, .int .i64 pid, .slice Ap np kp] 48)) = w3 at *
  clear hgp hg3
  have own0 := own_empty w3 w3.heap.size 5 (Nat.le_refl _) 1
  have hc4 : Below w3.heap.size w3 (w3.alloc (.cells #[] 5)) := (Below.refl _ _).alloc (Nat.le_refl _) _
  have hr4 := h3.up hc4
  rw [hz3] at own0
  have Hz3 := Lib.hid hz3
  clear hz3
  generalize (w3.alloc (.cells #[] 5)) = w4 at *
  refine go_ (wpList_appG (base := g3) (n := 0) Try.underlying36 Hi.out rfl (by omega) own0 rfl hr4 rfl (bv_one _) (k := n) (by omega) (List.nil_append _) (by unfold maxLen; omega) (by omega) (by rw [← Hz3.out]; exact hc4.size) ?_)
  intro A5 c5 w5 own5 hgr hob
  have hc5 := Below.grown hc4 hgr hc4.size (fun j hj => by rw [Hz3.out]; exact (own_blk own0 hj).1)
  clear hgr hob own0 hc4 hr4
  have hr5 := h23.up hc5
  go_wp2_with (at_builtin; refine stop_ ?_)
  refine go_ (wpList_appG (base := g3) (n := n) Try.underlying36 Hi.out rfl (by omega) own5 rfl hr5 rfl (bv_one _) (k := n + n2) rfl (bv_app _ _).symm (by unfold maxLen; omega) (by omega) (by rw [← Hz3.out]; exact hc5.size) ?_)
  intro A6 c6 w6 own6 hgr hob
  have hc6 := Below.grown hc5 hgr hc5.size (fun j hj => by rw [Hz3.out]; exact (own_blk own5 hj).1)
  have hr6 := Rd.own own6
  clear hgr hob own5 hc5 hr5 own6
  go_wp2_with fail
  go_fit (tltake_any A6 (n + n2) c6 (b ++ m) w6 hr6 (by omega))
  unfold RetTl
  rintro e w7 ⟨Aq, nq, kq, rfl, hrq, hbx⟩
  have hc7 := bnx hc6 hbx
  clear hc6 hbx hr6 h3 h23
  obtain ⟨Q, hQ⟩ : ∃ Q, Q = tkP (b ++ m) := ⟨_, rfl⟩
  obtain ⟨N2, hN2⟩ : ∃ N, N = tkN (b ++ m) := ⟨_, rfl⟩
  obtain ⟨E2, hE2⟩ : ∃ E, E = tkE (b ++ m) := ⟨_, rfl⟩
  rw [← hQ, ← hN2, ← hE2]
  rw [← hQ] at hrq
  rw [← hQ, ← hN2, ← hE2] at Hst
  clear hQ hN2 hE2
  by_cases h2e : oE = 2
  · subst h2e
    obtain ⟨qsq, qsy, qco, qid, qv⟩ := Q
    dsimp only at hrq ⊢
    have hcb : Below w7.heap.size w7 (w7.alloc (.cells #[.int .i64 qsq, .int .i64 qsy, .int .i64 qco, .int .i64 qid, .slice Aq nq kq] 48)) := (Below.refl _ _).alloc (Nat.le_refl _) _
    have hbf := bnx hb3 (bnx hc7 hcb)
    clear hcb hrq hrp3 a3 hc7 hb3
    go_wp2_with fail
    go_fit (num32_any _ _)
    rintro e wn ⟨rfl, rfl⟩
    go_wp2_with fail
    go_fit (num32_any _ _)
    rintro e wn ⟨rfl, rfl⟩
    go_wp2
    go_ret
    exact ⟨rfl, hbf⟩
  · obtain ⟨t1, t2, t3⟩ := Hst.out h2e
    subst t1
    subst t2
    subst t3
    dsimp only at hrq ⊢
    have hcb : Below w7.heap.size w7 (w7.alloc (.cells #[.int .i64 psq, .int .i64 psy, .int .i64 pco, .int .i64 pid, .slice Aq nq kq] 48)) := (Below.refl _ _).alloc (Nat.le_refl _) _
    have hc8 := bnx hc7 hcb
    have a8 := heap_alloc_new w7 (.cells #[.int .i64 psq, .int .i64 psy, .int .i64 pco, .int .i64 pid, .slice Aq nq kq] 48)
    have ap := blk_old a3 hc8 (blk_lt a3)
    have hrp8 := hrp3.nx hc8
    have hrq8 := hrq.nx hcb
    have hq2 : ((E2 : Int) == 2) = false := by simp; omega
    have hq3 : ¬ (E2 : Int) = 2 := by omega
    clear hcb hrq hrp3 a3 hc7
    have c0 := blk_cell (i := 0) (v := .int .i64 psq) ap rfl
    have c1 := blk_cell (i := 1) (v := .int .i64 psy) ap rfl
    have c2 := blk_cell (i := 2) (v := .int .i64 pco) ap rfl
    have c3 := blk_cell (i := 3) (v := .int .i64 pid) ap rfl
    have c4 := blk_cell (i := 4) (v := .slice Ap np kp) ap rfl
    have d0 := blk_cell (i := 0) (v := .int .i64 psq) a8 rfl
    have d1 := blk_cell (i := 1) (v := .int .i64 psy) a8 rfl
    have d2 := blk_cell (i := 2) (v := .int .i64 pco) a8 rfl
    have d3 := blk_cell (i := 3) (v := .int .i64 pid) a8 rfl
    have d4 := blk_cell (i := 4) (v := .slice Aq nq kq) a8 rfl
    clear ap a8
    go_wp2_with fail
    go_fit (num32_any _ _)
    rintro e wn ⟨rfl, rfl⟩
    go_wp2_with fail
    go_fit (num32_any _ _)
    rintro e wn ⟨rfl, rfl⟩
    go_wp2_with fail
    go_fit (psame_any psq psy pco pid Ap np kp Aq nq kq pv _ hrp8 hrq8)
    rintro e w9 ⟨rfl, hbx⟩
    have hbf := bnx hb3 (bnx hc8 hbx)
    clear c0 c1 c2 c3 c4 d0 d1 d2 d3 d4 hbx hc8 hb3 hrp8 hrq8
    go_wp2_with fail
    go_fit (num32_any _ _)
    rintro e wn ⟨rfl, rfl⟩
    go_wp2_with fail
    go_fit (num32_any _ _)
    rintro e wn ⟨rfl, rfl⟩
    go_wp2
    go_ret
    exact ⟨by simp, hbf⟩

end Go.Proofs.Ytonejdjhdjckjaa
