/-
  TlmBack walked (printed by gen_sch6.py).
-/
import Derived.Test.YtonejdjhdjckjaaKGR
set_option linter.unusedSimpArgs false
set_option linter.unusedVariables false
namespace Go.Proofs.Ytonejdjhdjckjaa
open Go.RowKit NumLaw
attribute [local go_sem] Addr.add_mid
attribute [-go_sem] run_eql_struct run_neq_struct

theorem tlB_len (p : PkV) : (tlB p).length ≤ 208 := by
  unfold tlB
  split
  · have h1 := @tlI_len p
    have h2 := @sPB_len p.id p.v
    have h3 : (sm2 (frm p.id) (tlI p)).length = 2 := rfl
    rw [List.length_cons, List.length_append]
    omega
  · exact Nat.zero_le _
theorem tlB_not {p : PkV} (h : ¬ tlE p = 0) : tlB p = [] := by unfold tlB; rw [if_neg h]
theorem tkP_B {m : List UInt8} (h : tkE m = 0) : PkB (tkP m) := by
  have h1 := (tlm_back h).2.2.2
  have hP : tkP m = ⟨((m.getD 2 0).toNat : Int), ((m.getD 3 0).toNat : Int), ((m.getD 4 0).toNat : Int), tkId m, sTV (frm (tkId m)) (tkBody m)⟩ := by unfold tkP; rw [if_pos h]
  have hx : ∀ x : UInt8, -9223372036854775808 ≤ (x.toNat : Int) ∧ (x.toNat : Int) ≤ 9223372036854775807 := fun x => by have := x.toNat_lt; omega
  refine ⟨?_, ?_, ?_, ?_, h1⟩
  · rw [hP]; exact hx _
  · rw [hP]; exact hx _
  · rw [hP]; exact hx _
  · rw [hP]; exact hx _
theorem tkP_not {m : List UInt8} (h : ¬ tkE m = 0) : tkP m = zPk := by unfold tkP; rw [if_neg h]
set_option maxRecDepth 20000 in
set_option maxHeartbeats 16000000 in
theorem tlback_any (sq sy co id : Int) (A : Option Addr) (n c : Nat) (v : List Int) (A2 : Option Addr) (n2 c2 : Nat) (m : List UInt8) (w : World) (h : Rd w w.heap.size 1 A n c (v.map (Value.int .i64))) (hB : PkB ⟨sq, sy, co, id, v⟩) (h2 : Rd w w.heap.size 1 A2 n2 c2 (bv m)) :
    Calls Try.prog 8 #[.agg #[.int .i64 sq, .int .i64 sy, .int .i64 co, .int .i64 id, .slice A n c], .slice A2 n2 c2] w fun e w' => e = .returned (.bool true) ∧ Below w.heap.size w w' := by
  have hmx := h.max
  have hle := h.le
  have hmx2 := h2.max
  have hle2 := h2.le
  unfold maxLen at hmx hmx2
  have a0 := heap_alloc_new w (.cells #[.int .i64 sq, .int .i64 sy, .int .i64 co, .int .i64 id, .slice A n c] 48)
  have hba : Below w.heap.size w (w.alloc (.cells #[.int .i64 sq, .int .i64 sy, .int .i64 co, .int .i64 id, .slice A n c] 48)) := (Below.refl _ _).alloc (Nat.le_refl _) _
  have hlt0 := blk_lt a0
  have h1 := h.nx hba
  have h21 := h2.nx hba
  have c4 := blk_cell (i := 4) (v := .slice A n c) a0 rfl
  rcases (by omega : 300 < n ∨ (¬ 300 < n ∧ 1000 < n2) ∨ (¬ 300 < n ∧ ¬ 1000 < n2)) with g1 | ⟨g1, g2⟩ | ⟨g1, g2⟩
  · have g1' : (300 : Int) < (n : Int) := by omega
    clear h h1 a0 hlt0 h2 h21
    go_enter Try.func8, Try.ntmps8
    go_wp2_with fail
    go_fit (knows32 _)
    rintro e w1 ⟨rfl, hb⟩
    have hbf := bnx hba hb
    go_wp2
    go_ret
    exact ⟨rfl, hbf⟩
  · have g1' : ¬ (300 : Int) < (n : Int) := by omega
    have g2' : (1000 : Int) < (n2 : Int) := by omega
    clear h h1 a0 hlt0 h2 h21
    go_enter Try.func8, Try.ntmps8
    go_wp2_with fail
    go_fit (knows32 _)
    rintro e w1 ⟨rfl, hb⟩
    have hbf := bnx hba hb
    go_wp2
    go_ret
    exact ⟨rfl, hbf⟩
  have g1' : ¬ (300 : Int) < (n : Int) := by omega
  have g2' : ¬ (1000 : Int) < (n2 : Int) := by omega
  have Hp := Lib.hid (fun A n c w h => tlput_any sq sy co id A n c v w h hB)
  have Hth := Lib.hid (fun h => @tlm_there ⟨sq, sy, co, id, v⟩ h m)
  have Hnt := Lib.hid (@tlB_not ⟨sq, sy, co, id, v⟩)
  have Hs := Lib.hid (fun w => tsize_any id w)
  have hl208 := tlB_len ⟨sq, sy, co, id, v⟩
  dsimp only at Hth
  generalize tlE ⟨sq, sy, co, id, v⟩ = oE at *
  generalize tlB ⟨sq, sy, co, id, v⟩ = oB at *
  generalize szS id = N at *
  obtain ⟨i0, hi⟩ := info_parts u8_info
  have Hi := Lib.hid hi
  clear h hB h2 hi
  go_enter Try.func8, Try.ntmps8
  go_wp2_with fail
  go_fit (knows32 _)
  rintro e w1 ⟨rfl, hbx⟩
  have hb1 := bnx hba hbx
  obtain ⟨b0, hb0⟩ : ∃ b0, b0 = w.heap.size := ⟨_, rfl⟩
  rw [← hb0] at a0 hlt0 c4 ⊢
  have a1 := blk_old a0 hbx hlt0
  replace h1 := h1.nx hbx
  replace h21 := h21.nx hbx
  clear c4
  have c0 := blk_cell (i := 0) (v := .int .i64 sq) a1 rfl
  have c1 := blk_cell (i := 1) (v := .int .i64 sy) a1 rfl
  have c2 := blk_cell (i := 2) (v := .int .i64 co) a1 rfl
  have c3 := blk_cell (i := 3) (v := .int .i64 id) a1 rfl
  have c4 := blk_cell (i := 4) (v := .slice A n c) a1 rfl
  clear hbx hba hb0 a0 hlt0
  go_wp2_with fail
  go_fit (Hp.out A n c w1 h1)
  rintro e w3 ⟨Ap, np, kp, rfl, own2, hbx⟩
  have hb3 := bnx hb1 hbx
  have hrp := Rd.own own2
  have hlp := own_len own2
  have h3 := h1.nx hbx
  have h23 := h21.nx hbx
  have a3 := blk_old a1 hbx (blk_lt a1)
  clear c0 c1 c2 c3 c4 own2 hb1 h1 h21 a1 hbx Hp
  go_wp2_with (at_builtin; refine stop_ ?_)
  obtain ⟨g3, hz3⟩ : ∃ g, w3.heap.size = g := ⟨_, rfl⟩
  rw [hz3]
  have own0 := own_empty w3 w3.heap.size 5 (Nat.le_refl _) 1
  have hc4 : Below w3.heap.size w3 (w3.alloc (.cells #[] 5)) := (Below.refl _ _).alloc (Nat.le_refl _) _
  have hr4 := hrp.up hc4
  rw [hz3] at own0
  have Hz3 := Lib.hid hz3
  clear hz3
  generalize (w3.alloc (.cells #[] 5)) = w4 at *
  refine go_ (wpList_appG (base := g3) (n := 0) Try.underlying36 Hi.out rfl (by omega) own0 rfl hr4 rfl (bv_one _) (k := np) (by omega) (List.nil_append _) (by unfold maxLen; omega) (by omega) (by rw [← Hz3.out]; exact hc4.size) ?_)
  intro A5 c5 w5 own5 hgr hob
  have hc5 := Below.grown hc4 hgr hc4.size (fun j hj => by rw [Hz3.out]; exact (own_blk own0 hj).1)
  clear hgr hob own0 hc4 hr4
  have hr5 := h23.up hc5
  go_wp2_with (at_builtin; refine stop_ ?_)
  refine go_ (wpList_appG (base := g3) (n := np) Try.underlying36 Hi.out rfl (by omega) own5 rfl hr5 rfl (bv_one _) (k := np + n2) rfl (bv_app _ _).symm (by unfold maxLen; omega) (by omega) (by rw [← Hz3.out]; exact hc5.size) ?_)
  intro A6 c6 w6 own6 hgr hob
  have hc6 := Below.grown hc5 hgr hc5.size (fun j hj => by rw [Hz3.out]; exact (own_blk own5 hj).1)
  have hr6 := Rd.own own6
  clear hgr hob own5 hc5 hr5 own6
  go_wp2_with fail
  go_fit (tltake_any A6 (np + n2) c6 (oB ++ m) w6 hr6 (by omega))
  unfold RetTl
  rintro e w7 ⟨Aq, nq, kq, rfl, hrq, hbx⟩
  have hc7 := bnx hc6 hbx
  clear hc6 hbx hr6 hrp
  by_cases he : oE = 0
  · obtain ⟨t1, t2, t3, t4⟩ := Hth.out he
    subst he
    rw [t1, t2, t4]
    rw [t4] at hrq
    rw [hlp] at t2 t3 ⊢
    subst t3
    clear t1 t2 t4 Hth Hnt hlp
    dsimp only at hrq ⊢
    have hcb : Below w7.heap.size w7 (w7.alloc (.cells #[.int .i64 sq, .int .i64 sy, .int .i64 co, .int .i64 id, .slice Aq nq kq] 48)) := (Below.refl _ _).alloc (Nat.le_refl _) _
    have a8 := heap_alloc_new w7 (.cells #[.int .i64 sq, .int .i64 sy, .int .i64 co, .int .i64 id, .slice Aq nq kq] 48)
    have hc8 := bnx hc7 hcb
    have ap := blk_old a3 hc8 (blk_lt a3)
    have h8 := h3.nx hc8
    have h2 := h23.nx hc8
    have hrq8 := hrq.nx hcb
    have hb8 := bnx hb3 hc8
    clear hcb hrq h3 h23 hc7 hc8 a3 hb3 Hz3
    have c0 := blk_cell (i := 0) (v := .int .i64 sq) ap rfl
    have c1 := blk_cell (i := 1) (v := .int .i64 sy) ap rfl
    have c2 := blk_cell (i := 2) (v := .int .i64 co) ap rfl
    have c3 := blk_cell (i := 3) (v := .int .i64 id) ap rfl
    have c4 := blk_cell (i := 4) (v := .slice A n c) ap rfl
    have d0 := blk_cell (i := 0) (v := .int .i64 sq) a8 rfl
    have d1 := blk_cell (i := 1) (v := .int .i64 sy) a8 rfl
    have d2 := blk_cell (i := 2) (v := .int .i64 co) a8 rfl
    have d3 := blk_cell (i := 3) (v := .int .i64 id) a8 rfl
    have d4 := blk_cell (i := 4) (v := .slice Aq nq kq) a8 rfl
    go_wp2_with fail
    generalize (w7.alloc (.cells #[.int .i64 sq, .int .i64 sy, .int .i64 co, .int .i64 id, .slice Aq nq kq] 48)) = w8 at *
    go_fit (num32_any _ _)
    rintro e wn ⟨rfl, rfl⟩
    go_wp2_with fail
    go_fit (num32_any _ _)
    rintro e wn ⟨rfl, rfl⟩
    go_wp2_with fail
    go_fit (Hs.out w8)
    rintro e w9 ⟨rfl, hbx⟩
    have hb9 := bnx hb8 hbx
    have ap9 := blk_old ap hbx (blk_lt ap)
    have a9 := blk_old a8 hbx (blk_lt a8)
    replace h2 := h2.nx hbx
    have h9 := h8.nx hbx
    have hrq9 := hrq8.nx hbx
    clear c0 c1 c2 c3 c4 d0 d1 d2 d3 d4 ap a8 hbx hb8 h8 hrq8
    have c0 := blk_cell (i := 0) (v := .int .i64 sq) ap9 rfl
    have c1 := blk_cell (i := 1) (v := .int .i64 sy) ap9 rfl
    have c2 := blk_cell (i := 2) (v := .int .i64 co) ap9 rfl
    have c3 := blk_cell (i := 3) (v := .int .i64 id) ap9 rfl
    have c4 := blk_cell (i := 4) (v := .slice A n c) ap9 rfl
    have d0 := blk_cell (i := 0) (v := .int .i64 sq) a9 rfl
    have d1 := blk_cell (i := 1) (v := .int .i64 sy) a9 rfl
    have d2 := blk_cell (i := 2) (v := .int .i64 co) a9 rfl
    have d3 := blk_cell (i := 3) (v := .int .i64 id) a9 rfl
    have d4 := blk_cell (i := 4) (v := .slice Aq nq kq) a9 rfl
    go_wp2_with fail
    go_fit (psame_any sq sy co id A n c Aq nq kq v w9 h9 hrq9)
    rintro e wt ⟨rfl, hbx⟩
    have hbt := bnx hb9 hbx
    replace h2 := h2.nx hbx
    clear c0 c1 c2 c3 c4 d0 d1 d2 d3 d4 hbx hb9 h9 hrq9 ap9 a9
    go_wp2_with fail
    go_fit (num32_any _ _)
    rintro e wn ⟨rfl, rfl⟩
    go_wp2_with fail
    go_fit (tltake_any A2 n2 c2 m wt h2 (by omega))
    unfold RetTl
    rintro e wu ⟨Ax, nx, kx, rfl, hrx, hbx⟩
    have hbu := bnx hbt hbx
    replace h2 := h2.nx hbx
    clear hbx hbt
    have Hb := Lib.hid (@tlm_back m)
    have Hpb := Lib.hid (@tkP_B m)
    have Hpn := Lib.hid (@tkP_not m)
    have hkl := tkN_le m
    have hlm := h2.blen
    generalize tkN m = oN at *
    generalize tkP m = Q at *
    generalize tkE m = oG at *
    obtain ⟨qsq, qsy, qco, qid, qv⟩ := Q
    dsimp only at hrx ⊢
    have ax := heap_alloc_new wu (.cells #[.int .i64 qsq, .int .i64 qsy, .int .i64 qco, .int .i64 qid, .slice Ax nx kx] 48)
    have hbx : Below wu.heap.size wu (wu.alloc (.cells #[.int .i64 qsq, .int .i64 qsy, .int .i64 qco, .int .i64 qid, .slice Ax nx kx] 48)) := (Below.refl _ _).alloc (Nat.le_refl _) _
    have hbv := bnx hbu hbx
    have hrx2 := hrx.nx hbx
    replace h2 := h2.nx hbx
    obtain ⟨gx, hgx⟩ : ∃ g, g = wu.heap.size := ⟨_, rfl⟩
    rw [← hgx] at ax
    clear hbu hbx hrx
    go_wp2_with fail
    rw [← hgx]
    clear hgx
    generalize (wu.alloc (.cells #[.int .i64 qsq, .int .i64 qsy, .int .i64 qco, .int .i64 qid, .slice Ax nx kx] 48)) = wv at *
    go_fit (num32_any _ _)
    rintro e wn ⟨rfl, rfl⟩
    by_cases hg : oG = 0
    · subst hg
      obtain ⟨b1, b2, b3, b4⟩ := Hb.out rfl
      have hput := tlput_any qsq qsy qco qid Ax nx kx qv wv hrx2 (Hpb.out rfl)
      rw [b1, b2] at hput
      have Hput := Lib.hid hput
      clear hput b1 b2 b4 Hb Hpb Hpn hrx2
      have d0 := blk_cell (i := 0) (v := .int .i64 qsq) ax rfl
      have d1 := blk_cell (i := 1) (v := .int .i64 qsy) ax rfl
      have d2 := blk_cell (i := 2) (v := .int .i64 qco) ax rfl
      have d3 := blk_cell (i := 3) (v := .int .i64 qid) ax rfl
      have d4 := blk_cell (i := 4) (v := .slice Ax nx kx) ax rfl
      clear ax
      go_wp2_with fail
      go_fit Hput.out
      rintro e wy ⟨As, ns, ks, rfl, owns, hbx⟩
      have hby := bnx hbv hbx
      have hrs := Rd.own owns
      have hr2 := h2.nx hbx
      clear d0 d1 d2 d3 d4 owns hbx hbv h2 Hput
      have hNn : oN ≤ n2 := by omega
      have hrm := hr2.btake (k := oN) hNn
      have hle2' := hr2.le
      have hcut : ∀ w, (Instr.slice 36 (.slice A2 n2 c2) none (some (.int .i64 (oN : Int))) none).run Try.prog w = .ok (.slice A2 oN c2) w := run_cut_h (P := Try.prog) Try.underlying36 Hi.out.1 A2 n2 c2 oN (by omega)
      have Hcut := Lib.hid hcut
      have hN1 : (oN : Int) ≤ (n2 : Int) := by omega
      have hN2 : (8 : Int) ≤ (oN : Int) := by omega
      clear hcut hr2
      go_wp2_with fail
      refine Ord.region_ (fun w' => Below wy.heap.size wy w') false [] (by kernel_rfl) (by kernel_rfl) (Below.refl _ _).drew ?_
      have hbz : Below wy.heap.size wy wy.drew := (Below.refl _ _).drew
      generalize wy.drew = wz at *
      ((with_reducible refine Ord.e_p (v := ?_) ?_ ?_ ?_ ?_); rotate_left; (· exact rfl); (· kernel_rfl); (· intro w2; go_simp; try with_reducible rfl))
      (try simp only [Act.put, List.setIfInBounds_toArray, List.set_cons_zero, List.set_cons_succ])
      refine Ord.e_x rfl (by kernel_rfl) ?_
      go_wp2_with fail
      go_fit (num32_any _ _)
      rintro e w5 ⟨rfl, rfl⟩
      go_wp2_with fail
      refine Ord.Seg.go hbz (fun h => by cases h) ?_
      (try simp only [Act.put, List.setIfInBounds_toArray, List.set_cons_zero, List.set_cons_succ])
      refine Ord.e_p (v := .bool true) rfl (by kernel_rfl) (fun w2 => by go_simp) ?_
      (try simp only [Act.put, List.setIfInBounds_toArray, List.set_cons_zero, List.set_cons_succ])
      ((with_reducible refine Ord.e_p (v := ?_) ?_ ?_ ?_ ?_); rotate_left; (· exact rfl); (· kernel_rfl); (· intro w2; go_simp; try with_reducible rfl))
      (try simp only [Act.put, List.setIfInBounds_toArray, List.set_cons_zero, List.set_cons_succ])
      ((with_reducible refine Ord.e_p (v := ?_) ?_ ?_ ?_ ?_); rotate_left; (· exact rfl); (· kernel_rfl); (· intro w2; go_simp; try with_reducible rfl))
      (try simp only [Act.put, List.setIfInBounds_toArray, List.set_cons_zero, List.set_cons_succ])
      ((with_reducible refine Ord.e_p (v := ?_) ?_ ?_ ?_ ?_); rotate_left; (· exact rfl); (· kernel_rfl); (· intro w2; go_simp; try with_reducible rfl))
      (try simp only [Act.put, List.setIfInBounds_toArray, List.set_cons_zero, List.set_cons_succ])
      ((with_reducible refine Ord.e_p (v := ?_) ?_ ?_ ?_ ?_); rotate_left; (· exact rfl); (· kernel_rfl); (· intro w2; go_simp; try with_reducible rfl))
      (try simp only [Act.put, List.setIfInBounds_toArray, List.set_cons_zero, List.set_cons_succ])
      refine Ord.e_p (v := .bool true) rfl (by kernel_rfl) (fun w2 => by go_simp) ?_
      (try simp only [Act.put, List.setIfInBounds_toArray, List.set_cons_zero, List.set_cons_succ])
      ((with_reducible refine Ord.e_p (v := ?_) ?_ ?_ ?_ ?_); rotate_left; (· exact rfl); (· kernel_rfl); (· intro w2; go_simp; try with_reducible rfl))
      (try simp only [Act.put, List.setIfInBounds_toArray, List.set_cons_zero, List.set_cons_succ])
      ((with_reducible refine Ord.e_p (v := ?_) ?_ ?_ ?_ ?_); rotate_left; (· exact rfl); (· kernel_rfl); (· intro w2; go_simp; try with_reducible rfl))
      (try simp only [Act.put, List.setIfInBounds_toArray, List.set_cons_zero, List.set_cons_succ])
      ((with_reducible refine Ord.e_p (v := ?_) ?_ ?_ ?_ ?_); rotate_left; (· exact rfl); (· kernel_rfl); (· intro w2; go_simp; try with_reducible rfl))
      (try simp only [Act.put, List.setIfInBounds_toArray, List.set_cons_zero, List.set_cons_succ])
      refine Ord.e_p (v := .bool true) rfl (by kernel_rfl) (fun w2 => by go_simp) ?_
      (try simp only [Act.put, List.setIfInBounds_toArray, List.set_cons_zero, List.set_cons_succ])
      ((with_reducible refine Ord.e_p (v := ?_) ?_ ?_ ?_ ?_); rotate_left; (· exact rfl); (· kernel_rfl); (· intro w2; go_simp; try with_reducible rfl))
      (try simp only [Act.put, List.setIfInBounds_toArray, List.set_cons_zero, List.set_cons_succ])
      ((with_reducible refine Ord.e_p (v := ?_) ?_ ?_ ?_ ?_); rotate_left; (· exact rfl); (· kernel_rfl); (· intro w2; go_simp; try with_reducible rfl))
      (try simp only [Act.put, List.setIfInBounds_toArray, List.set_cons_zero, List.set_cons_succ])
      ((with_reducible refine Ord.e_p (v := ?_) ?_ ?_ ?_ ?_); rotate_left; (· exact rfl); (· kernel_rfl); (· intro w2; go_simp; try with_reducible rfl))
      (try simp only [Act.put, List.setIfInBounds_toArray, List.set_cons_zero, List.set_cons_succ])
      refine Ord.e_strS Try.underlying36 Try.underlying5 Try.underlying9 (fun w' hS => hrs.up (show Below _ wy w' from hS)) hbz hbz.size rfl (by kernel_rfl) ?_
      (try simp only [Act.put, List.setIfInBounds_toArray, List.set_cons_zero, List.set_cons_succ])
      ((with_reducible refine Ord.e_p (v := ?_) ?_ ?_ ?_ ?_); rotate_left; (· exact rfl); (· kernel_rfl); (· intro w2; go_simp; try with_reducible rfl))
      (try simp only [Act.put, List.setIfInBounds_toArray, List.set_cons_zero, List.set_cons_succ])
      ((with_reducible refine Ord.e_p (v := ?_) ?_ ?_ ?_ ?_); rotate_left; (· exact rfl); (· kernel_rfl); (· intro w2; go_simp; try with_reducible rfl))
      (try simp only [Act.put, List.setIfInBounds_toArray, List.set_cons_zero, List.set_cons_succ])
      refine Ord.e_p (v := .slice A2 oN c2) rfl (by kernel_rfl) (fun w2 => by have hcut := Hcut.out w2; go_simp) ?_
      (try simp only [Act.put, List.setIfInBounds_toArray, List.set_cons_zero, List.set_cons_succ])
      refine Ord.e_strS Try.underlying36 Try.underlying5 Try.underlying9 (fun w' hS => hrm.up (show Below _ wy w' from hS)) hbz hbz.size rfl (by kernel_rfl) ?_
      (try simp only [Act.put, List.setIfInBounds_toArray, List.set_cons_zero, List.set_cons_succ])
      refine Ord.e_p (v := .bool true) rfl (by kernel_rfl) (fun w2 => by go_simp) ?_
      (try simp only [Act.put, List.setIfInBounds_toArray, List.set_cons_zero, List.set_cons_succ])
      ((with_reducible refine Ord.e_p (v := ?_) ?_ ?_ ?_ ?_); rotate_left; (· exact rfl); (· kernel_rfl); (· intro w2; go_simp; try with_reducible rfl))
      (try simp only [Act.put, List.setIfInBounds_toArray, List.set_cons_zero, List.set_cons_succ])
      ((with_reducible refine Ord.e_p (v := ?_) ?_ ?_ ?_ ?_); rotate_left; (· exact rfl); (· kernel_rfl); (· intro w2; go_simp; try with_reducible rfl))
      (try simp only [Act.put, List.setIfInBounds_toArray, List.set_cons_zero, List.set_cons_succ])
      refine Ord.e_nil ?_
      have hbf := bnx hby hbz
      clear hbz hby hrs hrm
      go_wp2
      go_ret
      exact ⟨rfl, hbf⟩
    · have hz := Hpn.out hg
      injection hz with z1 z2 z3 z4 z5
      subst z1
      subst z2
      subst z3
      subst z4
      subst z5
      have hg' : ¬ (oG : Int) = 0 := by omega
      have hgq : ((oG : Int) != 0) = true := by simp; exact hg
      have hN1 : (oN : Int) ≤ (n2 : Int) := by omega
      have hrz : Rd wv wv.heap.size 1 none 0 0 (([] : List Int).map (Value.int .i64)) := Rd.none_ _ _ _
      have d0 := blk_cell (i := 0) (v := .int .i64 0) ax rfl
      have d1 := blk_cell (i := 1) (v := .int .i64 0) ax rfl
      have d2 := blk_cell (i := 2) (v := .int .i64 0) ax rfl
      have d3 := blk_cell (i := 3) (v := .int .i64 0) ax rfl
      have d4 := blk_cell (i := 4) (v := .slice Ax nx kx) ax rfl
      clear ax h2 Hb Hpb Hpn
      go_wp2_with fail
      go_fit (psame_any 0 0 0 0 Ax nx kx none 0 0 [] wv hrx2 hrz)
      rintro e wy ⟨rfl, hbx⟩
      have hbf := bnx hbv hbx
      clear d0 d1 d2 d3 d4 hbx hbv hrx2 hrz
      go_wp2
      go_ret
      exact ⟨by simp, hbf⟩
  · have hn0 : oB = [] := Hnt.out he
    obtain rfl : np = 0 := by rw [← hlp, hn0]; rfl
    have he' : ¬ (oE : Int) = 0 := by omega
    have heq : ((oE : Int) == 0) = false := by simp; exact he
    have hen : ((oE : Int) != 0) = true := by simp; exact he
    generalize tkP (oB ++ m) = Q at *
    generalize tkN (oB ++ m) = oN0 at *
    generalize tkE (oB ++ m) = oF at *
    obtain ⟨psq, psy, pco, pid, pv⟩ := Q
    dsimp only at hrq ⊢
    have hcb : Below w7.heap.size w7 (w7.alloc (.cells #[.int .i64 psq, .int .i64 psy, .int .i64 pco, .int .i64 pid, .slice Aq nq kq] 48)) := (Below.refl _ _).alloc (Nat.le_refl _) _
    have hc8 := bnx hc7 hcb
    have h2 := h23.nx hc8
    have hbt := bnx hb3 hc8
    clear hcb hrq h3 h23 hc7 hc8 a3 hb3 Hz3 Hth Hnt Hs hlp hn0 he
    go_wp2_with fail
    generalize (w7.alloc (.cells #[.int .i64 psq, .int .i64 psy, .int .i64 pco, .int .i64 pid, .slice Aq nq kq] 48)) = wt at *
    go_fit (num32_any _ _)
    rintro e wn ⟨rfl, rfl⟩
    go_wp2_with fail
    go_fit (num32_any _ _)
    rintro e wn ⟨rfl, rfl⟩
    go_wp2_with fail
    go_fit (tltake_any A2 n2 c2 m wt h2 (by omega))
    unfold RetTl
    rintro e wu ⟨Ax, nx, kx, rfl, hrx, hbx⟩
    have hbu := bnx hbt hbx
    replace h2 := h2.nx hbx
    clear hbx hbt
    have Hb := Lib.hid (@tlm_back m)
    have Hpb := Lib.hid (@tkP_B m)
    have Hpn := Lib.hid (@tkP_not m)
    have hkl := tkN_le m
    have hlm := h2.blen
    generalize tkN m = oN at *
    generalize tkP m = Q at *
    generalize tkE m = oG at *
    obtain ⟨qsq, qsy, qco, qid, qv⟩ := Q
    dsimp only at hrx ⊢
    have ax := heap_alloc_new wu (.cells #[.int .i64 qsq, .int .i64 qsy, .int .i64 qco, .int .i64 qid, .slice Ax nx kx] 48)
    have hbx : Below wu.heap.size wu (wu.alloc (.cells #[.int .i64 qsq, .int .i64 qsy, .int .i64 qco, .int .i64 qid, .slice Ax nx kx] 48)) := (Below.refl _ _).alloc (Nat.le_refl _) _
    have hbv := bnx hbu hbx
    have hrx2 := hrx.nx hbx
    replace h2 := h2.nx hbx
    obtain ⟨gx, hgx⟩ : ∃ g, g = wu.heap.size := ⟨_, rfl⟩
    rw [← hgx] at ax
    clear hbu hbx hrx
    go_wp2_with fail
    rw [← hgx]
    clear hgx
    generalize (wu.alloc (.cells #[.int .i64 qsq, .int .i64 qsy, .int .i64 qco, .int .i64 qid, .slice Ax nx kx] 48)) = wv at *
    go_fit (num32_any _ _)
    rintro e wn ⟨rfl, rfl⟩
    by_cases hg : oG = 0
    · subst hg
      obtain ⟨b1, b2, b3, b4⟩ := Hb.out rfl
      have hput := tlput_any qsq qsy qco qid Ax nx kx qv wv hrx2 (Hpb.out rfl)
      rw [b1, b2] at hput
      have Hput := Lib.hid hput
      clear hput b1 b2 b4 Hb Hpb Hpn hrx2
      have d0 := blk_cell (i := 0) (v := .int .i64 qsq) ax rfl
      have d1 := blk_cell (i := 1) (v := .int .i64 qsy) ax rfl
      have d2 := blk_cell (i := 2) (v := .int .i64 qco) ax rfl
      have d3 := blk_cell (i := 3) (v := .int .i64 qid) ax rfl
      have d4 := blk_cell (i := 4) (v := .slice Ax nx kx) ax rfl
      clear ax
      go_wp2_with fail
      go_fit Hput.out
      rintro e wy ⟨As, ns, ks, rfl, owns, hbx⟩
      have hby := bnx hbv hbx
      have hrs := Rd.own owns
      have hr2 := h2.nx hbx
      clear d0 d1 d2 d3 d4 owns hbx hbv h2 Hput
      have hNn : oN ≤ n2 := by omega
      have hrm := hr2.btake (k := oN) hNn
      have hle2' := hr2.le
      have hcut : ∀ w, (Instr.slice 36 (.slice A2 n2 c2) none (some (.int .i64 (oN : Int))) none).run Try.prog w = .ok (.slice A2 oN c2) w := run_cut_h (P := Try.prog) Try.underlying36 Hi.out.1 A2 n2 c2 oN (by omega)
      have Hcut := Lib.hid hcut
      have hN1 : (oN : Int) ≤ (n2 : Int) := by omega
      have hN2 : (8 : Int) ≤ (oN : Int) := by omega
      clear hcut hr2
      go_wp2_with fail
      refine Ord.region_ (fun w' => Below wy.heap.size wy w') false [] (by kernel_rfl) (by kernel_rfl) (Below.refl _ _).drew ?_
      have hbz : Below wy.heap.size wy wy.drew := (Below.refl _ _).drew
      generalize wy.drew = wz at *
      ((with_reducible refine Ord.e_p (v := ?_) ?_ ?_ ?_ ?_); rotate_left; (· exact rfl); (· kernel_rfl); (· intro w2; go_simp; try with_reducible rfl))
      (try simp only [Act.put, List.setIfInBounds_toArray, List.set_cons_zero, List.set_cons_succ])
      refine Ord.e_x rfl (by kernel_rfl) ?_
      go_wp2_with fail
      go_fit (num32_any _ _)
      rintro e w5 ⟨rfl, rfl⟩
      go_wp2_with fail
      refine Ord.Seg.go hbz (fun h => by cases h) ?_
      (try simp only [Act.put, List.setIfInBounds_toArray, List.set_cons_zero, List.set_cons_succ])
      refine Ord.e_p (v := .bool true) rfl (by kernel_rfl) (fun w2 => by go_simp) ?_
      (try simp only [Act.put, List.setIfInBounds_toArray, List.set_cons_zero, List.set_cons_succ])
      ((with_reducible refine Ord.e_p (v := ?_) ?_ ?_ ?_ ?_); rotate_left; (· exact rfl); (· kernel_rfl); (· intro w2; go_simp; try with_reducible rfl))
      (try simp only [Act.put, List.setIfInBounds_toArray, List.set_cons_zero, List.set_cons_succ])
      ((with_reducible refine Ord.e_p (v := ?_) ?_ ?_ ?_ ?_); rotate_left; (· exact rfl); (· kernel_rfl); (· intro w2; go_simp; try with_reducible rfl))
      (try simp only [Act.put, List.setIfInBounds_toArray, List.set_cons_zero, List.set_cons_succ])
      ((with_reducible refine Ord.e_p (v := ?_) ?_ ?_ ?_ ?_); rotate_left; (· exact rfl); (· kernel_rfl); (· intro w2; go_simp; try with_reducible rfl))
      (try simp only [Act.put, List.setIfInBounds_toArray, List.set_cons_zero, List.set_cons_succ])
      ((with_reducible refine Ord.e_p (v := ?_) ?_ ?_ ?_ ?_); rotate_left; (· exact rfl); (· kernel_rfl); (· intro w2; go_simp; try with_reducible rfl))
      (try simp only [Act.put, List.setIfInBounds_toArray, List.set_cons_zero, List.set_cons_succ])
      refine Ord.e_p (v := .bool true) rfl (by kernel_rfl) (fun w2 => by go_simp) ?_
      (try simp only [Act.put, List.setIfInBounds_toArray, List.set_cons_zero, List.set_cons_succ])
      ((with_reducible refine Ord.e_p (v := ?_) ?_ ?_ ?_ ?_); rotate_left; (· exact rfl); (· kernel_rfl); (· intro w2; go_simp; try with_reducible rfl))
      (try simp only [Act.put, List.setIfInBounds_toArray, List.set_cons_zero, List.set_cons_succ])
      ((with_reducible refine Ord.e_p (v := ?_) ?_ ?_ ?_ ?_); rotate_left; (· exact rfl); (· kernel_rfl); (· intro w2; go_simp; try with_reducible rfl))
      (try simp only [Act.put, List.setIfInBounds_toArray, List.set_cons_zero, List.set_cons_succ])
      ((with_reducible refine Ord.e_p (v := ?_) ?_ ?_ ?_ ?_); rotate_left; (· exact rfl); (· kernel_rfl); (· intro w2; go_simp; try with_reducible rfl))
      (try simp only [Act.put, List.setIfInBounds_toArray, List.set_cons_zero, List.set_cons_succ])
      refine Ord.e_p (v := .bool true) rfl (by kernel_rfl) (fun w2 => by go_simp) ?_
      (try simp only [Act.put, List.setIfInBounds_toArray, List.set_cons_zero, List.set_cons_succ])
      ((with_reducible refine Ord.e_p (v := ?_) ?_ ?_ ?_ ?_); rotate_left; (· exact rfl); (· kernel_rfl); (· intro w2; go_simp; try with_reducible rfl))
      (try simp only [Act.put, List.setIfInBounds_toArray, List.set_cons_zero, List.set_cons_succ])
      ((with_reducible refine Ord.e_p (v := ?_) ?_ ?_ ?_ ?_); rotate_left; (· exact rfl); (· kernel_rfl); (· intro w2; go_simp; try with_reducible rfl))
      (try simp only [Act.put, List.setIfInBounds_toArray, List.set_cons_zero, List.set_cons_succ])
      ((with_reducible refine Ord.e_p (v := ?_) ?_ ?_ ?_ ?_); rotate_left; (· exact rfl); (· kernel_rfl); (· intro w2; go_simp; try with_reducible rfl))
      (try simp only [Act.put, List.setIfInBounds_toArray, List.set_cons_zero, List.set_cons_succ])
      refine Ord.e_strS Try.underlying36 Try.underlying5 Try.underlying9 (fun w' hS => hrs.up (show Below _ wy w' from hS)) hbz hbz.size rfl (by kernel_rfl) ?_
      (try simp only [Act.put, List.setIfInBounds_toArray, List.set_cons_zero, List.set_cons_succ])
      ((with_reducible refine Ord.e_p (v := ?_) ?_ ?_ ?_ ?_); rotate_left; (· exact rfl); (· kernel_rfl); (· intro w2; go_simp; try with_reducible rfl))
      (try simp only [Act.put, List.setIfInBounds_toArray, List.set_cons_zero, List.set_cons_succ])
      ((with_reducible refine Ord.e_p (v := ?_) ?_ ?_ ?_ ?_); rotate_left; (· exact rfl); (· kernel_rfl); (· intro w2; go_simp; try with_reducible rfl))
      (try simp only [Act.put, List.setIfInBounds_toArray, List.set_cons_zero, List.set_cons_succ])
      refine Ord.e_p (v := .slice A2 oN c2) rfl (by kernel_rfl) (fun w2 => by have hcut := Hcut.out w2; go_simp) ?_
      (try simp only [Act.put, List.setIfInBounds_toArray, List.set_cons_zero, List.set_cons_succ])
      refine Ord.e_strS Try.underlying36 Try.underlying5 Try.underlying9 (fun w' hS => hrm.up (show Below _ wy w' from hS)) hbz hbz.size rfl (by kernel_rfl) ?_
      (try simp only [Act.put, List.setIfInBounds_toArray, List.set_cons_zero, List.set_cons_succ])
      refine Ord.e_p (v := .bool true) rfl (by kernel_rfl) (fun w2 => by go_simp) ?_
      (try simp only [Act.put, List.setIfInBounds_toArray, List.set_cons_zero, List.set_cons_succ])
      ((with_reducible refine Ord.e_p (v := ?_) ?_ ?_ ?_ ?_); rotate_left; (· exact rfl); (· kernel_rfl); (· intro w2; go_simp; try with_reducible rfl))
      (try simp only [Act.put, List.setIfInBounds_toArray, List.set_cons_zero, List.set_cons_succ])
      ((with_reducible refine Ord.e_p (v := ?_) ?_ ?_ ?_ ?_); rotate_left; (· exact rfl); (· kernel_rfl); (· intro w2; go_simp; try with_reducible rfl))
      (try simp only [Act.put, List.setIfInBounds_toArray, List.set_cons_zero, List.set_cons_succ])
      refine Ord.e_nil ?_
      have hbf := bnx hby hbz
      clear hbz hby hrs hrm
      go_wp2
      go_ret
      exact ⟨rfl, hbf⟩
    · have hz := Hpn.out hg
      injection hz with z1 z2 z3 z4 z5
      subst z1
      subst z2
      subst z3
      subst z4
      subst z5
      have hg' : ¬ (oG : Int) = 0 := by omega
      have hgq : ((oG : Int) != 0) = true := by simp; exact hg
      have hN1 : (oN : Int) ≤ (n2 : Int) := by omega
      have hrz : Rd wv wv.heap.size 1 none 0 0 (([] : List Int).map (Value.int .i64)) := Rd.none_ _ _ _
      have d0 := blk_cell (i := 0) (v := .int .i64 0) ax rfl
      have d1 := blk_cell (i := 1) (v := .int .i64 0) ax rfl
      have d2 := blk_cell (i := 2) (v := .int .i64 0) ax rfl
      have d3 := blk_cell (i := 3) (v := .int .i64 0) ax rfl
      have d4 := blk_cell (i := 4) (v := .slice Ax nx kx) ax rfl
      clear ax h2 Hb Hpb Hpn
      go_wp2_with fail
      go_fit (psame_any 0 0 0 0 Ax nx kx none 0 0 [] wv hrx2 hrz)
      rintro e wy ⟨rfl, hbx⟩
      have hbf := bnx hbv hbx
      clear d0 d1 d2 d3 d4 hbx hbv hrx2 hrz
      go_wp2
      go_ret
      exact ⟨by simp, hbf⟩

end Go.Proofs.Ytonejdjhdjckjaa
