/-
  TlmBurst walked (printed by gen_sch6.py).
-/
import Derived.Test.YtonejdjhdjckjaaKTlm7
import Derived.Test.YtonejdjhdjckjaaKGK
set_option linter.unusedSimpArgs false
set_option linter.unusedVariables false
namespace Go.Proofs.Ytonejdjhdjckjaa
open Go.RowKit NumLaw
attribute [local go_sem] Addr.add_mid
attribute [-go_sem] run_eql_struct run_neq_struct

open CrcLaw in
theorem tl_parts (p : PkV) (h : tlE p = 0) : tlB p = [254, u8i ((sPB (frm p.id) p.v).length : Int), u8i p.sq, u8i p.sy, u8i p.co, u8i p.id] ++ sPB (frm p.id) p.v ++ sm2 (frm p.id) (tlI p) ∧ (tlB p).length = (sPB (frm p.id) p.v).length + 8 := by
  have hb : tlB p = [254, u8i ((sPB (frm p.id) p.v).length : Int), u8i p.sq, u8i p.sy, u8i p.co, u8i p.id] ++ sPB (frm p.id) p.v ++ sm2 (frm p.id) (tlI p) := by
    unfold tlB
    rw [if_pos h]
    unfold tlI
    simp
  refine ⟨hb, ?_⟩
  have h3 : (sm2 (frm p.id) (tlI p)).length = 2 := rfl
  rw [hb, List.length_append, List.length_append, h3]
  show 6 + _ + 2 = _
  omega
open CrcLaw in
theorem tl_burstA {p : PkV} (h : tlE p = 0) {b o : List UInt8} {any : Bool} {n : Nat} (hb : b = tlB p) (hn : b.length = n) (hT : Tn_ed ((b.drop 6).take (n - 2 - 6)) o any) :
    tkE (b.take 6 ++ o ++ b.drop (n - 2)) = (if any = true then 4 else 0) ∧ tkN (b.take 6 ++ o ++ b.drop (n - 2)) = if any = true then 0 else n := by
  obtain ⟨e1, e2⟩ := tl_parts p h
  rw [← hb, hn] at e2
  have h1 : b.take 6 = [254, u8i ((sPB (frm p.id) p.v).length : Int), u8i p.sq, u8i p.sy, u8i p.co, u8i p.id] := by rw [hb, e1, List.append_assoc]; rfl
  have h2 : b.drop 6 = sPB (frm p.id) p.v ++ sm2 (frm p.id) (tlI p) := by rw [hb, e1, List.append_assoc]; rfl
  have h3 : (b.drop 6).take (n - 2 - 6) = sPB (frm p.id) p.v := by rw [h2, show n - 2 - 6 = (sPB (frm p.id) p.v).length by omega, List.take_left]
  have h4 : b.drop (n - 2) = sm2 (frm p.id) (tlI p) := by
    rw [show n - 2 = 6 + (sPB (frm p.id) p.v).length by omega, ← List.drop_drop, h2, List.drop_left]
  rw [h3] at hT
  rw [h1, h4]
  obtain ⟨hl, ⟨rfl, rfl⟩ | ⟨rfl, s, m, hs, hm, hm0, hx⟩⟩ := hT
  · rw [if_neg Bool.false_ne_true, if_neg Bool.false_ne_true, ← e1]
    have := tlm_there h []
    rw [List.append_nil] at this
    exact ⟨this.1, by rw [this.2.1, ← hb, hn]⟩
  · rw [if_pos rfl, if_pos rfl]
    refine tlm_other h hl rfl (fun hh => ?_)
    exact sm2_burst (p := frm p.id) (hd := [u8i ((sPB (frm p.id) p.v).length : Int), u8i p.sq, u8i p.sy, u8i p.co, u8i p.id]) hl hs hm hm0 hx hh.symm
open CrcLaw in
theorem tl_burstB {p : PkV} (h : tlE p = 0) {b o : List UInt8} {any : Bool} {n : Nat} (hb : b = tlB p) (hn : b.length = n) (hT : Tn_ed (b.drop (n - 2)) o any) :
    tkE (b.take (n - 2) ++ o ++ b.drop n) = (if any = true then 4 else 0) ∧ tkN (b.take (n - 2) ++ o ++ b.drop n) = if any = true then 0 else n := by
  obtain ⟨e1, e2⟩ := tl_parts p h
  rw [← hb, hn] at e2
  have hl6 : ([254, u8i ((sPB (frm p.id) p.v).length : Int), u8i p.sq, u8i p.sy, u8i p.co, u8i p.id] ++ sPB (frm p.id) p.v : List UInt8).length = n - 2 := by
    rw [List.length_append]
    show 6 + _ = _
    omega
  have h1 : b.take (n - 2) = [254, u8i ((sPB (frm p.id) p.v).length : Int), u8i p.sq, u8i p.sy, u8i p.co, u8i p.id] ++ sPB (frm p.id) p.v := by rw [hb, e1, ← hl6, List.take_left]
  have h2 : b.drop (n - 2) = sm2 (frm p.id) (tlI p) := by rw [hb, e1, ← hl6, List.drop_left]
  have h3 : b.drop n = [] := by rw [← hn]; exact List.drop_length
  rw [h2] at hT
  rw [h1, h3, List.append_nil]
  obtain ⟨hl, ⟨rfl, rfl⟩ | ⟨rfl, s, m, hs, hm, hm0, hx⟩⟩ := hT
  · rw [if_neg Bool.false_ne_true, if_neg Bool.false_ne_true, ← e1]
    have := tlm_there h []
    rw [List.append_nil] at this
    exact ⟨this.1, by rw [this.2.1, ← hb, hn]⟩
  · rw [if_pos rfl, if_pos rfl]
    exact tlm_other h rfl hl (fun hh => num_other hm0 hx hh)
set_option maxRecDepth 20000 in
set_option maxHeartbeats 32000000 in
theorem tlburst_any (sq sy co id : Int) (A : Option Addr) (n c : Nat) (v : List Int) (at_ : Int) (mk : Nat) (sm : Bool) (w : World) (h : Rd w w.heap.size 1 A n c (v.map (Value.int .i64))) (hB : PkB ⟨sq, sy, co, id, v⟩) (hat : -9223372036854775808 ≤ at_ ∧ at_ ≤ 9223372036854775807) (hmk : mk < 65536) :
    Calls Try.prog 10 #[.agg #[.int .i64 sq, .int .i64 sy, .int .i64 co, .int .i64 id, .slice A n c], .int .i64 at_, .int .u16 (mk : Int), .bool sm] w fun e w' => e = .returned (.bool true) ∧ Below w.heap.size w w' := by
  clear hat
  have hmx := h.max
  have hle := h.le
  unfold maxLen at hmx
  have a0 := heap_alloc_new w (.cells #[.int .i64 sq, .int .i64 sy, .int .i64 co, .int .i64 id, .slice A n c] 48)
  have hba : Below w.heap.size w (w.alloc (.cells #[.int .i64 sq, .int .i64 sy, .int .i64 co, .int .i64 id, .slice A n c] 48)) := (Below.refl _ _).alloc (Nat.le_refl _) _
  have hlt0 := blk_lt a0
  have h1 := h.nx hba
  have c4 := blk_cell (i := 4) (v := .slice A n c) a0 rfl
  by_cases g1 : 300 < n
  · have g1' : (300 : Int) < (n : Int) := by omega
    clear h h1 a0 hlt0
    go_enter Try.func10, Try.ntmps10
    go_wp2_with fail
    go_fit (knows32 _)
    rintro e w1 ⟨rfl, hb⟩
    have hbf := bnx hba hb
    go_wp2
    go_ret
    exact ⟨rfl, hbf⟩
  have g1' : ¬ (300 : Int) < (n : Int) := by omega
  have Hp := Lib.hid (fun A n c w h => tlput_any sq sy co id A n c v w h hB)
  have HA := Lib.hid (fun h b o any n => @tl_burstA ⟨sq, sy, co, id, v⟩ h b o any n)
  have HBb := Lib.hid (fun h b o any n => @tl_burstB ⟨sq, sy, co, id, v⟩ h b o any n)
  have hl208 := tlB_len ⟨sq, sy, co, id, v⟩
  have h8 := fun h => (tl_parts ⟨sq, sy, co, id, v⟩ h).2
  have hnt := @tlB_not ⟨sq, sy, co, id, v⟩
  obtain ⟨oE, hoE⟩ : ∃ e, e = tlE ⟨sq, sy, co, id, v⟩ := ⟨_, rfl⟩
  obtain ⟨oB, hoB⟩ : ∃ e, e = tlB ⟨sq, sy, co, id, v⟩ := ⟨_, rfl⟩
  rw [← hoE] at h8 hnt
  rw [← hoB] at h8 hnt hl208
  simp only [← hoE, ← hoB] at Hp HA HBb
  clear hoE hoB
  generalize (sPB (frm (PkV.mk sq sy co id v).id) (PkV.mk sq sy co id v).v).length = sl at h8
  have H8 := Lib.hid h8
  have Hnt := Lib.hid hnt
  obtain ⟨i0, hi⟩ := info_parts u8_info
  have Hi := Lib.hid hi
  clear h hB hi h8 hnt
  go_enter Try.func10, Try.ntmps10
  go_wp2_with fail
  go_fit (knows32 _)
  rintro e w1 ⟨rfl, hbx⟩
  have hb1 := bnx hba hbx
  obtain ⟨b0, hb0⟩ : ∃ b0, b0 = w.heap.size := ⟨_, rfl⟩
  rw [← hb0] at a0 hlt0 c4 ⊢
  have a1 := blk_old a0 hbx hlt0
  replace h1 := h1.nx hbx
  clear c4
  have c0 := blk_cell (i := 0) (v := .int .i64 sq) a1 rfl
  have c1 := blk_cell (i := 1) (v := .int .i64 sy) a1 rfl
  have c2 := blk_cell (i := 2) (v := .int .i64 co) a1 rfl
  have c3 := blk_cell (i := 3) (v := .int .i64 id) a1 rfl
  have c4 := blk_cell (i := 4) (v := .slice A n c) a1 rfl
  clear hbx hba hb0 a0 hlt0
  go_wp2_with fail
  go_fit (Hp.out A n c w1 h1)
  rintro e w2 ⟨Ap, np, kp, rfl, own2, hbx⟩
  have hb2 := bnx hb1 hbx
  have hrp := Rd.own own2
  have hlp := own_len own2
  have hlkp := hrp.le
  have hmkp := hrp.max
  unfold maxLen at hmkp
  clear c0 c1 c2 c3 c4 own2 hb1 h1 a1 hbx Hp
  by_cases he : oE = 0
  case neg =>
    have he' : ¬ (oE : Int) = 0 := by omega
    have hen : ((oE : Int) != 0) = true := by simp; exact he
    clear hrp hlp he HA HBb H8 Hnt
    go_wp2_with fail
    go_fit (num32_any _ _)
    rintro e wn ⟨rfl, rfl⟩
    go_wp2_with fail
    go_fit (num32_any _ _)
    rintro e wn ⟨rfl, rfl⟩
    go_wp2
    go_ret
    exact ⟨by simp, hb2⟩
  subst he
  have h8 : 8 ≤ np := by have := H8.out rfl; omega
  have h8' : ¬ (np : Int) < 8 := by omega
  obtain ⟨m2, hm2⟩ : ∃ m : Nat, m = np - 2 := ⟨_, rfl⟩
  have hwm : IntKind.i64.wrap ((np : Int) - 2) = (m2 : Int) := by rw [IntWalk.i64_in _ (by omega)]; omega
  have Hm2 := Lib.hid hm2
  have hm2a : m2 + 2 ≤ np := by omega
  have hm2b : np ≤ m2 + 2 := by omega
  clear hm2
  go_wp2_with fail
  go_fit (num32_any _ _)
  rintro e wn ⟨rfl, rfl⟩
  cases sm with
  | false =>
    have hcutB : ∀ w, (Instr.slice 36 (.slice Ap np kp) (some (.int .i64 6)) (some (.int .i64 (m2 : Int))) none).run Try.prog w = .ok (.slice (cutA Ap kp (6) 1) (m2 - 6) (kp - 6)) w := fun w => run_cut_lh (P := Try.prog) Try.underlying36 Hi.out.1 Hi.out.2.2.1 Ap np kp (6) (m2) (by omega) (by omega) w
    have HcutA : Hid (∀ w, (Instr.slice 36 (.slice Ap np kp) none (some (.int .i64 6)) none).run Try.prog w = .ok (.slice Ap (6) kp) w) := Lib.hid (run_cut_h (P := Try.prog) Try.underlying36 Hi.out.1 Ap np kp (6) (by omega))
    have HcutC : Hid (∀ w, (Instr.slice 36 (.slice Ap np kp) (some (.int .i64 (m2 : Int))) none none).run Try.prog w = .ok (.slice (cutA Ap kp (m2) 1) (np - m2) (kp - m2)) w) := Lib.hid (fun w => by
      have := run_cut_l (P := Try.prog) Try.underlying36 Hi.out.1 Hi.out.2.2.1 Ap np kp (m2) (by omega) w
      rwa [show np - m2 = np - m2 by omega] at this)
    have hrB := (hrp.btake (k := m2) (by omega)).bdrop (k := 6) (by omega)
    rw [List.drop_take] at hrB
    go_wp2_with fail
    go_fit (turned_any at_ mk (m2 - 6) (kp - 6) _ _ w2 (by omega) hrB hmk)
    unfold RetT
    rintro e w5 ⟨o, any, Ao, ko, no, hT, rfl, owno, hbx⟩
    have hb := bnx hb2 hbx
    have Hr1 := Lib.hid ((hrp.nx hbx).btake (k := 6) (by omega))
    have Hr2 := Lib.hid (Rd.own owno)
    have hr3 := (hrp.nx hbx).bdrop (k := m2) (by omega)
    rw [show np - m2 = np - m2 by omega] at hr3
    have Hr3 := Lib.hid hr3
    clear hr3
    have hno : no = m2 - 6 := by
      have h1 := own_len owno
      have h2 := hT.1
      have h3 := hrB.blen
      omega
    have hnoa : no + 6 ≤ m2 := by omega
    have hnob : m2 ≤ no + 6 := by omega
    clear hno
    have hq := HA.out (by first | rfl | trivial) oB o any np rfl hlp (by rw [← Hm2.out]; exact hT)
    rw [← Hm2.out] at hq
    obtain ⟨rE, hrE⟩ : ∃ e : Nat, e = if any = true then 4 else 0 := ⟨_, rfl⟩
    obtain ⟨rN, hrN⟩ : ∃ e : Nat, e = if any = true then 0 else np := ⟨_, rfl⟩
    rw [← hrE, ← hrN] at hq
    have HL := Lib.hid hq
    have HrE := Lib.hid (And.intro hrE hrN)
    clear hq hrE hrN
    clear hbx hb2 hrp hrB owno hcutB hT
    go_wp2_with fail
    refine Ord.region_m [0, 4, 6, 10, 11, 16] [[0, 1, 2, 3, 4, 5, 6, 7, 8, 9, 10, 11, 12, 13, 14, 15, 16, 17, 18, 19], [0, 1, 2, 3, 4, 5, 6, 7, 8, 9, 10, 16, 11, 12, 13, 14, 15, 17, 18, 19], [0, 1, 2, 3, 4, 5, 6, 7, 8, 9, 16, 10, 11, 12, 13, 14, 15, 17, 18, 19], [0, 1, 2, 3, 4, 5, 16, 6, 7, 8, 9, 10, 11, 12, 13, 14, 15, 17, 18, 19], [0, 1, 2, 3, 16, 4, 5, 6, 7, 8, 9, 10, 11, 12, 13, 14, 15, 17, 18, 19], [16, 0, 1, 2, 3, 4, 5, 6, 7, 8, 9, 10, 11, 12, 13, 14, 15, 17, 18, 19]] (fun w' => Below w5.heap.size w5 w') false [] (by kernel_rfl) (by kernel_rfl) ((Below.refl _ _).drew) ?_
    have hS : Below w5.heap.size w5 w5.drew := (Below.refl _ _).drew
    generalize w5.drew = x0 at *
    intro LL hLL
    simp only [List.mem_cons, List.not_mem_nil, or_false] at hLL
    rcases hLL with rfl | rfl | rfl | rfl | rfl | rfl
    · simp only [Ord.lst, List.filterMap_cons, List.filterMap_nil, List.getElem?_toArray, List.getElem?_cons_succ, List.getElem?_cons_zero]
      refine Ord.e_x rfl (by kernel_rfl) ?_
      go_wp2_with fail
      have ownA : (x0.alloc (.cells #[] 5)).ownsRow w5.heap.size 5 1 (.slice (some ⟨x0.heap.size, 0, none⟩) 0 0) 0 [] := own_empty x0 _ _ (hS.size) 1
      have hbx : Below x0.heap.size x0 (x0.alloc (.cells #[] 5)) := (Below.refl _ _).alloc (Nat.le_refl _) _
      replace hS := bnx hS hbx
      refine Ord.Seg.go hS (fun h => by cases h) ?_
      (try simp only [Act.put, List.setIfInBounds_toArray, List.set_cons_zero, List.set_cons_succ])
      generalize (x0.alloc (.cells #[] 5)) = x1 at *
      generalize x0.heap.size = gb at *
      clear hbx
      ((with_reducible refine Ord.e_p (v := ?_) ?_ ?_ ?_ ?_); rotate_left; (· exact rfl); (· kernel_rfl); (· intro w2; go_simp; try with_reducible rfl))
      (try simp only [Act.put, List.setIfInBounds_toArray, List.set_cons_zero, List.set_cons_succ])
      ((with_reducible refine Ord.e_p (v := ?_) ?_ ?_ ?_ ?_); rotate_left; (· exact rfl); (· kernel_rfl); (· intro w2; go_simp; try with_reducible rfl))
      (try simp only [Act.put, List.setIfInBounds_toArray, List.set_cons_zero, List.set_cons_succ])
      refine Ord.e_p (v := .slice Ap (6) kp) rfl (by kernel_rfl) (fun w2 => by have hcut := HcutA.out w2; go_simp) ?_
      (try simp only [Act.put, List.setIfInBounds_toArray, List.set_cons_zero, List.set_cons_succ])
      refine Ord.e_x rfl (by kernel_rfl) ?_
      refine wpList_appG (base := w5.heap.size) Try.underlying36 Hi.out rfl (by omega) ownA rfl (Hr1.out.up hS) rfl (bv_one _) (k := 6) (by omega) (List.nil_append _) (by unfold maxLen; omega) (by omega) hS.size ?_
      intro AB cB x2 ownB hgr hob
      replace hS := Below.grown hS hgr hS.size (fun j hj => by have := (own_blk ownA hj).1; omega)
      clear hgr hob ownA
      go_wp2_with fail
      refine Ord.Seg.go hS (fun h => by cases h) ?_
      (try simp only [Act.put, List.setIfInBounds_toArray, List.set_cons_zero, List.set_cons_succ])
      ((with_reducible refine Ord.e_p (v := ?_) ?_ ?_ ?_ ?_); rotate_left; (· exact rfl); (· kernel_rfl); (· intro w2; go_simp; try with_reducible rfl))
      (try simp only [Act.put, List.setIfInBounds_toArray, List.set_cons_zero, List.set_cons_succ])
      refine Ord.e_x rfl (by kernel_rfl) ?_
      refine wpList_appG (base := w5.heap.size) Try.underlying36 Hi.out rfl (by omega) ownB rfl (Hr2.out.up hS) rfl (bv_one _) (k := 6 + no) (rfl) ((bv_app _ _).symm) (by unfold maxLen; omega) (by omega) hS.size ?_
      intro AC cC x3 ownC hgr hob
      replace hS := Below.grown hS hgr hS.size (fun j hj => by have := (own_blk ownB hj).1; omega)
      clear hgr hob ownB
      go_wp2_with fail
      refine Ord.Seg.go hS (fun h => by cases h) ?_
      (try simp only [Act.put, List.setIfInBounds_toArray, List.set_cons_zero, List.set_cons_succ])
      ((with_reducible refine Ord.e_p (v := ?_) ?_ ?_ ?_ ?_); rotate_left; (· exact rfl); (· kernel_rfl); (· intro w2; go_simp; try with_reducible rfl))
      (try simp only [Act.put, List.setIfInBounds_toArray, List.set_cons_zero, List.set_cons_succ])
      ((with_reducible refine Ord.e_p (v := ?_) ?_ ?_ ?_ ?_); rotate_left; (· exact rfl); (· kernel_rfl); (· intro w2; go_simp; try with_reducible rfl))
      (try simp only [Act.put, List.setIfInBounds_toArray, List.set_cons_zero, List.set_cons_succ])
      refine Ord.e_p (v := .slice (cutA Ap kp (m2) 1) (np - m2) (kp - m2)) rfl (by kernel_rfl) (fun w2 => by have hcut := HcutC.out w2; go_simp) ?_
      (try simp only [Act.put, List.setIfInBounds_toArray, List.set_cons_zero, List.set_cons_succ])
      refine Ord.e_x rfl (by kernel_rfl) ?_
      refine wpList_appG (base := w5.heap.size) Try.underlying36 Hi.out rfl (by omega) ownC rfl (Hr3.out.up hS) rfl (bv_one _) (k := 6 + no + (np - m2)) (by omega) ((bv_app _ _).symm) (by unfold maxLen; omega) (by omega) hS.size ?_
      intro AD cD x4 ownD hgr hob
      replace hS := Below.grown hS hgr hS.size (fun j hj => by have := (own_blk ownC hj).1; omega)
      clear hgr hob ownC
      go_wp2_with fail
      refine Ord.Seg.go hS (fun h => by cases h) ?_
      (try simp only [Act.put, List.setIfInBounds_toArray, List.set_cons_zero, List.set_cons_succ])
      refine Ord.e_x rfl (by kernel_rfl) ?_
      go_wp2_with fail
      go_fit (tltake_any AD (6 + no + (np - m2)) cD _ x4 (Rd.own ownD) (by omega))
      unfold RetTl
      rintro e x5 ⟨Aq, nq, kq, rfl, hrq, hbx⟩
      rw [HL.out.1, HL.out.2]
      replace hS := bnx hS hbx
      clear hbx ownD hrq
      generalize tkP _ = Q
      obtain ⟨qsq, qsy, qco, qid, qv⟩ := Q
      dsimp only
      go_wp2_with fail
      refine Ord.Seg.go hS (fun h => by cases h) ?_
      (try simp only [Act.put, List.setIfInBounds_toArray, List.set_cons_zero, List.set_cons_succ])
      ((with_reducible refine Ord.e_p (v := ?_) ?_ ?_ ?_ ?_); rotate_left; (· exact rfl); (· kernel_rfl); (· intro w2; go_simp; try with_reducible rfl))
      (try simp only [Act.put, List.setIfInBounds_toArray, List.set_cons_zero, List.set_cons_succ])
      ((with_reducible refine Ord.e_p (v := ?_) ?_ ?_ ?_ ?_); rotate_left; (· exact rfl); (· kernel_rfl); (· intro w2; go_simp; try with_reducible rfl))
      (try simp only [Act.put, List.setIfInBounds_toArray, List.set_cons_zero, List.set_cons_succ])
      ((with_reducible refine Ord.e_p (v := ?_) ?_ ?_ ?_ ?_); rotate_left; (· exact rfl); (· kernel_rfl); (· intro w2; go_simp; try with_reducible rfl))
      (try simp only [Act.put, List.setIfInBounds_toArray, List.set_cons_zero, List.set_cons_succ])
      ((with_reducible refine Ord.e_p (v := ?_) ?_ ?_ ?_ ?_); rotate_left; (· exact rfl); (· kernel_rfl); (· intro w2; go_simp; try with_reducible rfl))
      (try simp only [Act.put, List.setIfInBounds_toArray, List.set_cons_zero, List.set_cons_succ])
      refine Ord.e_x rfl (by kernel_rfl) ?_
      go_wp2_with fail
      have hbx : Below x5.heap.size x5 (x5.alloc (.cells #[.int .i64 0, .int .i64 0, .int .i64 0, .int .i64 0, .slice none 0 0] 48)) := (Below.refl _ _).alloc (Nat.le_refl _) _
      have r12 := heap_alloc_new x5 (.cells #[.int .i64 0, .int .i64 0, .int .i64 0, .int .i64 0, .slice none 0 0] 48)
      have hM12 : w5.heap.size ≤ x5.heap.size := hS.size
      replace hS := bnx hS hbx
      refine Ord.Seg.go hS (fun h => by cases h) ?_
      (try simp only [Act.put, List.setIfInBounds_toArray, List.set_cons_zero, List.set_cons_succ])
      generalize (x5.alloc (.cells #[.int .i64 0, .int .i64 0, .int .i64 0, .int .i64 0, .slice none 0 0] 48)) = x6 at *
      generalize x5.heap.size = g12 at *
      clear hbx
      have hlt12 : g12 < x6.heap.size := blk_lt r12
      refine Ord.e_x rfl (by kernel_rfl) ?_
      refine wpList_store_row rfl _ _ _ rfl g12 #[.int .i64 qsq, .int .i64 qsy, .int .i64 qco, .int .i64 qid, .slice Aq nq kq] rfl rfl _ _ r12 (by kernel_rfl) rfl (by kernel_rfl) ?_
      replace hS := below_setRow hS hM12 (#[.int .i64 qsq, .int .i64 qsy, .int .i64 qco, .int .i64 qid, .slice Aq nq kq] : Array Value)
      generalize (x6.setRow g12 #[.int .i64 qsq, .int .i64 qsy, .int .i64 qco, .int .i64 qid, .slice Aq nq kq]) = wz at *
      go_wp2_with fail
      refine Ord.Seg.go hS (fun h => by cases h) ?_
      (try simp only [Act.put, List.setIfInBounds_toArray, List.set_cons_zero, List.set_cons_succ])
      clear r12 hlt12 hM12
      ((with_reducible refine Ord.e_p (v := ?_) ?_ ?_ ?_ ?_); rotate_left; (· exact rfl); (· kernel_rfl); (· intro w2; go_simp; try with_reducible rfl))
      (try simp only [Act.put, List.setIfInBounds_toArray, List.set_cons_zero, List.set_cons_succ])
      ((with_reducible refine Ord.e_p (v := ?_) ?_ ?_ ?_ ?_); rotate_left; (· exact rfl); (· kernel_rfl); (· intro w2; go_simp; try with_reducible rfl))
      (try simp only [Act.put, List.setIfInBounds_toArray, List.set_cons_zero, List.set_cons_succ])
      refine Ord.e_nil ?_
      have hbf := bnx hb hS
      clear hS hb
      cases any with
      | true =>
        obtain rfl : rE = 4 := HrE.out.1
        obtain rfl : rN = 0 := HrE.out.2
        go_wp2_with fail
        go_fit (num32_any _ _)
        rintro e wn ⟨rfl, rfl⟩
        go_wp2_with fail
        go_fit (num32_any _ _)
        rintro e wn ⟨rfl, rfl⟩
        go_wp2
        go_ret
        exact ⟨rfl, hbf⟩
      | false =>
        obtain rfl : rE = 0 := HrE.out.1
        obtain rfl : rN = np := HrE.out.2
        go_wp2_with fail
        go_fit (num32_any _ _)
        rintro e wn ⟨rfl, rfl⟩
        go_wp2
        go_ret
        exact ⟨rfl, hbf⟩
    · simp only [Ord.lst, List.filterMap_cons, List.filterMap_nil, List.getElem?_toArray, List.getElem?_cons_succ, List.getElem?_cons_zero]
      refine Ord.e_x rfl (by kernel_rfl) ?_
      go_wp2_with fail
      have ownA : (x0.alloc (.cells #[] 5)).ownsRow w5.heap.size 5 1 (.slice (some ⟨x0.heap.size, 0, none⟩) 0 0) 0 [] := own_empty x0 _ _ (hS.size) 1
      have hbx : Below x0.heap.size x0 (x0.alloc (.cells #[] 5)) := (Below.refl _ _).alloc (Nat.le_refl _) _
      replace hS := bnx hS hbx
      refine Ord.Seg.go hS (fun h => by cases h) ?_
      (try simp only [Act.put, List.setIfInBounds_toArray, List.set_cons_zero, List.set_cons_succ])
      generalize (x0.alloc (.cells #[] 5)) = x1 at *
      generalize x0.heap.size = gb at *
      clear hbx
      ((with_reducible refine Ord.e_p (v := ?_) ?_ ?_ ?_ ?_); rotate_left; (· exact rfl); (· kernel_rfl); (· intro w2; go_simp; try with_reducible rfl))
      (try simp only [Act.put, List.setIfInBounds_toArray, List.set_cons_zero, List.set_cons_succ])
      ((with_reducible refine Ord.e_p (v := ?_) ?_ ?_ ?_ ?_); rotate_left; (· exact rfl); (· kernel_rfl); (· intro w2; go_simp; try with_reducible rfl))
      (try simp only [Act.put, List.setIfInBounds_toArray, List.set_cons_zero, List.set_cons_succ])
      refine Ord.e_p (v := .slice Ap (6) kp) rfl (by kernel_rfl) (fun w2 => by have hcut := HcutA.out w2; go_simp) ?_
      (try simp only [Act.put, List.setIfInBounds_toArray, List.set_cons_zero, List.set_cons_succ])
      refine Ord.e_x rfl (by kernel_rfl) ?_
      refine wpList_appG (base := w5.heap.size) Try.underlying36 Hi.out rfl (by omega) ownA rfl (Hr1.out.up hS) rfl (bv_one _) (k := 6) (by omega) (List.nil_append _) (by unfold maxLen; omega) (by omega) hS.size ?_
      intro AB cB x2 ownB hgr hob
      replace hS := Below.grown hS hgr hS.size (fun j hj => by have := (own_blk ownA hj).1; omega)
      clear hgr hob ownA
      go_wp2_with fail
      refine Ord.Seg.go hS (fun h => by cases h) ?_
      (try simp only [Act.put, List.setIfInBounds_toArray, List.set_cons_zero, List.set_cons_succ])
      ((with_reducible refine Ord.e_p (v := ?_) ?_ ?_ ?_ ?_); rotate_left; (· exact rfl); (· kernel_rfl); (· intro w2; go_simp; try with_reducible rfl))
      (try simp only [Act.put, List.setIfInBounds_toArray, List.set_cons_zero, List.set_cons_succ])
      refine Ord.e_x rfl (by kernel_rfl) ?_
      refine wpList_appG (base := w5.heap.size) Try.underlying36 Hi.out rfl (by omega) ownB rfl (Hr2.out.up hS) rfl (bv_one _) (k := 6 + no) (rfl) ((bv_app _ _).symm) (by unfold maxLen; omega) (by omega) hS.size ?_
      intro AC cC x3 ownC hgr hob
      replace hS := Below.grown hS hgr hS.size (fun j hj => by have := (own_blk ownB hj).1; omega)
      clear hgr hob ownB
      go_wp2_with fail
      refine Ord.Seg.go hS (fun h => by cases h) ?_
      (try simp only [Act.put, List.setIfInBounds_toArray, List.set_cons_zero, List.set_cons_succ])
      ((with_reducible refine Ord.e_p (v := ?_) ?_ ?_ ?_ ?_); rotate_left; (· exact rfl); (· kernel_rfl); (· intro w2; go_simp; try with_reducible rfl))
      (try simp only [Act.put, List.setIfInBounds_toArray, List.set_cons_zero, List.set_cons_succ])
      ((with_reducible refine Ord.e_p (v := ?_) ?_ ?_ ?_ ?_); rotate_left; (· exact rfl); (· kernel_rfl); (· intro w2; go_simp; try with_reducible rfl))
      (try simp only [Act.put, List.setIfInBounds_toArray, List.set_cons_zero, List.set_cons_succ])
      refine Ord.e_p (v := .slice (cutA Ap kp (m2) 1) (np - m2) (kp - m2)) rfl (by kernel_rfl) (fun w2 => by have hcut := HcutC.out w2; go_simp) ?_
      (try simp only [Act.put, List.setIfInBounds_toArray, List.set_cons_zero, List.set_cons_succ])
      refine Ord.e_x rfl (by kernel_rfl) ?_
      refine wpList_appG (base := w5.heap.size) Try.underlying36 Hi.out rfl (by omega) ownC rfl (Hr3.out.up hS) rfl (bv_one _) (k := 6 + no + (np - m2)) (by omega) ((bv_app _ _).symm) (by unfold maxLen; omega) (by omega) hS.size ?_
      intro AD cD x4 ownD hgr hob
      replace hS := Below.grown hS hgr hS.size (fun j hj => by have := (own_blk ownC hj).1; omega)
      clear hgr hob ownC
      go_wp2_with fail
      refine Ord.Seg.go hS (fun h => by cases h) ?_
      (try simp only [Act.put, List.setIfInBounds_toArray, List.set_cons_zero, List.set_cons_succ])
      refine Ord.e_x rfl (by kernel_rfl) ?_
      go_wp2_with fail
      have hbx : Below x4.heap.size x4 (x4.alloc (.cells #[.int .i64 0, .int .i64 0, .int .i64 0, .int .i64 0, .slice none 0 0] 48)) := (Below.refl _ _).alloc (Nat.le_refl _) _
      have r12 := heap_alloc_new x4 (.cells #[.int .i64 0, .int .i64 0, .int .i64 0, .int .i64 0, .slice none 0 0] 48)
      have hM12 : w5.heap.size ≤ x4.heap.size := hS.size
      have hne : ∀ j, (Value.slice AD (6 + no + (np - m2)) cD).ownBlock = some j → j ≠ x4.heap.size := fun j hj => by have := (own_blk ownD hj).2; omega
      replace ownD := own_up ownD hbx (Nat.le_refl _)
      replace hS := bnx hS hbx
      refine Ord.Seg.go hS (fun h => by cases h) ?_
      (try simp only [Act.put, List.setIfInBounds_toArray, List.set_cons_zero, List.set_cons_succ])
      generalize (x4.alloc (.cells #[.int .i64 0, .int .i64 0, .int .i64 0, .int .i64 0, .slice none 0 0] 48)) = x5 at *
      generalize x4.heap.size = g12 at *
      clear hbx
      have hlt12 : g12 < x5.heap.size := blk_lt r12
      refine Ord.e_x rfl (by kernel_rfl) ?_
      go_wp2_with fail
      go_fit (tltake_any AD (6 + no + (np - m2)) cD _ x5 (Rd.own ownD) (by omega))
      unfold RetTl
      rintro e x6 ⟨Aq, nq, kq, rfl, hrq, hbx⟩
      rw [HL.out.1, HL.out.2]
      replace r12 := blk_old r12 hbx (blk_lt r12)
      replace hS := bnx hS hbx
      clear hbx ownD hrq
      generalize tkP _ = Q
      obtain ⟨qsq, qsy, qco, qid, qv⟩ := Q
      dsimp only
      go_wp2_with fail
      refine Ord.Seg.go hS (fun h => by cases h) ?_
      (try simp only [Act.put, List.setIfInBounds_toArray, List.set_cons_zero, List.set_cons_succ])
      ((with_reducible refine Ord.e_p (v := ?_) ?_ ?_ ?_ ?_); rotate_left; (· exact rfl); (· kernel_rfl); (· intro w2; go_simp; try with_reducible rfl))
      (try simp only [Act.put, List.setIfInBounds_toArray, List.set_cons_zero, List.set_cons_succ])
      ((with_reducible refine Ord.e_p (v := ?_) ?_ ?_ ?_ ?_); rotate_left; (· exact rfl); (· kernel_rfl); (· intro w2; go_simp; try with_reducible rfl))
      (try simp only [Act.put, List.setIfInBounds_toArray, List.set_cons_zero, List.set_cons_succ])
      ((with_reducible refine Ord.e_p (v := ?_) ?_ ?_ ?_ ?_); rotate_left; (· exact rfl); (· kernel_rfl); (· intro w2; go_simp; try with_reducible rfl))
      (try simp only [Act.put, List.setIfInBounds_toArray, List.set_cons_zero, List.set_cons_succ])
      ((with_reducible refine Ord.e_p (v := ?_) ?_ ?_ ?_ ?_); rotate_left; (· exact rfl); (· kernel_rfl); (· intro w2; go_simp; try with_reducible rfl))
      (try simp only [Act.put, List.setIfInBounds_toArray, List.set_cons_zero, List.set_cons_succ])
      refine Ord.e_x rfl (by kernel_rfl) ?_
      refine wpList_store_row rfl _ _ _ rfl g12 #[.int .i64 qsq, .int .i64 qsy, .int .i64 qco, .int .i64 qid, .slice Aq nq kq] rfl rfl _ _ r12 (by kernel_rfl) rfl (by kernel_rfl) ?_
      replace hS := below_setRow hS hM12 (#[.int .i64 qsq, .int .i64 qsy, .int .i64 qco, .int .i64 qid, .slice Aq nq kq] : Array Value)
      generalize (x6.setRow g12 #[.int .i64 qsq, .int .i64 qsy, .int .i64 qco, .int .i64 qid, .slice Aq nq kq]) = wz at *
      go_wp2_with fail
      refine Ord.Seg.go hS (fun h => by cases h) ?_
      (try simp only [Act.put, List.setIfInBounds_toArray, List.set_cons_zero, List.set_cons_succ])
      clear r12 hlt12 hM12
      ((with_reducible refine Ord.e_p (v := ?_) ?_ ?_ ?_ ?_); rotate_left; (· exact rfl); (· kernel_rfl); (· intro w2; go_simp; try with_reducible rfl))
      (try simp only [Act.put, List.setIfInBounds_toArray, List.set_cons_zero, List.set_cons_succ])
      ((with_reducible refine Ord.e_p (v := ?_) ?_ ?_ ?_ ?_); rotate_left; (· exact rfl); (· kernel_rfl); (· intro w2; go_simp; try with_reducible rfl))
      (try simp only [Act.put, List.setIfInBounds_toArray, List.set_cons_zero, List.set_cons_succ])
      refine Ord.e_nil ?_
      have hbf := bnx hb hS
      clear hS hb
      cases any with
      | true =>
        obtain rfl : rE = 4 := HrE.out.1
        obtain rfl : rN = 0 := HrE.out.2
        go_wp2_with fail
        go_fit (num32_any _ _)
        rintro e wn ⟨rfl, rfl⟩
        go_wp2_with fail
        go_fit (num32_any _ _)
        rintro e wn ⟨rfl, rfl⟩
        go_wp2
        go_ret
        exact ⟨rfl, hbf⟩
      | false =>
        obtain rfl : rE = 0 := HrE.out.1
        obtain rfl : rN = np := HrE.out.2
        go_wp2_with fail
        go_fit (num32_any _ _)
        rintro e wn ⟨rfl, rfl⟩
        go_wp2
        go_ret
        exact ⟨rfl, hbf⟩
    · simp only [Ord.lst, List.filterMap_cons, List.filterMap_nil, List.getElem?_toArray, List.getElem?_cons_succ, List.getElem?_cons_zero]
      refine Ord.e_x rfl (by kernel_rfl) ?_
      go_wp2_with fail
      have ownA : (x0.alloc (.cells #[] 5)).ownsRow w5.heap.size 5 1 (.slice (some ⟨x0.heap.size, 0, none⟩) 0 0) 0 [] := own_empty x0 _ _ (hS.size) 1
      have hbx : Below x0.heap.size x0 (x0.alloc (.cells #[] 5)) := (Below.refl _ _).alloc (Nat.le_refl _) _
      replace hS := bnx hS hbx
      refine Ord.Seg.go hS (fun h => by cases h) ?_
      (try simp only [Act.put, List.setIfInBounds_toArray, List.set_cons_zero, List.set_cons_succ])
      generalize (x0.alloc (.cells #[] 5)) = x1 at *
      generalize x0.heap.size = gb at *
      clear hbx
      ((with_reducible refine Ord.e_p (v := ?_) ?_ ?_ ?_ ?_); rotate_left; (· exact rfl); (· kernel_rfl); (· intro w2; go_simp; try with_reducible rfl))
      (try simp only [Act.put, List.setIfInBounds_toArray, List.set_cons_zero, List.set_cons_succ])
      ((with_reducible refine Ord.e_p (v := ?_) ?_ ?_ ?_ ?_); rotate_left; (· exact rfl); (· kernel_rfl); (· intro w2; go_simp; try with_reducible rfl))
      (try simp only [Act.put, List.setIfInBounds_toArray, List.set_cons_zero, List.set_cons_succ])
      refine Ord.e_p (v := .slice Ap (6) kp) rfl (by kernel_rfl) (fun w2 => by have hcut := HcutA.out w2; go_simp) ?_
      (try simp only [Act.put, List.setIfInBounds_toArray, List.set_cons_zero, List.set_cons_succ])
      refine Ord.e_x rfl (by kernel_rfl) ?_
      refine wpList_appG (base := w5.heap.size) Try.underlying36 Hi.out rfl (by omega) ownA rfl (Hr1.out.up hS) rfl (bv_one _) (k := 6) (by omega) (List.nil_append _) (by unfold maxLen; omega) (by omega) hS.size ?_
      intro AB cB x2 ownB hgr hob
      replace hS := Below.grown hS hgr hS.size (fun j hj => by have := (own_blk ownA hj).1; omega)
      clear hgr hob ownA
      go_wp2_with fail
      refine Ord.Seg.go hS (fun h => by cases h) ?_
      (try simp only [Act.put, List.setIfInBounds_toArray, List.set_cons_zero, List.set_cons_succ])
      ((with_reducible refine Ord.e_p (v := ?_) ?_ ?_ ?_ ?_); rotate_left; (· exact rfl); (· kernel_rfl); (· intro w2; go_simp; try with_reducible rfl))
      (try simp only [Act.put, List.setIfInBounds_toArray, List.set_cons_zero, List.set_cons_succ])
      refine Ord.e_x rfl (by kernel_rfl) ?_
      refine wpList_appG (base := w5.heap.size) Try.underlying36 Hi.out rfl (by omega) ownB rfl (Hr2.out.up hS) rfl (bv_one _) (k := 6 + no) (rfl) ((bv_app _ _).symm) (by unfold maxLen; omega) (by omega) hS.size ?_
      intro AC cC x3 ownC hgr hob
      replace hS := Below.grown hS hgr hS.size (fun j hj => by have := (own_blk ownB hj).1; omega)
      clear hgr hob ownB
      go_wp2_with fail
      refine Ord.Seg.go hS (fun h => by cases h) ?_
      (try simp only [Act.put, List.setIfInBounds_toArray, List.set_cons_zero, List.set_cons_succ])
      ((with_reducible refine Ord.e_p (v := ?_) ?_ ?_ ?_ ?_); rotate_left; (· exact rfl); (· kernel_rfl); (· intro w2; go_simp; try with_reducible rfl))
      (try simp only [Act.put, List.setIfInBounds_toArray, List.set_cons_zero, List.set_cons_succ])
      ((with_reducible refine Ord.e_p (v := ?_) ?_ ?_ ?_ ?_); rotate_left; (· exact rfl); (· kernel_rfl); (· intro w2; go_simp; try with_reducible rfl))
      (try simp only [Act.put, List.setIfInBounds_toArray, List.set_cons_zero, List.set_cons_succ])
      refine Ord.e_p (v := .slice (cutA Ap kp (m2) 1) (np - m2) (kp - m2)) rfl (by kernel_rfl) (fun w2 => by have hcut := HcutC.out w2; go_simp) ?_
      (try simp only [Act.put, List.setIfInBounds_toArray, List.set_cons_zero, List.set_cons_succ])
      refine Ord.e_x rfl (by kernel_rfl) ?_
      go_wp2_with fail
      have hbx : Below x3.heap.size x3 (x3.alloc (.cells #[.int .i64 0, .int .i64 0, .int .i64 0, .int .i64 0, .slice none 0 0] 48)) := (Below.refl _ _).alloc (Nat.le_refl _) _
      have r12 := heap_alloc_new x3 (.cells #[.int .i64 0, .int .i64 0, .int .i64 0, .int .i64 0, .slice none 0 0] 48)
      have hM12 : w5.heap.size ≤ x3.heap.size := hS.size
      have hne : ∀ j, (Value.slice AC (6 + no) cC).ownBlock = some j → j ≠ x3.heap.size := fun j hj => by have := (own_blk ownC hj).2; omega
      replace ownC := own_up ownC hbx (Nat.le_refl _)
      replace hS := bnx hS hbx
      refine Ord.Seg.go hS (fun h => by cases h) ?_
      (try simp only [Act.put, List.setIfInBounds_toArray, List.set_cons_zero, List.set_cons_succ])
      generalize (x3.alloc (.cells #[.int .i64 0, .int .i64 0, .int .i64 0, .int .i64 0, .slice none 0 0] 48)) = x4 at *
      generalize x3.heap.size = g12 at *
      clear hbx
      have hlt12 : g12 < x4.heap.size := blk_lt r12
      refine Ord.e_x rfl (by kernel_rfl) ?_
      refine wpList_appG (base := w5.heap.size) Try.underlying36 Hi.out rfl (by omega) ownC rfl (Hr3.out.up hS) rfl (bv_one _) (k := 6 + no + (np - m2)) (by omega) ((bv_app _ _).symm) (by unfold maxLen; omega) (by omega) hS.size ?_
      intro AD cD x5 ownD hgr hob
      have hne2 : ∀ j, (Value.slice AD (6 + no + (np - m2)) cD).ownBlock = some j → j ≠ g12 := fun j hj => by
        rcases hob with e | e
        · exact hne j (e.symm.trans hj)
        · have e2 := e.symm.trans hj
          injection e2 with e2
          have := blk_lt r12
          omega
      replace r12 := (hgr.block g12 (blk_lt r12) (fun e => hne g12 e.symm rfl)).trans r12
      replace hne := hne2
      clear hne2
      replace hS := Below.grown hS hgr hS.size (fun j hj => by have := (own_blk ownC hj).1; omega)
      clear hgr hob ownC
      go_wp2_with fail
      refine Ord.Seg.go hS (fun h => by cases h) ?_
      (try simp only [Act.put, List.setIfInBounds_toArray, List.set_cons_zero, List.set_cons_succ])
      refine Ord.e_x rfl (by kernel_rfl) ?_
      go_wp2_with fail
      go_fit (tltake_any AD (6 + no + (np - m2)) cD _ x5 (Rd.own ownD) (by omega))
      unfold RetTl
      rintro e x6 ⟨Aq, nq, kq, rfl, hrq, hbx⟩
      rw [HL.out.1, HL.out.2]
      replace r12 := blk_old r12 hbx (blk_lt r12)
      replace hS := bnx hS hbx
      clear hbx ownD hrq
      generalize tkP _ = Q
      obtain ⟨qsq, qsy, qco, qid, qv⟩ := Q
      dsimp only
      go_wp2_with fail
      refine Ord.Seg.go hS (fun h => by cases h) ?_
      (try simp only [Act.put, List.setIfInBounds_toArray, List.set_cons_zero, List.set_cons_succ])
      ((with_reducible refine Ord.e_p (v := ?_) ?_ ?_ ?_ ?_); rotate_left; (· exact rfl); (· kernel_rfl); (· intro w2; go_simp; try with_reducible rfl))
      (try simp only [Act.put, List.setIfInBounds_toArray, List.set_cons_zero, List.set_cons_succ])
      ((with_reducible refine Ord.e_p (v := ?_) ?_ ?_ ?_ ?_); rotate_left; (· exact rfl); (· kernel_rfl); (· intro w2; go_simp; try with_reducible rfl))
      (try simp only [Act.put, List.setIfInBounds_toArray, List.set_cons_zero, List.set_cons_succ])
      ((with_reducible refine Ord.e_p (v := ?_) ?_ ?_ ?_ ?_); rotate_left; (· exact rfl); (· kernel_rfl); (· intro w2; go_simp; try with_reducible rfl))
      (try simp only [Act.put, List.setIfInBounds_toArray, List.set_cons_zero, List.set_cons_succ])
      ((with_reducible refine Ord.e_p (v := ?_) ?_ ?_ ?_ ?_); rotate_left; (· exact rfl); (· kernel_rfl); (· intro w2; go_simp; try with_reducible rfl))
      (try simp only [Act.put, List.setIfInBounds_toArray, List.set_cons_zero, List.set_cons_succ])
      refine Ord.e_x rfl (by kernel_rfl) ?_
      refine wpList_store_row rfl _ _ _ rfl g12 #[.int .i64 qsq, .int .i64 qsy, .int .i64 qco, .int .i64 qid, .slice Aq nq kq] rfl rfl _ _ r12 (by kernel_rfl) rfl (by kernel_rfl) ?_
      replace hS := below_setRow hS hM12 (#[.int .i64 qsq, .int .i64 qsy, .int .i64 qco, .int .i64 qid, .slice Aq nq kq] : Array Value)
      generalize (x6.setRow g12 #[.int .i64 qsq, .int .i64 qsy, .int .i64 qco, .int .i64 qid, .slice Aq nq kq]) = wz at *
      go_wp2_with fail
      refine Ord.Seg.go hS (fun h => by cases h) ?_
      (try simp only [Act.put, List.setIfInBounds_toArray, List.set_cons_zero, List.set_cons_succ])
      clear r12 hlt12 hM12
      ((with_reducible refine Ord.e_p (v := ?_) ?_ ?_ ?_ ?_); rotate_left; (· exact rfl); (· kernel_rfl); (· intro w2; go_simp; try with_reducible rfl))
      (try simp only [Act.put, List.setIfInBounds_toArray, List.set_cons_zero, List.set_cons_succ])
      ((with_reducible refine Ord.e_p (v := ?_) ?_ ?_ ?_ ?_); rotate_left; (· exact rfl); (· kernel_rfl); (· intro w2; go_simp; try with_reducible rfl))
      (try simp only [Act.put, List.setIfInBounds_toArray, List.set_cons_zero, List.set_cons_succ])
      refine Ord.e_nil ?_
      have hbf := bnx hb hS
      clear hS hb
      cases any with
      | true =>
        obtain rfl : rE = 4 := HrE.out.1
        obtain rfl : rN = 0 := HrE.out.2
        go_wp2_with fail
        go_fit (num32_any _ _)
        rintro e wn ⟨rfl, rfl⟩
        go_wp2_with fail
        go_fit (num32_any _ _)
        rintro e wn ⟨rfl, rfl⟩
        go_wp2
        go_ret
        exact ⟨rfl, hbf⟩
      | false =>
        obtain rfl : rE = 0 := HrE.out.1
        obtain rfl : rN = np := HrE.out.2
        go_wp2_with fail
        go_fit (num32_any _ _)
        rintro e wn ⟨rfl, rfl⟩
        go_wp2
        go_ret
        exact ⟨rfl, hbf⟩
    · simp only [Ord.lst, List.filterMap_cons, List.filterMap_nil, List.getElem?_toArray, List.getElem?_cons_succ, List.getElem?_cons_zero]
      refine Ord.e_x rfl (by kernel_rfl) ?_
      go_wp2_with fail
      have ownA : (x0.alloc (.cells #[] 5)).ownsRow w5.heap.size 5 1 (.slice (some ⟨x0.heap.size, 0, none⟩) 0 0) 0 [] := own_empty x0 _ _ (hS.size) 1
      have hbx : Below x0.heap.size x0 (x0.alloc (.cells #[] 5)) := (Below.refl _ _).alloc (Nat.le_refl _) _
      replace hS := bnx hS hbx
      refine Ord.Seg.go hS (fun h => by cases h) ?_
      (try simp only [Act.put, List.setIfInBounds_toArray, List.set_cons_zero, List.set_cons_succ])
      generalize (x0.alloc (.cells #[] 5)) = x1 at *
      generalize x0.heap.size = gb at *
      clear hbx
      ((with_reducible refine Ord.e_p (v := ?_) ?_ ?_ ?_ ?_); rotate_left; (· exact rfl); (· kernel_rfl); (· intro w2; go_simp; try with_reducible rfl))
      (try simp only [Act.put, List.setIfInBounds_toArray, List.set_cons_zero, List.set_cons_succ])
      ((with_reducible refine Ord.e_p (v := ?_) ?_ ?_ ?_ ?_); rotate_left; (· exact rfl); (· kernel_rfl); (· intro w2; go_simp; try with_reducible rfl))
      (try simp only [Act.put, List.setIfInBounds_toArray, List.set_cons_zero, List.set_cons_succ])
      refine Ord.e_p (v := .slice Ap (6) kp) rfl (by kernel_rfl) (fun w2 => by have hcut := HcutA.out w2; go_simp) ?_
      (try simp only [Act.put, List.setIfInBounds_toArray, List.set_cons_zero, List.set_cons_succ])
      refine Ord.e_x rfl (by kernel_rfl) ?_
      refine wpList_appG (base := w5.heap.size) Try.underlying36 Hi.out rfl (by omega) ownA rfl (Hr1.out.up hS) rfl (bv_one _) (k := 6) (by omega) (List.nil_append _) (by unfold maxLen; omega) (by omega) hS.size ?_
      intro AB cB x2 ownB hgr hob
      replace hS := Below.grown hS hgr hS.size (fun j hj => by have := (own_blk ownA hj).1; omega)
      clear hgr hob ownA
      go_wp2_with fail
      refine Ord.Seg.go hS (fun h => by cases h) ?_
      (try simp only [Act.put, List.setIfInBounds_toArray, List.set_cons_zero, List.set_cons_succ])
      ((with_reducible refine Ord.e_p (v := ?_) ?_ ?_ ?_ ?_); rotate_left; (· exact rfl); (· kernel_rfl); (· intro w2; go_simp; try with_reducible rfl))
      (try simp only [Act.put, List.setIfInBounds_toArray, List.set_cons_zero, List.set_cons_succ])
      refine Ord.e_x rfl (by kernel_rfl) ?_
      go_wp2_with fail
      have hbx : Below x2.heap.size x2 (x2.alloc (.cells #[.int .i64 0, .int .i64 0, .int .i64 0, .int .i64 0, .slice none 0 0] 48)) := (Below.refl _ _).alloc (Nat.le_refl _) _
      have r12 := heap_alloc_new x2 (.cells #[.int .i64 0, .int .i64 0, .int .i64 0, .int .i64 0, .slice none 0 0] 48)
      have hM12 : w5.heap.size ≤ x2.heap.size := hS.size
      have hne : ∀ j, (Value.slice AB (6) cB).ownBlock = some j → j ≠ x2.heap.size := fun j hj => by have := (own_blk ownB hj).2; omega
      replace ownB := own_up ownB hbx (Nat.le_refl _)
      replace hS := bnx hS hbx
      refine Ord.Seg.go hS (fun h => by cases h) ?_
      (try simp only [Act.put, List.setIfInBounds_toArray, List.set_cons_zero, List.set_cons_succ])
      generalize (x2.alloc (.cells #[.int .i64 0, .int .i64 0, .int .i64 0, .int .i64 0, .slice none 0 0] 48)) = x3 at *
      generalize x2.heap.size = g12 at *
      clear hbx
      have hlt12 : g12 < x3.heap.size := blk_lt r12
      refine Ord.e_x rfl (by kernel_rfl) ?_
      refine wpList_appG (base := w5.heap.size) Try.underlying36 Hi.out rfl (by omega) ownB rfl (Hr2.out.up hS) rfl (bv_one _) (k := 6 + no) (rfl) ((bv_app _ _).symm) (by unfold maxLen; omega) (by omega) hS.size ?_
      intro AC cC x4 ownC hgr hob
      have hne2 : ∀ j, (Value.slice AC (6 + no) cC).ownBlock = some j → j ≠ g12 := fun j hj => by
        rcases hob with e | e
        · exact hne j (e.symm.trans hj)
        · have e2 := e.symm.trans hj
          injection e2 with e2
          have := blk_lt r12
          omega
      replace r12 := (hgr.block g12 (blk_lt r12) (fun e => hne g12 e.symm rfl)).trans r12
      replace hne := hne2
      clear hne2
      replace hS := Below.grown hS hgr hS.size (fun j hj => by have := (own_blk ownB hj).1; omega)
      clear hgr hob ownB
      go_wp2_with fail
      refine Ord.Seg.go hS (fun h => by cases h) ?_
      (try simp only [Act.put, List.setIfInBounds_toArray, List.set_cons_zero, List.set_cons_succ])
      ((with_reducible refine Ord.e_p (v := ?_) ?_ ?_ ?_ ?_); rotate_left; (· exact rfl); (· kernel_rfl); (· intro w2; go_simp; try with_reducible rfl))
      (try simp only [Act.put, List.setIfInBounds_toArray, List.set_cons_zero, List.set_cons_succ])
      ((with_reducible refine Ord.e_p (v := ?_) ?_ ?_ ?_ ?_); rotate_left; (· exact rfl); (· kernel_rfl); (· intro w2; go_simp; try with_reducible rfl))
      (try simp only [Act.put, List.setIfInBounds_toArray, List.set_cons_zero, List.set_cons_succ])
      refine Ord.e_p (v := .slice (cutA Ap kp (m2) 1) (np - m2) (kp - m2)) rfl (by kernel_rfl) (fun w2 => by have hcut := HcutC.out w2; go_simp) ?_
      (try simp only [Act.put, List.setIfInBounds_toArray, List.set_cons_zero, List.set_cons_succ])
      refine Ord.e_x rfl (by kernel_rfl) ?_
      refine wpList_appG (base := w5.heap.size) Try.underlying36 Hi.out rfl (by omega) ownC rfl (Hr3.out.up hS) rfl (bv_one _) (k := 6 + no + (np - m2)) (by omega) ((bv_app _ _).symm) (by unfold maxLen; omega) (by omega) hS.size ?_
      intro AD cD x5 ownD hgr hob
      have hne2 : ∀ j, (Value.slice AD (6 + no + (np - m2)) cD).ownBlock = some j → j ≠ g12 := fun j hj => by
        rcases hob with e | e
        · exact hne j (e.symm.trans hj)
        · have e2 := e.symm.trans hj
          injection e2 with e2
          have := blk_lt r12
          omega
      replace r12 := (hgr.block g12 (blk_lt r12) (fun e => hne g12 e.symm rfl)).trans r12
      replace hne := hne2
      clear hne2
      replace hS := Below.grown hS hgr hS.size (fun j hj => by have := (own_blk ownC hj).1; omega)
      clear hgr hob ownC
      go_wp2_with fail
      refine Ord.Seg.go hS (fun h => by cases h) ?_
      (try simp only [Act.put, List.setIfInBounds_toArray, List.set_cons_zero, List.set_cons_succ])
      refine Ord.e_x rfl (by kernel_rfl) ?_
      go_wp2_with fail
      go_fit (tltake_any AD (6 + no + (np - m2)) cD _ x5 (Rd.own ownD) (by omega))
      unfold RetTl
      rintro e x6 ⟨Aq, nq, kq, rfl, hrq, hbx⟩
      rw [HL.out.1, HL.out.2]
      replace r12 := blk_old r12 hbx (blk_lt r12)
      replace hS := bnx hS hbx
      clear hbx ownD hrq
      generalize tkP _ = Q
      obtain ⟨qsq, qsy, qco, qid, qv⟩ := Q
      dsimp only
      go_wp2_with fail
      refine Ord.Seg.go hS (fun h => by cases h) ?_
      (try simp only [Act.put, List.setIfInBounds_toArray, List.set_cons_zero, List.set_cons_succ])
      ((with_reducible refine Ord.e_p (v := ?_) ?_ ?_ ?_ ?_); rotate_left; (· exact rfl); (· kernel_rfl); (· intro w2; go_simp; try with_reducible rfl))
      (try simp only [Act.put, List.setIfInBounds_toArray, List.set_cons_zero, List.set_cons_succ])
      ((with_reducible refine Ord.e_p (v := ?_) ?_ ?_ ?_ ?_); rotate_left; (· exact rfl); (· kernel_rfl); (· intro w2; go_simp; try with_reducible rfl))
      (try simp only [Act.put, List.setIfInBounds_toArray, List.set_cons_zero, List.set_cons_succ])
      ((with_reducible refine Ord.e_p (v := ?_) ?_ ?_ ?_ ?_); rotate_left; (· exact rfl); (· kernel_rfl); (· intro w2; go_simp; try with_reducible rfl))
      (try simp only [Act.put, List.setIfInBounds_toArray, List.set_cons_zero, List.set_cons_succ])
      ((with_reducible refine Ord.e_p (v := ?_) ?_ ?_ ?_ ?_); rotate_left; (· exact rfl); (· kernel_rfl); (· intro w2; go_simp; try with_reducible rfl))
      (try simp only [Act.put, List.setIfInBounds_toArray, List.set_cons_zero, List.set_cons_succ])
      refine Ord.e_x rfl (by kernel_rfl) ?_
      refine wpList_store_row rfl _ _ _ rfl g12 #[.int .i64 qsq, .int .i64 qsy, .int .i64 qco, .int .i64 qid, .slice Aq nq kq] rfl rfl _ _ r12 (by kernel_rfl) rfl (by kernel_rfl) ?_
      replace hS := below_setRow hS hM12 (#[.int .i64 qsq, .int .i64 qsy, .int .i64 qco, .int .i64 qid, .slice Aq nq kq] : Array Value)
      generalize (x6.setRow g12 #[.int .i64 qsq, .int .i64 qsy, .int .i64 qco, .int .i64 qid, .slice Aq nq kq]) = wz at *
      go_wp2_with fail
      refine Ord.Seg.go hS (fun h => by cases h) ?_
      (try simp only [Act.put, List.setIfInBounds_toArray, List.set_cons_zero, List.set_cons_succ])
      clear r12 hlt12 hM12
      ((with_reducible refine Ord.e_p (v := ?_) ?_ ?_ ?_ ?_); rotate_left; (· exact rfl); (· kernel_rfl); (· intro w2; go_simp; try with_reducible rfl))
      (try simp only [Act.put, List.setIfInBounds_toArray, List.set_cons_zero, List.set_cons_succ])
      ((with_reducible refine Ord.e_p (v := ?_) ?_ ?_ ?_ ?_); rotate_left; (· exact rfl); (· kernel_rfl); (· intro w2; go_simp; try with_reducible rfl))
      (try simp only [Act.put, List.setIfInBounds_toArray, List.set_cons_zero, List.set_cons_succ])
      refine Ord.e_nil ?_
      have hbf := bnx hb hS
      clear hS hb
      cases any with
      | true =>
        obtain rfl : rE = 4 := HrE.out.1
        obtain rfl : rN = 0 := HrE.out.2
        go_wp2_with fail
        go_fit (num32_any _ _)
        rintro e wn ⟨rfl, rfl⟩
        go_wp2_with fail
        go_fit (num32_any _ _)
        rintro e wn ⟨rfl, rfl⟩
        go_wp2
        go_ret
        exact ⟨rfl, hbf⟩
      | false =>
        obtain rfl : rE = 0 := HrE.out.1
        obtain rfl : rN = np := HrE.out.2
        go_wp2_with fail
        go_fit (num32_any _ _)
        rintro e wn ⟨rfl, rfl⟩
        go_wp2
        go_ret
        exact ⟨rfl, hbf⟩
    · simp only [Ord.lst, List.filterMap_cons, List.filterMap_nil, List.getElem?_toArray, List.getElem?_cons_succ, List.getElem?_cons_zero]
      refine Ord.e_x rfl (by kernel_rfl) ?_
      go_wp2_with fail
      have ownA : (x0.alloc (.cells #[] 5)).ownsRow w5.heap.size 5 1 (.slice (some ⟨x0.heap.size, 0, none⟩) 0 0) 0 [] := own_empty x0 _ _ (hS.size) 1
      have hbx : Below x0.heap.size x0 (x0.alloc (.cells #[] 5)) := (Below.refl _ _).alloc (Nat.le_refl _) _
      replace hS := bnx hS hbx
      refine Ord.Seg.go hS (fun h => by cases h) ?_
      (try simp only [Act.put, List.setIfInBounds_toArray, List.set_cons_zero, List.set_cons_succ])
      generalize (x0.alloc (.cells #[] 5)) = x1 at *
      generalize x0.heap.size = gb at *
      clear hbx
      ((with_reducible refine Ord.e_p (v := ?_) ?_ ?_ ?_ ?_); rotate_left; (· exact rfl); (· kernel_rfl); (· intro w2; go_simp; try with_reducible rfl))
      (try simp only [Act.put, List.setIfInBounds_toArray, List.set_cons_zero, List.set_cons_succ])
      ((with_reducible refine Ord.e_p (v := ?_) ?_ ?_ ?_ ?_); rotate_left; (· exact rfl); (· kernel_rfl); (· intro w2; go_simp; try with_reducible rfl))
      (try simp only [Act.put, List.setIfInBounds_toArray, List.set_cons_zero, List.set_cons_succ])
      refine Ord.e_p (v := .slice Ap (6) kp) rfl (by kernel_rfl) (fun w2 => by have hcut := HcutA.out w2; go_simp) ?_
      (try simp only [Act.put, List.setIfInBounds_toArray, List.set_cons_zero, List.set_cons_succ])
      refine Ord.e_x rfl (by kernel_rfl) ?_
      go_wp2_with fail
      have hbx : Below x1.heap.size x1 (x1.alloc (.cells #[.int .i64 0, .int .i64 0, .int .i64 0, .int .i64 0, .slice none 0 0] 48)) := (Below.refl _ _).alloc (Nat.le_refl _) _
      have r12 := heap_alloc_new x1 (.cells #[.int .i64 0, .int .i64 0, .int .i64 0, .int .i64 0, .slice none 0 0] 48)
      have hM12 : w5.heap.size ≤ x1.heap.size := hS.size
      have hne : ∀ j, (Value.slice (some ⟨gb, 0, none⟩) 0 0).ownBlock = some j → j ≠ x1.heap.size := fun j hj => by have := (own_blk ownA hj).2; omega
      replace ownA := own_up ownA hbx (Nat.le_refl _)
      replace hS := bnx hS hbx
      refine Ord.Seg.go hS (fun h => by cases h) ?_
      (try simp only [Act.put, List.setIfInBounds_toArray, List.set_cons_zero, List.set_cons_succ])
      generalize (x1.alloc (.cells #[.int .i64 0, .int .i64 0, .int .i64 0, .int .i64 0, .slice none 0 0] 48)) = x2 at *
      generalize x1.heap.size = g12 at *
      clear hbx
      have hlt12 : g12 < x2.heap.size := blk_lt r12
      refine Ord.e_x rfl (by kernel_rfl) ?_
      refine wpList_appG (base := w5.heap.size) Try.underlying36 Hi.out rfl (by omega) ownA rfl (Hr1.out.up hS) rfl (bv_one _) (k := 6) (by omega) (List.nil_append _) (by unfold maxLen; omega) (by omega) hS.size ?_
      intro AB cB x3 ownB hgr hob
      have hne2 : ∀ j, (Value.slice AB (6) cB).ownBlock = some j → j ≠ g12 := fun j hj => by
        rcases hob with e | e
        · exact hne j (e.symm.trans hj)
        · have e2 := e.symm.trans hj
          injection e2 with e2
          have := blk_lt r12
          omega
      replace r12 := (hgr.block g12 (blk_lt r12) (fun e => hne g12 e.symm rfl)).trans r12
      replace hne := hne2
      clear hne2
      replace hS := Below.grown hS hgr hS.size (fun j hj => by have := (own_blk ownA hj).1; omega)
      clear hgr hob ownA
      go_wp2_with fail
      refine Ord.Seg.go hS (fun h => by cases h) ?_
      (try simp only [Act.put, List.setIfInBounds_toArray, List.set_cons_zero, List.set_cons_succ])
      ((with_reducible refine Ord.e_p (v := ?_) ?_ ?_ ?_ ?_); rotate_left; (· exact rfl); (· kernel_rfl); (· intro w2; go_simp; try with_reducible rfl))
      (try simp only [Act.put, List.setIfInBounds_toArray, List.set_cons_zero, List.set_cons_succ])
      refine Ord.e_x rfl (by kernel_rfl) ?_
      refine wpList_appG (base := w5.heap.size) Try.underlying36 Hi.out rfl (by omega) ownB rfl (Hr2.out.up hS) rfl (bv_one _) (k := 6 + no) (rfl) ((bv_app _ _).symm) (by unfold maxLen; omega) (by omega) hS.size ?_
      intro AC cC x4 ownC hgr hob
      have hne2 : ∀ j, (Value.slice AC (6 + no) cC).ownBlock = some j → j ≠ g12 := fun j hj => by
        rcases hob with e | e
        · exact hne j (e.symm.trans hj)
        · have e2 := e.symm.trans hj
          injection e2 with e2
          have := blk_lt r12
          omega
      replace r12 := (hgr.block g12 (blk_lt r12) (fun e => hne g12 e.symm rfl)).trans r12
      replace hne := hne2
      clear hne2
      replace hS := Below.grown hS hgr hS.size (fun j hj => by have := (own_blk ownB hj).1; omega)
      clear hgr hob ownB
      go_wp2_with fail
      refine Ord.Seg.go hS (fun h => by cases h) ?_
      (try simp only [Act.put, List.setIfInBounds_toArray, List.set_cons_zero, List.set_cons_succ])
      ((with_reducible refine Ord.e_p (v := ?_) ?_ ?_ ?_ ?_); rotate_left; (· exact rfl); (· kernel_rfl); (· intro w2; go_simp; try with_reducible rfl))
      (try simp only [Act.put, List.setIfInBounds_toArray, List.set_cons_zero, List.set_cons_succ])
      ((with_reducible refine Ord.e_p (v := ?_) ?_ ?_ ?_ ?_); rotate_left; (· exact rfl); (· kernel_rfl); (· intro w2; go_simp; try with_reducible rfl))
      (try simp only [Act.put, List.setIfInBounds_toArray, List.set_cons_zero, List.set_cons_succ])
      refine Ord.e_p (v := .slice (cutA Ap kp (m2) 1) (np - m2) (kp - m2)) rfl (by kernel_rfl) (fun w2 => by have hcut := HcutC.out w2; go_simp) ?_
      (try simp only [Act.put, List.setIfInBounds_toArray, List.set_cons_zero, List.set_cons_succ])
      refine Ord.e_x rfl (by kernel_rfl) ?_
      refine wpList_appG (base := w5.heap.size) Try.underlying36 Hi.out rfl (by omega) ownC rfl (Hr3.out.up hS) rfl (bv_one _) (k := 6 + no + (np - m2)) (by omega) ((bv_app _ _).symm) (by unfold maxLen; omega) (by omega) hS.size ?_
      intro AD cD x5 ownD hgr hob
      have hne2 : ∀ j, (Value.slice AD (6 + no + (np - m2)) cD).ownBlock = some j → j ≠ g12 := fun j hj => by
        rcases hob with e | e
        · exact hne j (e.symm.trans hj)
        · have e2 := e.symm.trans hj
          injection e2 with e2
          have := blk_lt r12
          omega
      replace r12 := (hgr.block g12 (blk_lt r12) (fun e => hne g12 e.symm rfl)).trans r12
      replace hne := hne2
      clear hne2
      replace hS := Below.grown hS hgr hS.size (fun j hj => by have := (own_blk ownC hj).1; omega)
      clear hgr hob ownC
      go_wp2_with fail
      refine Ord.Seg.go hS (fun h => by cases h) ?_
      (try simp only [Act.put, List.setIfInBounds_toArray, List.set_cons_zero, List.set_cons_succ])
      refine Ord.e_x rfl (by kernel_rfl) ?_
      go_wp2_with fail
      go_fit (tltake_any AD (6 + no + (np - m2)) cD _ x5 (Rd.own ownD) (by omega))
      unfold RetTl
      rintro e x6 ⟨Aq, nq, kq, rfl, hrq, hbx⟩
      rw [HL.out.1, HL.out.2]
      replace r12 := blk_old r12 hbx (blk_lt r12)
      replace hS := bnx hS hbx
      clear hbx ownD hrq
      generalize tkP _ = Q
      obtain ⟨qsq, qsy, qco, qid, qv⟩ := Q
      dsimp only
      go_wp2_with fail
      refine Ord.Seg.go hS (fun h => by cases h) ?_
      (try simp only [Act.put, List.setIfInBounds_toArray, List.set_cons_zero, List.set_cons_succ])
      ((with_reducible refine Ord.e_p (v := ?_) ?_ ?_ ?_ ?_); rotate_left; (· exact rfl); (· kernel_rfl); (· intro w2; go_simp; try with_reducible rfl))
      (try simp only [Act.put, List.setIfInBounds_toArray, List.set_cons_zero, List.set_cons_succ])
      ((with_reducible refine Ord.e_p (v := ?_) ?_ ?_ ?_ ?_); rotate_left; (· exact rfl); (· kernel_rfl); (· intro w2; go_simp; try with_reducible rfl))
      (try simp only [Act.put, List.setIfInBounds_toArray, List.set_cons_zero, List.set_cons_succ])
      ((with_reducible refine Ord.e_p (v := ?_) ?_ ?_ ?_ ?_); rotate_left; (· exact rfl); (· kernel_rfl); (· intro w2; go_simp; try with_reducible rfl))
      (try simp only [Act.put, List.setIfInBounds_toArray, List.set_cons_zero, List.set_cons_succ])
      ((with_reducible refine Ord.e_p (v := ?_) ?_ ?_ ?_ ?_); rotate_left; (· exact rfl); (· kernel_rfl); (· intro w2; go_simp; try with_reducible rfl))
      (try simp only [Act.put, List.setIfInBounds_toArray, List.set_cons_zero, List.set_cons_succ])
      refine Ord.e_x rfl (by kernel_rfl) ?_
      refine wpList_store_row rfl _ _ _ rfl g12 #[.int .i64 qsq, .int .i64 qsy, .int .i64 qco, .int .i64 qid, .slice Aq nq kq] rfl rfl _ _ r12 (by kernel_rfl) rfl (by kernel_rfl) ?_
      replace hS := below_setRow hS hM12 (#[.int .i64 qsq, .int .i64 qsy, .int .i64 qco, .int .i64 qid, .slice Aq nq kq] : Array Value)
      generalize (x6.setRow g12 #[.int .i64 qsq, .int .i64 qsy, .int .i64 qco, .int .i64 qid, .slice Aq nq kq]) = wz at *
      go_wp2_with fail
      refine Ord.Seg.go hS (fun h => by cases h) ?_
      (try simp only [Act.put, List.setIfInBounds_toArray, List.set_cons_zero, List.set_cons_succ])
      clear r12 hlt12 hM12
      ((with_reducible refine Ord.e_p (v := ?_) ?_ ?_ ?_ ?_); rotate_left; (· exact rfl); (· kernel_rfl); (· intro w2; go_simp; try with_reducible rfl))
      (try simp only [Act.put, List.setIfInBounds_toArray, List.set_cons_zero, List.set_cons_succ])
      ((with_reducible refine Ord.e_p (v := ?_) ?_ ?_ ?_ ?_); rotate_left; (· exact rfl); (· kernel_rfl); (· intro w2; go_simp; try with_reducible rfl))
      (try simp only [Act.put, List.setIfInBounds_toArray, List.set_cons_zero, List.set_cons_succ])
      refine Ord.e_nil ?_
      have hbf := bnx hb hS
      clear hS hb
      cases any with
      | true =>
        obtain rfl : rE = 4 := HrE.out.1
        obtain rfl : rN = 0 := HrE.out.2
        go_wp2_with fail
        go_fit (num32_any _ _)
        rintro e wn ⟨rfl, rfl⟩
        go_wp2_with fail
        go_fit (num32_any _ _)
        rintro e wn ⟨rfl, rfl⟩
        go_wp2
        go_ret
        exact ⟨rfl, hbf⟩
      | false =>
        obtain rfl : rE = 0 := HrE.out.1
        obtain rfl : rN = np := HrE.out.2
        go_wp2_with fail
        go_fit (num32_any _ _)
        rintro e wn ⟨rfl, rfl⟩
        go_wp2
        go_ret
        exact ⟨rfl, hbf⟩
    · simp only [Ord.lst, List.filterMap_cons, List.filterMap_nil, List.getElem?_toArray, List.getElem?_cons_succ, List.getElem?_cons_zero]
      refine Ord.e_x rfl (by kernel_rfl) ?_
      go_wp2_with fail
      have hbx : Below x0.heap.size x0 (x0.alloc (.cells #[.int .i64 0, .int .i64 0, .int .i64 0, .int .i64 0, .slice none 0 0] 48)) := (Below.refl _ _).alloc (Nat.le_refl _) _
      have r12 := heap_alloc_new x0 (.cells #[.int .i64 0, .int .i64 0, .int .i64 0, .int .i64 0, .slice none 0 0] 48)
      have hM12 : w5.heap.size ≤ x0.heap.size := hS.size
      replace hS := bnx hS hbx
      refine Ord.Seg.go hS (fun h => by cases h) ?_
      (try simp only [Act.put, List.setIfInBounds_toArray, List.set_cons_zero, List.set_cons_succ])
      generalize (x0.alloc (.cells #[.int .i64 0, .int .i64 0, .int .i64 0, .int .i64 0, .slice none 0 0] 48)) = x1 at *
      generalize x0.heap.size = g12 at *
      clear hbx
      have hlt12 : g12 < x1.heap.size := blk_lt r12
      refine Ord.e_x rfl (by kernel_rfl) ?_
      go_wp2_with fail
      have ownA : (x1.alloc (.cells #[] 5)).ownsRow (g12 + 1) 5 1 (.slice (some ⟨x1.heap.size, 0, none⟩) 0 0) 0 [] := own_empty x1 _ _ (hlt12) 1
      have hbx : Below x1.heap.size x1 (x1.alloc (.cells #[] 5)) := (Below.refl _ _).alloc (Nat.le_refl _) _
      have hlt12 : g12 < _ := blk_lt r12
      replace r12 := blk_old r12 hbx (blk_lt r12)
      replace hS := bnx hS hbx
      refine Ord.Seg.go hS (fun h => by cases h) ?_
      (try simp only [Act.put, List.setIfInBounds_toArray, List.set_cons_zero, List.set_cons_succ])
      generalize (x1.alloc (.cells #[] 5)) = x2 at *
      generalize x1.heap.size = gb at *
      clear hbx
      have hne : ∀ j, (Value.slice (some ⟨gb, 0, none⟩) 0 0).ownBlock = some j → j ≠ g12 := fun j hj => by have := (own_blk ownA hj).1; omega
      ((with_reducible refine Ord.e_p (v := ?_) ?_ ?_ ?_ ?_); rotate_left; (· exact rfl); (· kernel_rfl); (· intro w2; go_simp; try with_reducible rfl))
      (try simp only [Act.put, List.setIfInBounds_toArray, List.set_cons_zero, List.set_cons_succ])
      ((with_reducible refine Ord.e_p (v := ?_) ?_ ?_ ?_ ?_); rotate_left; (· exact rfl); (· kernel_rfl); (· intro w2; go_simp; try with_reducible rfl))
      (try simp only [Act.put, List.setIfInBounds_toArray, List.set_cons_zero, List.set_cons_succ])
      refine Ord.e_p (v := .slice Ap (6) kp) rfl (by kernel_rfl) (fun w2 => by have hcut := HcutA.out w2; go_simp) ?_
      (try simp only [Act.put, List.setIfInBounds_toArray, List.set_cons_zero, List.set_cons_succ])
      refine Ord.e_x rfl (by kernel_rfl) ?_
      refine wpList_appG (base := (g12 + 1)) Try.underlying36 Hi.out rfl (by omega) ownA rfl (Hr1.out.up hS) rfl (bv_one _) (k := 6) (by omega) (List.nil_append _) (by unfold maxLen; omega) (by omega) (by have := blk_lt r12; omega) ?_
      intro AB cB x3 ownB hgr hob
      have hne2 : ∀ j, (Value.slice AB (6) cB).ownBlock = some j → j ≠ g12 := fun j hj => by
        rcases hob with e | e
        · exact hne j (e.symm.trans hj)
        · have e2 := e.symm.trans hj
          injection e2 with e2
          have := blk_lt r12
          omega
      replace r12 := (hgr.block g12 (blk_lt r12) (fun e => hne g12 e.symm rfl)).trans r12
      replace hne := hne2
      clear hne2
      replace hS := Below.grown hS hgr hS.size (fun j hj => by have := (own_blk ownA hj).1; omega)
      clear hgr hob ownA
      go_wp2_with fail
      refine Ord.Seg.go hS (fun h => by cases h) ?_
      (try simp only [Act.put, List.setIfInBounds_toArray, List.set_cons_zero, List.set_cons_succ])
      ((with_reducible refine Ord.e_p (v := ?_) ?_ ?_ ?_ ?_); rotate_left; (· exact rfl); (· kernel_rfl); (· intro w2; go_simp; try with_reducible rfl))
      (try simp only [Act.put, List.setIfInBounds_toArray, List.set_cons_zero, List.set_cons_succ])
      refine Ord.e_x rfl (by kernel_rfl) ?_
      refine wpList_appG (base := (g12 + 1)) Try.underlying36 Hi.out rfl (by omega) ownB rfl (Hr2.out.up hS) rfl (bv_one _) (k := 6 + no) (rfl) ((bv_app _ _).symm) (by unfold maxLen; omega) (by omega) (by have := blk_lt r12; omega) ?_
      intro AC cC x4 ownC hgr hob
      have hne2 : ∀ j, (Value.slice AC (6 + no) cC).ownBlock = some j → j ≠ g12 := fun j hj => by
        rcases hob with e | e
        · exact hne j (e.symm.trans hj)
        · have e2 := e.symm.trans hj
          injection e2 with e2
          have := blk_lt r12
          omega
      replace r12 := (hgr.block g12 (blk_lt r12) (fun e => hne g12 e.symm rfl)).trans r12
      replace hne := hne2
      clear hne2
      replace hS := Below.grown hS hgr hS.size (fun j hj => by have := (own_blk ownB hj).1; omega)
      clear hgr hob ownB
      go_wp2_with fail
      refine Ord.Seg.go hS (fun h => by cases h) ?_
      (try simp only [Act.put, List.setIfInBounds_toArray, List.set_cons_zero, List.set_cons_succ])
      ((with_reducible refine Ord.e_p (v := ?_) ?_ ?_ ?_ ?_); rotate_left; (· exact rfl); (· kernel_rfl); (· intro w2; go_simp; try with_reducible rfl))
      (try simp only [Act.put, List.setIfInBounds_toArray, List.set_cons_zero, List.set_cons_succ])
      ((with_reducible refine Ord.e_p (v := ?_) ?_ ?_ ?_ ?_); rotate_left; (· exact rfl); (· kernel_rfl); (· intro w2; go_simp; try with_reducible rfl))
      (try simp only [Act.put, List.setIfInBounds_toArray, List.set_cons_zero, List.set_cons_succ])
      refine Ord.e_p (v := .slice (cutA Ap kp (m2) 1) (np - m2) (kp - m2)) rfl (by kernel_rfl) (fun w2 => by have hcut := HcutC.out w2; go_simp) ?_
      (try simp only [Act.put, List.setIfInBounds_toArray, List.set_cons_zero, List.set_cons_succ])
      refine Ord.e_x rfl (by kernel_rfl) ?_
      refine wpList_appG (base := (g12 + 1)) Try.underlying36 Hi.out rfl (by omega) ownC rfl (Hr3.out.up hS) rfl (bv_one _) (k := 6 + no + (np - m2)) (by omega) ((bv_app _ _).symm) (by unfold maxLen; omega) (by omega) (by have := blk_lt r12; omega) ?_
      intro AD cD x5 ownD hgr hob
      have hne2 : ∀ j, (Value.slice AD (6 + no + (np - m2)) cD).ownBlock = some j → j ≠ g12 := fun j hj => by
        rcases hob with e | e
        · exact hne j (e.symm.trans hj)
        · have e2 := e.symm.trans hj
          injection e2 with e2
          have := blk_lt r12
          omega
      replace r12 := (hgr.block g12 (blk_lt r12) (fun e => hne g12 e.symm rfl)).trans r12
      replace hne := hne2
      clear hne2
      replace hS := Below.grown hS hgr hS.size (fun j hj => by have := (own_blk ownC hj).1; omega)
      clear hgr hob ownC
      go_wp2_with fail
      refine Ord.Seg.go hS (fun h => by cases h) ?_
      (try simp only [Act.put, List.setIfInBounds_toArray, List.set_cons_zero, List.set_cons_succ])
      refine Ord.e_x rfl (by kernel_rfl) ?_
      go_wp2_with fail
      go_fit (tltake_any AD (6 + no + (np - m2)) cD _ x5 (Rd.own ownD) (by omega))
      unfold RetTl
      rintro e x6 ⟨Aq, nq, kq, rfl, hrq, hbx⟩
      rw [HL.out.1, HL.out.2]
      replace r12 := blk_old r12 hbx (blk_lt r12)
      replace hS := bnx hS hbx
      clear hbx ownD hrq
      generalize tkP _ = Q
      obtain ⟨qsq, qsy, qco, qid, qv⟩ := Q
      dsimp only
      go_wp2_with fail
      refine Ord.Seg.go hS (fun h => by cases h) ?_
      (try simp only [Act.put, List.setIfInBounds_toArray, List.set_cons_zero, List.set_cons_succ])
      ((with_reducible refine Ord.e_p (v := ?_) ?_ ?_ ?_ ?_); rotate_left; (· exact rfl); (· kernel_rfl); (· intro w2; go_simp; try with_reducible rfl))
      (try simp only [Act.put, List.setIfInBounds_toArray, List.set_cons_zero, List.set_cons_succ])
      ((with_reducible refine Ord.e_p (v := ?_) ?_ ?_ ?_ ?_); rotate_left; (· exact rfl); (· kernel_rfl); (· intro w2; go_simp; try with_reducible rfl))
      (try simp only [Act.put, List.setIfInBounds_toArray, List.set_cons_zero, List.set_cons_succ])
      ((with_reducible refine Ord.e_p (v := ?_) ?_ ?_ ?_ ?_); rotate_left; (· exact rfl); (· kernel_rfl); (· intro w2; go_simp; try with_reducible rfl))
      (try simp only [Act.put, List.setIfInBounds_toArray, List.set_cons_zero, List.set_cons_succ])
      ((with_reducible refine Ord.e_p (v := ?_) ?_ ?_ ?_ ?_); rotate_left; (· exact rfl); (· kernel_rfl); (· intro w2; go_simp; try with_reducible rfl))
      (try simp only [Act.put, List.setIfInBounds_toArray, List.set_cons_zero, List.set_cons_succ])
      refine Ord.e_x rfl (by kernel_rfl) ?_
      refine wpList_store_row rfl _ _ _ rfl g12 #[.int .i64 qsq, .int .i64 qsy, .int .i64 qco, .int .i64 qid, .slice Aq nq kq] rfl rfl _ _ r12 (by kernel_rfl) rfl (by kernel_rfl) ?_
      replace hS := below_setRow hS hM12 (#[.int .i64 qsq, .int .i64 qsy, .int .i64 qco, .int .i64 qid, .slice Aq nq kq] : Array Value)
      generalize (x6.setRow g12 #[.int .i64 qsq, .int .i64 qsy, .int .i64 qco, .int .i64 qid, .slice Aq nq kq]) = wz at *
      go_wp2_with fail
      refine Ord.Seg.go hS (fun h => by cases h) ?_
      (try simp only [Act.put, List.setIfInBounds_toArray, List.set_cons_zero, List.set_cons_succ])
      clear r12 hlt12 hM12
      ((with_reducible refine Ord.e_p (v := ?_) ?_ ?_ ?_ ?_); rotate_left; (· exact rfl); (· kernel_rfl); (· intro w2; go_simp; try with_reducible rfl))
      (try simp only [Act.put, List.setIfInBounds_toArray, List.set_cons_zero, List.set_cons_succ])
      ((with_reducible refine Ord.e_p (v := ?_) ?_ ?_ ?_ ?_); rotate_left; (· exact rfl); (· kernel_rfl); (· intro w2; go_simp; try with_reducible rfl))
      (try simp only [Act.put, List.setIfInBounds_toArray, List.set_cons_zero, List.set_cons_succ])
      refine Ord.e_nil ?_
      have hbf := bnx hb hS
      clear hS hb
      cases any with
      | true =>
        obtain rfl : rE = 4 := HrE.out.1
        obtain rfl : rN = 0 := HrE.out.2
        go_wp2_with fail
        go_fit (num32_any _ _)
        rintro e wn ⟨rfl, rfl⟩
        go_wp2_with fail
        go_fit (num32_any _ _)
        rintro e wn ⟨rfl, rfl⟩
        go_wp2
        go_ret
        exact ⟨rfl, hbf⟩
      | false =>
        obtain rfl : rE = 0 := HrE.out.1
        obtain rfl : rN = np := HrE.out.2
        go_wp2_with fail
        go_fit (num32_any _ _)
        rintro e wn ⟨rfl, rfl⟩
        go_wp2
        go_ret
        exact ⟨rfl, hbf⟩
  | true =>
    have hcutB : ∀ w, (Instr.slice 36 (.slice Ap np kp) (some (.int .i64 (m2 : Int))) (some (.int .i64 (np : Int))) none).run Try.prog w = .ok (.slice (cutA Ap kp (m2) 1) (np - m2) (kp - m2)) w := fun w => run_cut_lh (P := Try.prog) Try.underlying36 Hi.out.1 Hi.out.2.2.1 Ap np kp (m2) (np) (by omega) (by omega) w
    have HcutA : Hid (∀ w, (Instr.slice 36 (.slice Ap np kp) none (some (.int .i64 (m2 : Int))) none).run Try.prog w = .ok (.slice Ap (m2) kp) w) := Lib.hid (run_cut_h (P := Try.prog) Try.underlying36 Hi.out.1 Ap np kp (m2) (by omega))
    have HcutC : Hid (∀ w, (Instr.slice 36 (.slice Ap np kp) (some (.int .i64 (np : Int))) none none).run Try.prog w = .ok (.slice (cutA Ap kp (np) 1) (0) (kp - np)) w) := Lib.hid (fun w => by
      have := run_cut_l (P := Try.prog) Try.underlying36 Hi.out.1 Hi.out.2.2.1 Ap np kp (np) (by omega) w
      rwa [show np - np = 0 by omega] at this)
    have hrB := (hrp.btake (k := np) (by omega)).bdrop (k := m2) (by omega)
    rw [List.take_of_length_le (by omega)] at hrB
    go_wp2_with fail
    go_fit (turned_any at_ mk (np - m2) (kp - m2) _ _ w2 (by omega) hrB hmk)
    unfold RetT
    rintro e w5 ⟨o, any, Ao, ko, no, hT, rfl, owno, hbx⟩
    have hb := bnx hb2 hbx
    have Hr1 := Lib.hid ((hrp.nx hbx).btake (k := m2) (by omega))
    have Hr2 := Lib.hid (Rd.own owno)
    have hr3 := (hrp.nx hbx).bdrop (k := np) (by omega)
    rw [show np - np = 0 by omega] at hr3
    have Hr3 := Lib.hid hr3
    clear hr3
    have hno : no = np - m2 := by
      have h1 := own_len owno
      have h2 := hT.1
      have h3 := hrB.blen
      omega
    have hnoa : no + m2 ≤ np := by omega
    have hnob : np ≤ no + m2 := by omega
    clear hno
    have hq := HBb.out (by first | rfl | trivial) oB o any np rfl hlp (by rw [← Hm2.out]; exact hT)
    rw [← Hm2.out] at hq
    obtain ⟨rE, hrE⟩ : ∃ e : Nat, e = if any = true then 4 else 0 := ⟨_, rfl⟩
    obtain ⟨rN, hrN⟩ : ∃ e : Nat, e = if any = true then 0 else np := ⟨_, rfl⟩
    rw [← hrE, ← hrN] at hq
    have HL := Lib.hid hq
    have HrE := Lib.hid (And.intro hrE hrN)
    clear hq hrE hrN
    clear hbx hb2 hrp hrB owno hcutB hT
    go_wp2_with fail
    refine Ord.region_m [0, 4, 6, 10, 11, 16] [[0, 1, 2, 3, 4, 5, 6, 7, 8, 9, 10, 11, 12, 13, 14, 15, 16, 17, 18, 19], [0, 1, 2, 3, 4, 5, 6, 7, 8, 9, 10, 16, 11, 12, 13, 14, 15, 17, 18, 19], [0, 1, 2, 3, 4, 5, 6, 7, 8, 9, 16, 10, 11, 12, 13, 14, 15, 17, 18, 19], [0, 1, 2, 3, 4, 5, 16, 6, 7, 8, 9, 10, 11, 12, 13, 14, 15, 17, 18, 19], [0, 1, 2, 3, 16, 4, 5, 6, 7, 8, 9, 10, 11, 12, 13, 14, 15, 17, 18, 19], [16, 0, 1, 2, 3, 4, 5, 6, 7, 8, 9, 10, 11, 12, 13, 14, 15, 17, 18, 19]] (fun w' => Below w5.heap.size w5 w') false [] (by kernel_rfl) (by kernel_rfl) ((Below.refl _ _).drew) ?_
    have hS : Below w5.heap.size w5 w5.drew := (Below.refl _ _).drew
    generalize w5.drew = x0 at *
    intro LL hLL
    simp only [List.mem_cons, List.not_mem_nil, or_false] at hLL
    rcases hLL with rfl | rfl | rfl | rfl | rfl | rfl
    · simp only [Ord.lst, List.filterMap_cons, List.filterMap_nil, List.getElem?_toArray, List.getElem?_cons_succ, List.getElem?_cons_zero]
      refine Ord.e_x rfl (by kernel_rfl) ?_
      go_wp2_with fail
      have ownA : (x0.alloc (.cells #[] 5)).ownsRow w5.heap.size 5 1 (.slice (some ⟨x0.heap.size, 0, none⟩) 0 0) 0 [] := own_empty x0 _ _ (hS.size) 1
      have hbx : Below x0.heap.size x0 (x0.alloc (.cells #[] 5)) := (Below.refl _ _).alloc (Nat.le_refl _) _
      replace hS := bnx hS hbx
      refine Ord.Seg.go hS (fun h => by cases h) ?_
      (try simp only [Act.put, List.setIfInBounds_toArray, List.set_cons_zero, List.set_cons_succ])
      generalize (x0.alloc (.cells #[] 5)) = x1 at *
      generalize x0.heap.size = gb at *
      clear hbx
      ((with_reducible refine Ord.e_p (v := ?_) ?_ ?_ ?_ ?_); rotate_left; (· exact rfl); (· kernel_rfl); (· intro w2; go_simp; try with_reducible rfl))
      (try simp only [Act.put, List.setIfInBounds_toArray, List.set_cons_zero, List.set_cons_succ])
      ((with_reducible refine Ord.e_p (v := ?_) ?_ ?_ ?_ ?_); rotate_left; (· exact rfl); (· kernel_rfl); (· intro w2; go_simp; try with_reducible rfl))
      (try simp only [Act.put, List.setIfInBounds_toArray, List.set_cons_zero, List.set_cons_succ])
      refine Ord.e_p (v := .slice Ap (m2) kp) rfl (by kernel_rfl) (fun w2 => by have hcut := HcutA.out w2; go_simp) ?_
      (try simp only [Act.put, List.setIfInBounds_toArray, List.set_cons_zero, List.set_cons_succ])
      refine Ord.e_x rfl (by kernel_rfl) ?_
      refine wpList_appG (base := w5.heap.size) Try.underlying36 Hi.out rfl (by omega) ownA rfl (Hr1.out.up hS) rfl (bv_one _) (k := m2) (by omega) (List.nil_append _) (by unfold maxLen; omega) (by omega) hS.size ?_
      intro AB cB x2 ownB hgr hob
      replace hS := Below.grown hS hgr hS.size (fun j hj => by have := (own_blk ownA hj).1; omega)
      clear hgr hob ownA
      go_wp2_with fail
      refine Ord.Seg.go hS (fun h => by cases h) ?_
      (try simp only [Act.put, List.setIfInBounds_toArray, List.set_cons_zero, List.set_cons_succ])
      ((with_reducible refine Ord.e_p (v := ?_) ?_ ?_ ?_ ?_); rotate_left; (· exact rfl); (· kernel_rfl); (· intro w2; go_simp; try with_reducible rfl))
      (try simp only [Act.put, List.setIfInBounds_toArray, List.set_cons_zero, List.set_cons_succ])
      refine Ord.e_x rfl (by kernel_rfl) ?_
      refine wpList_appG (base := w5.heap.size) Try.underlying36 Hi.out rfl (by omega) ownB rfl (Hr2.out.up hS) rfl (bv_one _) (k := m2 + no) (rfl) ((bv_app _ _).symm) (by unfold maxLen; omega) (by omega) hS.size ?_
      intro AC cC x3 ownC hgr hob
      replace hS := Below.grown hS hgr hS.size (fun j hj => by have := (own_blk ownB hj).1; omega)
      clear hgr hob ownB
      go_wp2_with fail
      refine Ord.Seg.go hS (fun h => by cases h) ?_
      (try simp only [Act.put, List.setIfInBounds_toArray, List.set_cons_zero, List.set_cons_succ])
      ((with_reducible refine Ord.e_p (v := ?_) ?_ ?_ ?_ ?_); rotate_left; (· exact rfl); (· kernel_rfl); (· intro w2; go_simp; try with_reducible rfl))
      (try simp only [Act.put, List.setIfInBounds_toArray, List.set_cons_zero, List.set_cons_succ])
      ((with_reducible refine Ord.e_p (v := ?_) ?_ ?_ ?_ ?_); rotate_left; (· exact rfl); (· kernel_rfl); (· intro w2; go_simp; try with_reducible rfl))
      (try simp only [Act.put, List.setIfInBounds_toArray, List.set_cons_zero, List.set_cons_succ])
      refine Ord.e_p (v := .slice (cutA Ap kp (np) 1) (0) (kp - np)) rfl (by kernel_rfl) (fun w2 => by have hcut := HcutC.out w2; go_simp) ?_
      (try simp only [Act.put, List.setIfInBounds_toArray, List.set_cons_zero, List.set_cons_succ])
      refine Ord.e_x rfl (by kernel_rfl) ?_
      refine wpList_appG (base := w5.heap.size) Try.underlying36 Hi.out rfl (by omega) ownC rfl (Hr3.out.up hS) rfl (bv_one _) (k := m2 + no) (by omega) ((bv_app _ _).symm) (by unfold maxLen; omega) (by omega) hS.size ?_
      intro AD cD x4 ownD hgr hob
      replace hS := Below.grown hS hgr hS.size (fun j hj => by have := (own_blk ownC hj).1; omega)
      clear hgr hob ownC
      go_wp2_with fail
      refine Ord.Seg.go hS (fun h => by cases h) ?_
      (try simp only [Act.put, List.setIfInBounds_toArray, List.set_cons_zero, List.set_cons_succ])
      refine Ord.e_x rfl (by kernel_rfl) ?_
      go_wp2_with fail
      go_fit (tltake_any AD (m2 + no) cD _ x4 (Rd.own ownD) (by omega))
      unfold RetTl
      rintro e x5 ⟨Aq, nq, kq, rfl, hrq, hbx⟩
      rw [HL.out.1, HL.out.2]
      replace hS := bnx hS hbx
      clear hbx ownD hrq
      generalize tkP _ = Q
      obtain ⟨qsq, qsy, qco, qid, qv⟩ := Q
      dsimp only
      go_wp2_with fail
      refine Ord.Seg.go hS (fun h => by cases h) ?_
      (try simp only [Act.put, List.setIfInBounds_toArray, List.set_cons_zero, List.set_cons_succ])
      ((with_reducible refine Ord.e_p (v := ?_) ?_ ?_ ?_ ?_); rotate_left; (· exact rfl); (· kernel_rfl); (· intro w2; go_simp; try with_reducible rfl))
      (try simp only [Act.put, List.setIfInBounds_toArray, List.set_cons_zero, List.set_cons_succ])
      ((with_reducible refine Ord.e_p (v := ?_) ?_ ?_ ?_ ?_); rotate_left; (· exact rfl); (· kernel_rfl); (· intro w2; go_simp; try with_reducible rfl))
      (try simp only [Act.put, List.setIfInBounds_toArray, List.set_cons_zero, List.set_cons_succ])
      ((with_reducible refine Ord.e_p (v := ?_) ?_ ?_ ?_ ?_); rotate_left; (· exact rfl); (· kernel_rfl); (· intro w2; go_simp; try with_reducible rfl))
      (try simp only [Act.put, List.setIfInBounds_toArray, List.set_cons_zero, List.set_cons_succ])
      ((with_reducible refine Ord.e_p (v := ?_) ?_ ?_ ?_ ?_); rotate_left; (· exact rfl); (· kernel_rfl); (· intro w2; go_simp; try with_reducible rfl))
      (try simp only [Act.put, List.setIfInBounds_toArray, List.set_cons_zero, List.set_cons_succ])
      refine Ord.e_x rfl (by kernel_rfl) ?_
      go_wp2_with fail
      have hbx : Below x5.heap.size x5 (x5.alloc (.cells #[.int .i64 0, .int .i64 0, .int .i64 0, .int .i64 0, .slice none 0 0] 48)) := (Below.refl _ _).alloc (Nat.le_refl _) _
      have r12 := heap_alloc_new x5 (.cells #[.int .i64 0, .int .i64 0, .int .i64 0, .int .i64 0, .slice none 0 0] 48)
      have hM12 : w5.heap.size ≤ x5.heap.size := hS.size
      replace hS := bnx hS hbx
      refine Ord.Seg.go hS (fun h => by cases h) ?_
      (try simp only [Act.put, List.setIfInBounds_toArray, List.set_cons_zero, List.set_cons_succ])
      generalize (x5.alloc (.cells #[.int .i64 0, .int .i64 0, .int .i64 0, .int .i64 0, .slice none 0 0] 48)) = x6 at *
      generalize x5.heap.size = g12 at *
      clear hbx
      have hlt12 : g12 < x6.heap.size := blk_lt r12
      refine Ord.e_x rfl (by kernel_rfl) ?_
      refine wpList_store_row rfl _ _ _ rfl g12 #[.int .i64 qsq, .int .i64 qsy, .int .i64 qco, .int .i64 qid, .slice Aq nq kq] rfl rfl _ _ r12 (by kernel_rfl) rfl (by kernel_rfl) ?_
      replace hS := below_setRow hS hM12 (#[.int .i64 qsq, .int .i64 qsy, .int .i64 qco, .int .i64 qid, .slice Aq nq kq] : Array Value)
      generalize (x6.setRow g12 #[.int .i64 qsq, .int .i64 qsy, .int .i64 qco, .int .i64 qid, .slice Aq nq kq]) = wz at *
      go_wp2_with fail
      refine Ord.Seg.go hS (fun h => by cases h) ?_
      (try simp only [Act.put, List.setIfInBounds_toArray, List.set_cons_zero, List.set_cons_succ])
      clear r12 hlt12 hM12
      ((with_reducible refine Ord.e_p (v := ?_) ?_ ?_ ?_ ?_); rotate_left; (· exact rfl); (· kernel_rfl); (· intro w2; go_simp; try with_reducible rfl))
      (try simp only [Act.put, List.setIfInBounds_toArray, List.set_cons_zero, List.set_cons_succ])
      ((with_reducible refine Ord.e_p (v := ?_) ?_ ?_ ?_ ?_); rotate_left; (· exact rfl); (· kernel_rfl); (· intro w2; go_simp; try with_reducible rfl))
      (try simp only [Act.put, List.setIfInBounds_toArray, List.set_cons_zero, List.set_cons_succ])
      refine Ord.e_nil ?_
      have hbf := bnx hb hS
      clear hS hb
      cases any with
      | true =>
        obtain rfl : rE = 4 := HrE.out.1
        obtain rfl : rN = 0 := HrE.out.2
        go_wp2_with fail
        go_fit (num32_any _ _)
        rintro e wn ⟨rfl, rfl⟩
        go_wp2_with fail
        go_fit (num32_any _ _)
        rintro e wn ⟨rfl, rfl⟩
        go_wp2
        go_ret
        exact ⟨rfl, hbf⟩
      | false =>
        obtain rfl : rE = 0 := HrE.out.1
        obtain rfl : rN = np := HrE.out.2
        go_wp2_with fail
        go_fit (num32_any _ _)
        rintro e wn ⟨rfl, rfl⟩
        go_wp2
        go_ret
        exact ⟨rfl, hbf⟩
    · simp only [Ord.lst, List.filterMap_cons, List.filterMap_nil, List.getElem?_toArray, List.getElem?_cons_succ, List.getElem?_cons_zero]
      refine Ord.e_x rfl (by kernel_rfl) ?_
      go_wp2_with fail
      have ownA : (x0.alloc (.cells #[] 5)).ownsRow w5.heap.size 5 1 (.slice (some ⟨x0.heap.size, 0, none⟩) 0 0) 0 [] := own_empty x0 _ _ (hS.size) 1
      have hbx : Below x0.heap.size x0 (x0.alloc (.cells #[] 5)) := (Below.refl _ _).alloc (Nat.le_refl _) _
      replace hS := bnx hS hbx
      refine Ord.Seg.go hS (fun h => by cases h) ?_
      (try simp only [Act.put, List.setIfInBounds_toArray, List.set_cons_zero, List.set_cons_succ])
      generalize (x0.alloc (.cells #[] 5)) = x1 at *
      generalize x0.heap.size = gb at *
      clear hbx
      ((with_reducible refine Ord.e_p (v := ?_) ?_ ?_ ?_ ?_); rotate_left; (· exact rfl); (· kernel_rfl); (· intro w2; go_simp; try with_reducible rfl))
      (try simp only [Act.put, List.setIfInBounds_toArray, List.set_cons_zero, List.set_cons_succ])
      ((with_reducible refine Ord.e_p (v := ?_) ?_ ?_ ?_ ?_); rotate_left; (· exact rfl); (· kernel_rfl); (· intro w2; go_simp; try with_reducible rfl))
      (try simp only [Act.put, List.setIfInBounds_toArray, List.set_cons_zero, List.set_cons_succ])
      refine Ord.e_p (v := .slice Ap (m2) kp) rfl (by kernel_rfl) (fun w2 => by have hcut := HcutA.out w2; go_simp) ?_
      (try simp only [Act.put, List.setIfInBounds_toArray, List.set_cons_zero, List.set_cons_succ])
      refine Ord.e_x rfl (by kernel_rfl) ?_
      refine wpList_appG (base := w5.heap.size) Try.underlying36 Hi.out rfl (by omega) ownA rfl (Hr1.out.up hS) rfl (bv_one _) (k := m2) (by omega) (List.nil_append _) (by unfold maxLen; omega) (by omega) hS.size ?_
      intro AB cB x2 ownB hgr hob
      replace hS := Below.grown hS hgr hS.size (fun j hj => by have := (own_blk ownA hj).1; omega)
      clear hgr hob ownA
      go_wp2_with fail
      refine Ord.Seg.go hS (fun h => by cases h) ?_
      (try simp only [Act.put, List.setIfInBounds_toArray, List.set_cons_zero, List.set_cons_succ])
      ((with_reducible refine Ord.e_p (v := ?_) ?_ ?_ ?_ ?_); rotate_left; (· exact rfl); (· kernel_rfl); (· intro w2; go_simp; try with_reducible rfl))
      (try simp only [Act.put, List.setIfInBounds_toArray, List.set_cons_zero, List.set_cons_succ])
      refine Ord.e_x rfl (by kernel_rfl) ?_
      refine wpList_appG (base := w5.heap.size) Try.underlying36 Hi.out rfl (by omega) ownB rfl (Hr2.out.up hS) rfl (bv_one _) (k := m2 + no) (rfl) ((bv_app _ _).symm) (by unfold maxLen; omega) (by omega) hS.size ?_
      intro AC cC x3 ownC hgr hob
      replace hS := Below.grown hS hgr hS.size (fun j hj => by have := (own_blk ownB hj).1; omega)
      clear hgr hob ownB
      go_wp2_with fail
      refine Ord.Seg.go hS (fun h => by cases h) ?_
      (try simp only [Act.put, List.setIfInBounds_toArray, List.set_cons_zero, List.set_cons_succ])
      ((with_reducible refine Ord.e_p (v := ?_) ?_ ?_ ?_ ?_); rotate_left; (· exact rfl); (· kernel_rfl); (· intro w2; go_simp; try with_reducible rfl))
      (try simp only [Act.put, List.setIfInBounds_toArray, List.set_cons_zero, List.set_cons_succ])
      ((with_reducible refine Ord.e_p (v := ?_) ?_ ?_ ?_ ?_); rotate_left; (· exact rfl); (· kernel_rfl); (· intro w2; go_simp; try with_reducible rfl))
      (try simp only [Act.put, List.setIfInBounds_toArray, List.set_cons_zero, List.set_cons_succ])
      refine Ord.e_p (v := .slice (cutA Ap kp (np) 1) (0) (kp - np)) rfl (by kernel_rfl) (fun w2 => by have hcut := HcutC.out w2; go_simp) ?_
      (try simp only [Act.put, List.setIfInBounds_toArray, List.set_cons_zero, List.set_cons_succ])
      refine Ord.e_x rfl (by kernel_rfl) ?_
      refine wpList_appG (base := w5.heap.size) Try.underlying36 Hi.out rfl (by omega) ownC rfl (Hr3.out.up hS) rfl (bv_one _) (k := m2 + no) (by omega) ((bv_app _ _).symm) (by unfold maxLen; omega) (by omega) hS.size ?_
      intro AD cD x4 ownD hgr hob
      replace hS := Below.grown hS hgr hS.size (fun j hj => by have := (own_blk ownC hj).1; omega)
      clear hgr hob ownC
      go_wp2_with fail
      refine Ord.Seg.go hS (fun h => by cases h) ?_
      (try simp only [Act.put, List.setIfInBounds_toArray, List.set_cons_zero, List.set_cons_succ])
      refine Ord.e_x rfl (by kernel_rfl) ?_
      go_wp2_with fail
      have hbx : Below x4.heap.size x4 (x4.alloc (.cells #[.int .i64 0, .int .i64 0, .int .i64 0, .int .i64 0, .slice none 0 0] 48)) := (Below.refl _ _).alloc (Nat.le_refl _) _
      have r12 := heap_alloc_new x4 (.cells #[.int .i64 0, .int .i64 0, .int .i64 0, .int .i64 0, .slice none 0 0] 48)
      have hM12 : w5.heap.size ≤ x4.heap.size := hS.size
      have hne : ∀ j, (Value.slice AD (m2 + no) cD).ownBlock = some j → j ≠ x4.heap.size := fun j hj => by have := (own_blk ownD hj).2; omega
      replace ownD := own_up ownD hbx (Nat.le_refl _)
      replace hS := bnx hS hbx
      refine Ord.Seg.go hS (fun h => by cases h) ?_
      (try simp only [Act.put, List.setIfInBounds_toArray, List.set_cons_zero, List.set_cons_succ])
      generalize (x4.alloc (.cells #[.int .i64 0, .int .i64 0, .int .i64 0, .int .i64 0, .slice none 0 0] 48)) = x5 at *
      generalize x4.heap.size = g12 at *
      clear hbx
      have hlt12 : g12 < x5.heap.size := blk_lt r12
      refine Ord.e_x rfl (by kernel_rfl) ?_
      go_wp2_with fail
      go_fit (tltake_any AD (m2 + no) cD _ x5 (Rd.own ownD) (by omega))
      unfold RetTl
      rintro e x6 ⟨Aq, nq, kq, rfl, hrq, hbx⟩
      rw [HL.out.1, HL.out.2]
      replace r12 := blk_old r12 hbx (blk_lt r12)
      replace hS := bnx hS hbx
      clear hbx ownD hrq
      generalize tkP _ = Q
      obtain ⟨qsq, qsy, qco, qid, qv⟩ := Q
      dsimp only
      go_wp2_with fail
      refine Ord.Seg.go hS (fun h => by cases h) ?_
      (try simp only [Act.put, List.setIfInBounds_toArray, List.set_cons_zero, List.set_cons_succ])
      ((with_reducible refine Ord.e_p (v := ?_) ?_ ?_ ?_ ?_); rotate_left; (· exact rfl); (· kernel_rfl); (· intro w2; go_simp; try with_reducible rfl))
      (try simp only [Act.put, List.setIfInBounds_toArray, List.set_cons_zero, List.set_cons_succ])
      ((with_reducible refine Ord.e_p (v := ?_) ?_ ?_ ?_ ?_); rotate_left; (· exact rfl); (· kernel_rfl); (· intro w2; go_simp; try with_reducible rfl))
      (try simp only [Act.put, List.setIfInBounds_toArray, List.set_cons_zero, List.set_cons_succ])
      ((with_reducible refine Ord.e_p (v := ?_) ?_ ?_ ?_ ?_); rotate_left; (· exact rfl); (· kernel_rfl); (· intro w2; go_simp; try with_reducible rfl))
      (try simp only [Act.put, List.setIfInBounds_toArray, List.set_cons_zero, List.set_cons_succ])
      ((with_reducible refine Ord.e_p (v := ?_) ?_ ?_ ?_ ?_); rotate_left; (· exact rfl); (· kernel_rfl); (· intro w2; go_simp; try with_reducible rfl))
      (try simp only [Act.put, List.setIfInBounds_toArray, List.set_cons_zero, List.set_cons_succ])
      refine Ord.e_x rfl (by kernel_rfl) ?_
      refine wpList_store_row rfl _ _ _ rfl g12 #[.int .i64 qsq, .int .i64 qsy, .int .i64 qco, .int .i64 qid, .slice Aq nq kq] rfl rfl _ _ r12 (by kernel_rfl) rfl (by kernel_rfl) ?_
      replace hS := below_setRow hS hM12 (#[.int .i64 qsq, .int .i64 qsy, .int .i64 qco, .int .i64 qid, .slice Aq nq kq] : Array Value)
      generalize (x6.setRow g12 #[.int .i64 qsq, .int .i64 qsy, .int .i64 qco, .int .i64 qid, .slice Aq nq kq]) = wz at *
      go_wp2_with fail
      refine Ord.Seg.go hS (fun h => by cases h) ?_
      (try simp only [Act.put, List.setIfInBounds_toArray, List.set_cons_zero, List.set_cons_succ])
      clear r12 hlt12 hM12
      ((with_reducible refine Ord.e_p (v := ?_) ?_ ?_ ?_ ?_); rotate_left; (· exact rfl); (· kernel_rfl); (· intro w2; go_simp; try with_reducible rfl))
      (try simp only [Act.put, List.setIfInBounds_toArray, List.set_cons_zero, List.set_cons_succ])
      ((with_reducible refine Ord.e_p (v := ?_) ?_ ?_ ?_ ?_); rotate_left; (· exact rfl); (· kernel_rfl); (· intro w2; go_simp; try with_reducible rfl))
      (try simp only [Act.put, List.setIfInBounds_toArray, List.set_cons_zero, List.set_cons_succ])
      refine Ord.e_nil ?_
      have hbf := bnx hb hS
      clear hS hb
      cases any with
      | true =>
        obtain rfl : rE = 4 := HrE.out.1
        obtain rfl : rN = 0 := HrE.out.2
        go_wp2_with fail
        go_fit (num32_any _ _)
        rintro e wn ⟨rfl, rfl⟩
        go_wp2_with fail
        go_fit (num32_any _ _)
        rintro e wn ⟨rfl, rfl⟩
        go_wp2
        go_ret
        exact ⟨rfl, hbf⟩
      | false =>
        obtain rfl : rE = 0 := HrE.out.1
        obtain rfl : rN = np := HrE.out.2
        go_wp2_with fail
        go_fit (num32_any _ _)
        rintro e wn ⟨rfl, rfl⟩
        go_wp2
        go_ret
        exact ⟨rfl, hbf⟩
    · simp only [Ord.lst, List.filterMap_cons, List.filterMap_nil, List.getElem?_toArray, List.getElem?_cons_succ, List.getElem?_cons_zero]
      refine Ord.e_x rfl (by kernel_rfl) ?_
      go_wp2_with fail
      have ownA : (x0.alloc (.cells #[] 5)).ownsRow w5.heap.size 5 1 (.slice (some ⟨x0.heap.size, 0, none⟩) 0 0) 0 [] := own_empty x0 _ _ (hS.size) 1
      have hbx : Below x0.heap.size x0 (x0.alloc (.cells #[] 5)) := (Below.refl _ _).alloc (Nat.le_refl _) _
      replace hS := bnx hS hbx
      refine Ord.Seg.go hS (fun h => by cases h) ?_
      (try simp only [Act.put, List.setIfInBounds_toArray, List.set_cons_zero, List.set_cons_succ])
      generalize (x0.alloc (.cells #[] 5)) = x1 at *
      generalize x0.heap.size = gb at *
      clear hbx
      ((with_reducible refine Ord.e_p (v := ?_) ?_ ?_ ?_ ?_); rotate_left; (· exact rfl); (· kernel_rfl); (· intro w2; go_simp; try with_reducible rfl))
      (try simp only [Act.put, List.setIfInBounds_toArray, List.set_cons_zero, List.set_cons_succ])
      ((with_reducible refine Ord.e_p (v := ?_) ?_ ?_ ?_ ?_); rotate_left; (· exact rfl); (· kernel_rfl); (· intro w2; go_simp; try with_reducible rfl))
      (try simp only [Act.put, List.setIfInBounds_toArray, List.set_cons_zero, List.set_cons_succ])
      refine Ord.e_p (v := .slice Ap (m2) kp) rfl (by kernel_rfl) (fun w2 => by have hcut := HcutA.out w2; go_simp) ?_
      (try simp only [Act.put, List.setIfInBounds_toArray, List.set_cons_zero, List.set_cons_succ])
      refine Ord.e_x rfl (by kernel_rfl) ?_
      refine wpList_appG (base := w5.heap.size) Try.underlying36 Hi.out rfl (by omega) ownA rfl (Hr1.out.up hS) rfl (bv_one _) (k := m2) (by omega) (List.nil_append _) (by unfold maxLen; omega) (by omega) hS.size ?_
      intro AB cB x2 ownB hgr hob
      replace hS := Below.grown hS hgr hS.size (fun j hj => by have := (own_blk ownA hj).1; omega)
      clear hgr hob ownA
      go_wp2_with fail
      refine Ord.Seg.go hS (fun h => by cases h) ?_
      (try simp only [Act.put, List.setIfInBounds_toArray, List.set_cons_zero, List.set_cons_succ])
      ((with_reducible refine Ord.e_p (v := ?_) ?_ ?_ ?_ ?_); rotate_left; (· exact rfl); (· kernel_rfl); (· intro w2; go_simp; try with_reducible rfl))
      (try simp only [Act.put, List.setIfInBounds_toArray, List.set_cons_zero, List.set_cons_succ])
      refine Ord.e_x rfl (by kernel_rfl) ?_
      refine wpList_appG (base := w5.heap.size) Try.underlying36 Hi.out rfl (by omega) ownB rfl (Hr2.out.up hS) rfl (bv_one _) (k := m2 + no) (rfl) ((bv_app _ _).symm) (by unfold maxLen; omega) (by omega) hS.size ?_
      intro AC cC x3 ownC hgr hob
      replace hS := Below.grown hS hgr hS.size (fun j hj => by have := (own_blk ownB hj).1; omega)
      clear hgr hob ownB
      go_wp2_with fail
      refine Ord.Seg.go hS (fun h => by cases h) ?_
      (try simp only [Act.put, List.setIfInBounds_toArray, List.set_cons_zero, List.set_cons_succ])
      ((with_reducible refine Ord.e_p (v := ?_) ?_ ?_ ?_ ?_); rotate_left; (· exact rfl); (· kernel_rfl); (· intro w2; go_simp; try with_reducible rfl))
      (try simp only [Act.put, List.setIfInBounds_toArray, List.set_cons_zero, List.set_cons_succ])
      ((with_reducible refine Ord.e_p (v := ?_) ?_ ?_ ?_ ?_); rotate_left; (· exact rfl); (· kernel_rfl); (· intro w2; go_simp; try with_reducible rfl))
      (try simp only [Act.put, List.setIfInBounds_toArray, List.set_cons_zero, List.set_cons_succ])
      refine Ord.e_p (v := .slice (cutA Ap kp (np) 1) (0) (kp - np)) rfl (by kernel_rfl) (fun w2 => by have hcut := HcutC.out w2; go_simp) ?_
      (try simp only [Act.put, List.setIfInBounds_toArray, List.set_cons_zero, List.set_cons_succ])
      refine Ord.e_x rfl (by kernel_rfl) ?_
      go_wp2_with fail
      have hbx : Below x3.heap.size x3 (x3.alloc (.cells #[.int .i64 0, .int .i64 0, .int .i64 0, .int .i64 0, .slice none 0 0] 48)) := (Below.refl _ _).alloc (Nat.le_refl _) _
      have r12 := heap_alloc_new x3 (.cells #[.int .i64 0, .int .i64 0, .int .i64 0, .int .i64 0, .slice none 0 0] 48)
      have hM12 : w5.heap.size ≤ x3.heap.size := hS.size
      have hne : ∀ j, (Value.slice AC (m2 + no) cC).ownBlock = some j → j ≠ x3.heap.size := fun j hj => by have := (own_blk ownC hj).2; omega
      replace ownC := own_up ownC hbx (Nat.le_refl _)
      replace hS := bnx hS hbx
      refine Ord.Seg.go hS (fun h => by cases h) ?_
      (try simp only [Act.put, List.setIfInBounds_toArray, List.set_cons_zero, List.set_cons_succ])
      generalize (x3.alloc (.cells #[.int .i64 0, .int .i64 0, .int .i64 0, .int .i64 0, .slice none 0 0] 48)) = x4 at *
      generalize x3.heap.size = g12 at *
      clear hbx
      have hlt12 : g12 < x4.heap.size := blk_lt r12
      refine Ord.e_x rfl (by kernel_rfl) ?_
      refine wpList_appG (base := w5.heap.size) Try.underlying36 Hi.out rfl (by omega) ownC rfl (Hr3.out.up hS) rfl (bv_one _) (k := m2 + no) (by omega) ((bv_app _ _).symm) (by unfold maxLen; omega) (by omega) hS.size ?_
      intro AD cD x5 ownD hgr hob
      have hne2 : ∀ j, (Value.slice AD (m2 + no) cD).ownBlock = some j → j ≠ g12 := fun j hj => by
        rcases hob with e | e
        · exact hne j (e.symm.trans hj)
        · have e2 := e.symm.trans hj
          injection e2 with e2
          have := blk_lt r12
          omega
      replace r12 := (hgr.block g12 (blk_lt r12) (fun e => hne g12 e.symm rfl)).trans r12
      replace hne := hne2
      clear hne2
      replace hS := Below.grown hS hgr hS.size (fun j hj => by have := (own_blk ownC hj).1; omega)
      clear hgr hob ownC
      go_wp2_with fail
      refine Ord.Seg.go hS (fun h => by cases h) ?_
      (try simp only [Act.put, List.setIfInBounds_toArray, List.set_cons_zero, List.set_cons_succ])
      refine Ord.e_x rfl (by kernel_rfl) ?_
      go_wp2_with fail
      go_fit (tltake_any AD (m2 + no) cD _ x5 (Rd.own ownD) (by omega))
      unfold RetTl
      rintro e x6 ⟨Aq, nq, kq, rfl, hrq, hbx⟩
      rw [HL.out.1, HL.out.2]
      replace r12 := blk_old r12 hbx (blk_lt r12)
      replace hS := bnx hS hbx
      clear hbx ownD hrq
      generalize tkP _ = Q
      obtain ⟨qsq, qsy, qco, qid, qv⟩ := Q
      dsimp only
      go_wp2_with fail
      refine Ord.Seg.go hS (fun h => by cases h) ?_
      (try simp only [Act.put, List.setIfInBounds_toArray, List.set_cons_zero, List.set_cons_succ])
      ((with_reducible refine Ord.e_p (v := ?_) ?_ ?_ ?_ ?_); rotate_left; (· exact rfl); (· kernel_rfl); (· intro w2; go_simp; try with_reducible rfl))
      (try simp only [Act.put, List.setIfInBounds_toArray, List.set_cons_zero, List.set_cons_succ])
      ((with_reducible refine Ord.e_p (v := ?_) ?_ ?_ ?_ ?_); rotate_left; (· exact rfl); (· kernel_rfl); (· intro w2; go_simp; try with_reducible rfl))
      (try simp only [Act.put, List.setIfInBounds_toArray, List.set_cons_zero, List.set_cons_succ])
      ((with_reducible refine Ord.e_p (v := ?_) ?_ ?_ ?_ ?_); rotate_left; (· exact rfl); (· kernel_rfl); (· intro w2; go_simp; try with_reducible rfl))
      (try simp only [Act.put, List.setIfInBounds_toArray, List.set_cons_zero, List.set_cons_succ])
      ((with_reducible refine Ord.e_p (v := ?_) ?_ ?_ ?_ ?_); rotate_left; (· exact rfl); (· kernel_rfl); (· intro w2; go_simp; try with_reducible rfl))
      (try simp only [Act.put, List.setIfInBounds_toArray, List.set_cons_zero, List.set_cons_succ])
      refine Ord.e_x rfl (by kernel_rfl) ?_
      refine wpList_store_row rfl _ _ _ rfl g12 #[.int .i64 qsq, .int .i64 qsy, .int .i64 qco, .int .i64 qid, .slice Aq nq kq] rfl rfl _ _ r12 (by kernel_rfl) rfl (by kernel_rfl) ?_
      replace hS := below_setRow hS hM12 (#[.int .i64 qsq, .int .i64 qsy, .int .i64 qco, .int .i64 qid, .slice Aq nq kq] : Array Value)
      generalize (x6.setRow g12 #[.int .i64 qsq, .int .i64 qsy, .int .i64 qco, .int .i64 qid, .slice Aq nq kq]) = wz at *
      go_wp2_with fail
      refine Ord.Seg.go hS (fun h => by cases h) ?_
      (try simp only [Act.put, List.setIfInBounds_toArray, List.set_cons_zero, List.set_cons_succ])
      clear r12 hlt12 hM12
      ((with_reducible refine Ord.e_p (v := ?_) ?_ ?_ ?_ ?_); rotate_left; (· exact rfl); (· kernel_rfl); (· intro w2; go_simp; try with_reducible rfl))
      (try simp only [Act.put, List.setIfInBounds_toArray, List.set_cons_zero, List.set_cons_succ])
      ((with_reducible refine Ord.e_p (v := ?_) ?_ ?_ ?_ ?_); rotate_left; (· exact rfl); (· kernel_rfl); (· intro w2; go_simp; try with_reducible rfl))
      (try simp only [Act.put, List.setIfInBounds_toArray, List.set_cons_zero, List.set_cons_succ])
      refine Ord.e_nil ?_
      have hbf := bnx hb hS
      clear hS hb
      cases any with
      | true =>
        obtain rfl : rE = 4 := HrE.out.1
        obtain rfl : rN = 0 := HrE.out.2
        go_wp2_with fail
        go_fit (num32_any _ _)
        rintro e wn ⟨rfl, rfl⟩
        go_wp2_with fail
        go_fit (num32_any _ _)
        rintro e wn ⟨rfl, rfl⟩
        go_wp2
        go_ret
        exact ⟨rfl, hbf⟩
      | false =>
        obtain rfl : rE = 0 := HrE.out.1
        obtain rfl : rN = np := HrE.out.2
        go_wp2_with fail
        go_fit (num32_any _ _)
        rintro e wn ⟨rfl, rfl⟩
        go_wp2
        go_ret
        exact ⟨rfl, hbf⟩
    · simp only [Ord.lst, List.filterMap_cons, List.filterMap_nil, List.getElem?_toArray, List.getElem?_cons_succ, List.getElem?_cons_zero]
      refine Ord.e_x rfl (by kernel_rfl) ?_
      go_wp2_with fail
      have ownA : (x0.alloc (.cells #[] 5)).ownsRow w5.heap.size 5 1 (.slice (some ⟨x0.heap.size, 0, none⟩) 0 0) 0 [] := own_empty x0 _ _ (hS.size) 1
      have hbx : Below x0.heap.size x0 (x0.alloc (.cells #[] 5)) := (Below.refl _ _).alloc (Nat.le_refl _) _
      replace hS := bnx hS hbx
      refine Ord.Seg.go hS (fun h => by cases h) ?_
      (try simp only [Act.put, List.setIfInBounds_toArray, List.set_cons_zero, List.set_cons_succ])
      generalize (x0.alloc (.cells #[] 5)) = x1 at *
      generalize x0.heap.size = gb at *
      clear hbx
      ((with_reducible refine Ord.e_p (v := ?_) ?_ ?_ ?_ ?_); rotate_left; (· exact rfl); (· kernel_rfl); (· intro w2; go_simp; try with_reducible rfl))
      (try simp only [Act.put, List.setIfInBounds_toArray, List.set_cons_zero, List.set_cons_succ])
      ((with_reducible refine Ord.e_p (v := ?_) ?_ ?_ ?_ ?_); rotate_left; (· exact rfl); (· kernel_rfl); (· intro w2; go_simp; try with_reducible rfl))
      (try simp only [Act.put, List.setIfInBounds_toArray, List.set_cons_zero, List.set_cons_succ])
      refine Ord.e_p (v := .slice Ap (m2) kp) rfl (by kernel_rfl) (fun w2 => by have hcut := HcutA.out w2; go_simp) ?_
      (try simp only [Act.put, List.setIfInBounds_toArray, List.set_cons_zero, List.set_cons_succ])
      refine Ord.e_x rfl (by kernel_rfl) ?_
      refine wpList_appG (base := w5.heap.size) Try.underlying36 Hi.out rfl (by omega) ownA rfl (Hr1.out.up hS) rfl (bv_one _) (k := m2) (by omega) (List.nil_append _) (by unfold maxLen; omega) (by omega) hS.size ?_
      intro AB cB x2 ownB hgr hob
      replace hS := Below.grown hS hgr hS.size (fun j hj => by have := (own_blk ownA hj).1; omega)
      clear hgr hob ownA
      go_wp2_with fail
      refine Ord.Seg.go hS (fun h => by cases h) ?_
      (try simp only [Act.put, List.setIfInBounds_toArray, List.set_cons_zero, List.set_cons_succ])
      ((with_reducible refine Ord.e_p (v := ?_) ?_ ?_ ?_ ?_); rotate_left; (· exact rfl); (· kernel_rfl); (· intro w2; go_simp; try with_reducible rfl))
      (try simp only [Act.put, List.setIfInBounds_toArray, List.set_cons_zero, List.set_cons_succ])
      refine Ord.e_x rfl (by kernel_rfl) ?_
      go_wp2_with fail
      have hbx : Below x2.heap.size x2 (x2.alloc (.cells #[.int .i64 0, .int .i64 0, .int .i64 0, .int .i64 0, .slice none 0 0] 48)) := (Below.refl _ _).alloc (Nat.le_refl _) _
      have r12 := heap_alloc_new x2 (.cells #[.int .i64 0, .int .i64 0, .int .i64 0, .int .i64 0, .slice none 0 0] 48)
      have hM12 : w5.heap.size ≤ x2.heap.size := hS.size
      have hne : ∀ j, (Value.slice AB (m2) cB).ownBlock = some j → j ≠ x2.heap.size := fun j hj => by have := (own_blk ownB hj).2; omega
      replace ownB := own_up ownB hbx (Nat.le_refl _)
      replace hS := bnx hS hbx
      refine Ord.Seg.go hS (fun h => by cases h) ?_
      (try simp only [Act.put, List.setIfInBounds_toArray, List.set_cons_zero, List.set_cons_succ])
      generalize (x2.alloc (.cells #[.int .i64 0, .int .i64 0, .int .i64 0, .int .i64 0, .slice none 0 0] 48)) = x3 at *
      generalize x2.heap.size = g12 at *
      clear hbx
      have hlt12 : g12 < x3.heap.size := blk_lt r12
      refine Ord.e_x rfl (by kernel_rfl) ?_
      refine wpList_appG (base := w5.heap.size) Try.underlying36 Hi.out rfl (by omega) ownB rfl (Hr2.out.up hS) rfl (bv_one _) (k := m2 + no) (rfl) ((bv_app _ _).symm) (by unfold maxLen; omega) (by omega) hS.size ?_
      intro AC cC x4 ownC hgr hob
      have hne2 : ∀ j, (Value.slice AC (m2 + no) cC).ownBlock = some j → j ≠ g12 := fun j hj => by
        rcases hob with e | e
        · exact hne j (e.symm.trans hj)
        · have e2 := e.symm.trans hj
          injection e2 with e2
          have := blk_lt r12
          omega
      replace r12 := (hgr.block g12 (blk_lt r12) (fun e => hne g12 e.symm rfl)).trans r12
      replace hne := hne2
      clear hne2
      replace hS := Below.grown hS hgr hS.size (fun j hj => by have := (own_blk ownB hj).1; omega)
      clear hgr hob ownB
      go_wp2_with fail
      refine Ord.Seg.go hS (fun h => by cases h) ?_
      (try simp only [Act.put, List.setIfInBounds_toArray, List.set_cons_zero, List.set_cons_succ])
      ((with_reducible refine Ord.e_p (v := ?_) ?_ ?_ ?_ ?_); rotate_left; (· exact rfl); (· kernel_rfl); (· intro w2; go_simp; try with_reducible rfl))
      (try simp only [Act.put, List.setIfInBounds_toArray, List.set_cons_zero, List.set_cons_succ])
      ((with_reducible refine Ord.e_p (v := ?_) ?_ ?_ ?_ ?_); rotate_left; (· exact rfl); (· kernel_rfl); (· intro w2; go_simp; try with_reducible rfl))
      (try simp only [Act.put, List.setIfInBounds_toArray, List.set_cons_zero, List.set_cons_succ])
      refine Ord.e_p (v := .slice (cutA Ap kp (np) 1) (0) (kp - np)) rfl (by kernel_rfl) (fun w2 => by have hcut := HcutC.out w2; go_simp) ?_
      (try simp only [Act.put, List.setIfInBounds_toArray, List.set_cons_zero, List.set_cons_succ])
      refine Ord.e_x rfl (by kernel_rfl) ?_
      refine wpList_appG (base := w5.heap.size) Try.underlying36 Hi.out rfl (by omega) ownC rfl (Hr3.out.up hS) rfl (bv_one _) (k := m2 + no) (by omega) ((bv_app _ _).symm) (by unfold maxLen; omega) (by omega) hS.size ?_
      intro AD cD x5 ownD hgr hob
      have hne2 : ∀ j, (Value.slice AD (m2 + no) cD).ownBlock = some j → j ≠ g12 := fun j hj => by
        rcases hob with e | e
        · exact hne j (e.symm.trans hj)
        · have e2 := e.symm.trans hj
          injection e2 with e2
          have := blk_lt r12
          omega
      replace r12 := (hgr.block g12 (blk_lt r12) (fun e => hne g12 e.symm rfl)).trans r12
      replace hne := hne2
      clear hne2
      replace hS := Below.grown hS hgr hS.size (fun j hj => by have := (own_blk ownC hj).1; omega)
      clear hgr hob ownC
      go_wp2_with fail
      refine Ord.Seg.go hS (fun h => by cases h) ?_
      (try simp only [Act.put, List.setIfInBounds_toArray, List.set_cons_zero, List.set_cons_succ])
      refine Ord.e_x rfl (by kernel_rfl) ?_
      go_wp2_with fail
      go_fit (tltake_any AD (m2 + no) cD _ x5 (Rd.own ownD) (by omega))
      unfold RetTl
      rintro e x6 ⟨Aq, nq, kq, rfl, hrq, hbx⟩
      rw [HL.out.1, HL.out.2]
      replace r12 := blk_old r12 hbx (blk_lt r12)
      replace hS := bnx hS hbx
      clear hbx ownD hrq
      generalize tkP _ = Q
      obtain ⟨qsq, qsy, qco, qid, qv⟩ := Q
      dsimp only
      go_wp2_with fail
      refine Ord.Seg.go hS (fun h => by cases h) ?_
      (try simp only [Act.put, List.setIfInBounds_toArray, List.set_cons_zero, List.set_cons_succ])
      ((with_reducible refine Ord.e_p (v := ?_) ?_ ?_ ?_ ?_); rotate_left; (· exact rfl); (· kernel_rfl); (· intro w2; go_simp; try with_reducible rfl))
      (try simp only [Act.put, List.setIfInBounds_toArray, List.set_cons_zero, List.set_cons_succ])
      ((with_reducible refine Ord.e_p (v := ?_) ?_ ?_ ?_ ?_); rotate_left; (· exact rfl); (· kernel_rfl); (· intro w2; go_simp; try with_reducible rfl))
      (try simp only [Act.put, List.setIfInBounds_toArray, List.set_cons_zero, List.set_cons_succ])
      ((with_reducible refine Ord.e_p (v := ?_) ?_ ?_ ?_ ?_); rotate_left; (· exact rfl); (· kernel_rfl); (· intro w2; go_simp; try with_reducible rfl))
      (try simp only [Act.put, List.setIfInBounds_toArray, List.set_cons_zero, List.set_cons_succ])
      ((with_reducible refine Ord.e_p (v := ?_) ?_ ?_ ?_ ?_); rotate_left; (· exact rfl); (· kernel_rfl); (· intro w2; go_simp; try with_reducible rfl))
      (try simp only [Act.put, List.setIfInBounds_toArray, List.set_cons_zero, List.set_cons_succ])
      refine Ord.e_x rfl (by kernel_rfl) ?_
      refine wpList_store_row rfl _ _ _ rfl g12 #[.int .i64 qsq, .int .i64 qsy, .int .i64 qco, .int .i64 qid, .slice Aq nq kq] rfl rfl _ _ r12 (by kernel_rfl) rfl (by kernel_rfl) ?_
      replace hS := below_setRow hS hM12 (#[.int .i64 qsq, .int .i64 qsy, .int .i64 qco, .int .i64 qid, .slice Aq nq kq] : Array Value)
      generalize (x6.setRow g12 #[.int .i64 qsq, .int .i64 qsy, .int .i64 qco, .int .i64 qid, .slice Aq nq kq]) = wz at *
      go_wp2_with fail
      refine Ord.Seg.go hS (fun h => by cases h) ?_
      (try simp only [Act.put, List.setIfInBounds_toArray, List.set_cons_zero, List.set_cons_succ])
      clear r12 hlt12 hM12
      ((with_reducible refine Ord.e_p (v := ?_) ?_ ?_ ?_ ?_); rotate_left; (· exact rfl); (· kernel_rfl); (· intro w2; go_simp; try with_reducible rfl))
      (try simp only [Act.put, List.setIfInBounds_toArray, List.set_cons_zero, List.set_cons_succ])
      ((with_reducible refine Ord.e_p (v := ?_) ?_ ?_ ?_ ?_); rotate_left; (· exact rfl); (· kernel_rfl); (· intro w2; go_simp; try with_reducible rfl))
      (try simp only [Act.put, List.setIfInBounds_toArray, List.set_cons_zero, List.set_cons_succ])
      refine Ord.e_nil ?_
      have hbf := bnx hb hS
      clear hS hb
      cases any with
      | true =>
        obtain rfl : rE = 4 := HrE.out.1
        obtain rfl : rN = 0 := HrE.out.2
        go_wp2_with fail
        go_fit (num32_any _ _)
        rintro e wn ⟨rfl, rfl⟩
        go_wp2_with fail
        go_fit (num32_any _ _)
        rintro e wn ⟨rfl, rfl⟩
        go_wp2
        go_ret
        exact ⟨rfl, hbf⟩
      | false =>
        obtain rfl : rE = 0 := HrE.out.1
        obtain rfl : rN = np := HrE.out.2
        go_wp2_with fail
        go_fit (num32_any _ _)
        rintro e wn ⟨rfl, rfl⟩
        go_wp2
        go_ret
        exact ⟨rfl, hbf⟩
    · simp only [Ord.lst, List.filterMap_cons, List.filterMap_nil, List.getElem?_toArray, List.getElem?_cons_succ, List.getElem?_cons_zero]
      refine Ord.e_x rfl (by kernel_rfl) ?_
      go_wp2_with fail
      have ownA : (x0.alloc (.cells #[] 5)).ownsRow w5.heap.size 5 1 (.slice (some ⟨x0.heap.size, 0, none⟩) 0 0) 0 [] := own_empty x0 _ _ (hS.size) 1
      have hbx : Below x0.heap.size x0 (x0.alloc (.cells #[] 5)) := (Below.refl _ _).alloc (Nat.le_refl _) _
      replace hS := bnx hS hbx
      refine Ord.Seg.go hS (fun h => by cases h) ?_
      (try simp only [Act.put, List.setIfInBounds_toArray, List.set_cons_zero, List.set_cons_succ])
      generalize (x0.alloc (.cells #[] 5)) = x1 at *
      generalize x0.heap.size = gb at *
      clear hbx
      ((with_reducible refine Ord.e_p (v := ?_) ?_ ?_ ?_ ?_); rotate_left; (· exact rfl); (· kernel_rfl); (· intro w2; go_simp; try with_reducible rfl))
      (try simp only [Act.put, List.setIfInBounds_toArray, List.set_cons_zero, List.set_cons_succ])
      ((with_reducible refine Ord.e_p (v := ?_) ?_ ?_ ?_ ?_); rotate_left; (· exact rfl); (· kernel_rfl); (· intro w2; go_simp; try with_reducible rfl))
      (try simp only [Act.put, List.setIfInBounds_toArray, List.set_cons_zero, List.set_cons_succ])
      refine Ord.e_p (v := .slice Ap (m2) kp) rfl (by kernel_rfl) (fun w2 => by have hcut := HcutA.out w2; go_simp) ?_
      (try simp only [Act.put, List.setIfInBounds_toArray, List.set_cons_zero, List.set_cons_succ])
      refine Ord.e_x rfl (by kernel_rfl) ?_
      go_wp2_with fail
      have hbx : Below x1.heap.size x1 (x1.alloc (.cells #[.int .i64 0, .int .i64 0, .int .i64 0, .int .i64 0, .slice none 0 0] 48)) := (Below.refl _ _).alloc (Nat.le_refl _) _
      have r12 := heap_alloc_new x1 (.cells #[.int .i64 0, .int .i64 0, .int .i64 0, .int .i64 0, .slice none 0 0] 48)
      have hM12 : w5.heap.size ≤ x1.heap.size := hS.size
      have hne : ∀ j, (Value.slice (some ⟨gb, 0, none⟩) 0 0).ownBlock = some j → j ≠ x1.heap.size := fun j hj => by have := (own_blk ownA hj).2; omega
      replace ownA := own_up ownA hbx (Nat.le_refl _)
      replace hS := bnx hS hbx
      refine Ord.Seg.go hS (fun h => by cases h) ?_
      (try simp only [Act.put, List.setIfInBounds_toArray, List.set_cons_zero, List.set_cons_succ])
      generalize (x1.alloc (.cells #[.int .i64 0, .int .i64 0, .int .i64 0, .int .i64 0, .slice none 0 0] 48)) = x2 at *
      generalize x1.heap.size = g12 at *
      clear hbx
      have hlt12 : g12 < x2.heap.size := blk_lt r12
      refine Ord.e_x rfl (by kernel_rfl) ?_
      refine wpList_appG (base := w5.heap.size) Try.underlying36 Hi.out rfl (by omega) ownA rfl (Hr1.out.up hS) rfl (bv_one _) (k := m2) (by omega) (List.nil_append _) (by unfold maxLen; omega) (by omega) hS.size ?_
      intro AB cB x3 ownB hgr hob
      have hne2 : ∀ j, (Value.slice AB (m2) cB).ownBlock = some j → j ≠ g12 := fun j hj => by
        rcases hob with e | e
        · exact hne j (e.symm.trans hj)
        · have e2 := e.symm.trans hj
          injection e2 with e2
          have := blk_lt r12
          omega
      replace r12 := (hgr.block g12 (blk_lt r12) (fun e => hne g12 e.symm rfl)).trans r12
      replace hne := hne2
      clear hne2
      replace hS := Below.grown hS hgr hS.size (fun j hj => by have := (own_blk ownA hj).1; omega)
      clear hgr hob ownA
      go_wp2_with fail
      refine Ord.Seg.go hS (fun h => by cases h) ?_
      (try simp only [Act.put, List.setIfInBounds_toArray, List.set_cons_zero, List.set_cons_succ])
      ((with_reducible refine Ord.e_p (v := ?_) ?_ ?_ ?_ ?_); rotate_left; (· exact rfl); (· kernel_rfl); (· intro w2; go_simp; try with_reducible rfl))
      (try simp only [Act.put, List.setIfInBounds_toArray, List.set_cons_zero, List.set_cons_succ])
      refine Ord.e_x rfl (by kernel_rfl) ?_
      refine wpList_appG (base := w5.heap.size) Try.underlying36 Hi.out rfl (by omega) ownB rfl (Hr2.out.up hS) rfl (bv_one _) (k := m2 + no) (rfl) ((bv_app _ _).symm) (by unfold maxLen; omega) (by omega) hS.size ?_
      intro AC cC x4 ownC hgr hob
      have hne2 : ∀ j, (Value.slice AC (m2 + no) cC).ownBlock = some j → j ≠ g12 := fun j hj => by
        rcases hob with e | e
        · exact hne j (e.symm.trans hj)
        · have e2 := e.symm.trans hj
          injection e2 with e2
          have := blk_lt r12
          omega
      replace r12 := (hgr.block g12 (blk_lt r12) (fun e => hne g12 e.symm rfl)).trans r12
      replace hne := hne2
      clear hne2
      replace hS := Below.grown hS hgr hS.size (fun j hj => by have := (own_blk ownB hj).1; omega)
      clear hgr hob ownB
      go_wp2_with fail
      refine Ord.Seg.go hS (fun h => by cases h) ?_
      (try simp only [Act.put, List.setIfInBounds_toArray, List.set_cons_zero, List.set_cons_succ])
      ((with_reducible refine Ord.e_p (v := ?_) ?_ ?_ ?_ ?_); rotate_left; (· exact rfl); (· kernel_rfl); (· intro w2; go_simp; try with_reducible rfl))
      (try simp only [Act.put, List.setIfInBounds_toArray, List.set_cons_zero, List.set_cons_succ])
      ((with_reducible refine Ord.e_p (v := ?_) ?_ ?_ ?_ ?_); rotate_left; (· exact rfl); (· kernel_rfl); (· intro w2; go_simp; try with_reducible rfl))
      (try simp only [Act.put, List.setIfInBounds_toArray, List.set_cons_zero, List.set_cons_succ])
      refine Ord.e_p (v := .slice (cutA Ap kp (np) 1) (0) (kp - np)) rfl (by kernel_rfl) (fun w2 => by have hcut := HcutC.out w2; go_simp) ?_
      (try simp only [Act.put, List.setIfInBounds_toArray, List.set_cons_zero, List.set_cons_succ])
      refine Ord.e_x rfl (by kernel_rfl) ?_
      refine wpList_appG (base := w5.heap.size) Try.underlying36 Hi.out rfl (by omega) ownC rfl (Hr3.out.up hS) rfl (bv_one _) (k := m2 + no) (by omega) ((bv_app _ _).symm) (by unfold maxLen; omega) (by omega) hS.size ?_
      intro AD cD x5 ownD hgr hob
      have hne2 : ∀ j, (Value.slice AD (m2 + no) cD).ownBlock = some j → j ≠ g12 := fun j hj => by
        rcases hob with e | e
        · exact hne j (e.symm.trans hj)
        · have e2 := e.symm.trans hj
          injection e2 with e2
          have := blk_lt r12
          omega
      replace r12 := (hgr.block g12 (blk_lt r12) (fun e => hne g12 e.symm rfl)).trans r12
      replace hne := hne2
      clear hne2
      replace hS := Below.grown hS hgr hS.size (fun j hj => by have := (own_blk ownC hj).1; omega)
      clear hgr hob ownC
      go_wp2_with fail
      refine Ord.Seg.go hS (fun h => by cases h) ?_
      (try simp only [Act.put, List.setIfInBounds_toArray, List.set_cons_zero, List.set_cons_succ])
      refine Ord.e_x rfl (by kernel_rfl) ?_
      go_wp2_with fail
      go_fit (tltake_any AD (m2 + no) cD _ x5 (Rd.own ownD) (by omega))
      unfold RetTl
      rintro e x6 ⟨Aq, nq, kq, rfl, hrq, hbx⟩
      rw [HL.out.1, HL.out.2]
      replace r12 := blk_old r12 hbx (blk_lt r12)
      replace hS := bnx hS hbx
      clear hbx ownD hrq
      generalize tkP _ = Q
      obtain ⟨qsq, qsy, qco, qid, qv⟩ := Q
      dsimp only
      go_wp2_with fail
      refine Ord.Seg.go hS (fun h => by cases h) ?_
      (try simp only [Act.put, List.setIfInBounds_toArray, List.set_cons_zero, List.set_cons_succ])
      ((with_reducible refine Ord.e_p (v := ?_) ?_ ?_ ?_ ?_); rotate_left; (· exact rfl); (· kernel_rfl); (· intro w2; go_simp; try with_reducible rfl))
      (try simp only [Act.put, List.setIfInBounds_toArray, List.set_cons_zero, List.set_cons_succ])
      ((with_reducible refine Ord.e_p (v := ?_) ?_ ?_ ?_ ?_); rotate_left; (· exact rfl); (· kernel_rfl); (· intro w2; go_simp; try with_reducible rfl))
      (try simp only [Act.put, List.setIfInBounds_toArray, List.set_cons_zero, List.set_cons_succ])
      ((with_reducible refine Ord.e_p (v := ?_) ?_ ?_ ?_ ?_); rotate_left; (· exact rfl); (· kernel_rfl); (· intro w2; go_simp; try with_reducible rfl))
      (try simp only [Act.put, List.setIfInBounds_toArray, List.set_cons_zero, List.set_cons_succ])
      ((with_reducible refine Ord.e_p (v := ?_) ?_ ?_ ?_ ?_); rotate_left; (· exact rfl); (· kernel_rfl); (· intro w2; go_simp; try with_reducible rfl))
      (try simp only [Act.put, List.setIfInBounds_toArray, List.set_cons_zero, List.set_cons_succ])
      refine Ord.e_x rfl (by kernel_rfl) ?_
      refine wpList_store_row rfl _ _ _ rfl g12 #[.int .i64 qsq, .int .i64 qsy, .int .i64 qco, .int .i64 qid, .slice Aq nq kq] rfl rfl _ _ r12 (by kernel_rfl) rfl (by kernel_rfl) ?_
      replace hS := below_setRow hS hM12 (#[.int .i64 qsq, .int .i64 qsy, .int .i64 qco, .int .i64 qid, .slice Aq nq kq] : Array Value)
      generalize (x6.setRow g12 #[.int .i64 qsq, .int .i64 qsy, .int .i64 qco, .int .i64 qid, .slice Aq nq kq]) = wz at *
      go_wp2_with fail
      refine Ord.Seg.go hS (fun h => by cases h) ?_
      (try simp only [Act.put, List.setIfInBounds_toArray, List.set_cons_zero, List.set_cons_succ])
      clear r12 hlt12 hM12
      ((with_reducible refine Ord.e_p (v := ?_) ?_ ?_ ?_ ?_); rotate_left; (· exact rfl); (· kernel_rfl); (· intro w2; go_simp; try with_reducible rfl))
      (try simp only [Act.put, List.setIfInBounds_toArray, List.set_cons_zero, List.set_cons_succ])
      ((with_reducible refine Ord.e_p (v := ?_) ?_ ?_ ?_ ?_); rotate_left; (· exact rfl); (· kernel_rfl); (· intro w2; go_simp; try with_reducible rfl))
      (try simp only [Act.put, List.setIfInBounds_toArray, List.set_cons_zero, List.set_cons_succ])
      refine Ord.e_nil ?_
      have hbf := bnx hb hS
      clear hS hb
      cases any with
      | true =>
        obtain rfl : rE = 4 := HrE.out.1
        obtain rfl : rN = 0 := HrE.out.2
        go_wp2_with fail
        go_fit (num32_any _ _)
        rintro e wn ⟨rfl, rfl⟩
        go_wp2_with fail
        go_fit (num32_any _ _)
        rintro e wn ⟨rfl, rfl⟩
        go_wp2
        go_ret
        exact ⟨rfl, hbf⟩
      | false =>
        obtain rfl : rE = 0 := HrE.out.1
        obtain rfl : rN = np := HrE.out.2
        go_wp2_with fail
        go_fit (num32_any _ _)
        rintro e wn ⟨rfl, rfl⟩
        go_wp2
        go_ret
        exact ⟨rfl, hbf⟩
    · simp only [Ord.lst, List.filterMap_cons, List.filterMap_nil, List.getElem?_toArray, List.getElem?_cons_succ, List.getElem?_cons_zero]
      refine Ord.e_x rfl (by kernel_rfl) ?_
      go_wp2_with fail
      have hbx : Below x0.heap.size x0 (x0.alloc (.cells #[.int .i64 0, .int .i64 0, .int .i64 0, .int .i64 0, .slice none 0 0] 48)) := (Below.refl _ _).alloc (Nat.le_refl _) _
      have r12 := heap_alloc_new x0 (.cells #[.int .i64 0, .int .i64 0, .int .i64 0, .int .i64 0, .slice none 0 0] 48)
      have hM12 : w5.heap.size ≤ x0.heap.size := hS.size
      replace hS := bnx hS hbx
      refine Ord.Seg.go hS (fun h => by cases h) ?_
      (try simp only [Act.put, List.setIfInBounds_toArray, List.set_cons_zero, List.set_cons_succ])
      generalize (x0.alloc (.cells #[.int .i64 0, .int .i64 0, .int .i64 0, .int .i64 0, .slice none 0 0] 48)) = x1 at *
      generalize x0.heap.size = g12 at *
      clear hbx
      have hlt12 : g12 < x1.heap.size := blk_lt r12
      refine Ord.e_x rfl (by kernel_rfl) ?_
      go_wp2_with fail
      have ownA : (x1.alloc (.cells #[] 5)).ownsRow (g12 + 1) 5 1 (.slice (some ⟨x1.heap.size, 0, none⟩) 0 0) 0 [] := own_empty x1 _ _ (hlt12) 1
      have hbx : Below x1.heap.size x1 (x1.alloc (.cells #[] 5)) := (Below.refl _ _).alloc (Nat.le_refl _) _
      have hlt12 : g12 < _ := blk_lt r12
      replace r12 := blk_old r12 hbx (blk_lt r12)
      replace hS := bnx hS hbx
      refine Ord.Seg.go hS (fun h => by cases h) ?_
      (try simp only [Act.put, List.setIfInBounds_toArray, List.set_cons_zero, List.set_cons_succ])
      generalize (x1.alloc (.cells #[] 5)) = x2 at *
      generalize x1.heap.size = gb at *
      clear hbx
      have hne : ∀ j, (Value.slice (some ⟨gb, 0, none⟩) 0 0).ownBlock = some j → j ≠ g12 := fun j hj => by have := (own_blk ownA hj).1; omega
      ((with_reducible refine Ord.e_p (v := ?_) ?_ ?_ ?_ ?_); rotate_left; (· exact rfl); (· kernel_rfl); (· intro w2; go_simp; try with_reducible rfl))
      (try simp only [Act.put, List.setIfInBounds_toArray, List.set_cons_zero, List.set_cons_succ])
      ((with_reducible refine Ord.e_p (v := ?_) ?_ ?_ ?_ ?_); rotate_left; (· exact rfl); (· kernel_rfl); (· intro w2; go_simp; try with_reducible rfl))
      (try simp only [Act.put, List.setIfInBounds_toArray, List.set_cons_zero, List.set_cons_succ])
      refine Ord.e_p (v := .slice Ap (m2) kp) rfl (by kernel_rfl) (fun w2 => by have hcut := HcutA.out w2; go_simp) ?_
      (try simp only [Act.put, List.setIfInBounds_toArray, List.set_cons_zero, List.set_cons_succ])
      refine Ord.e_x rfl (by kernel_rfl) ?_
      refine wpList_appG (base := (g12 + 1)) Try.underlying36 Hi.out rfl (by omega) ownA rfl (Hr1.out.up hS) rfl (bv_one _) (k := m2) (by omega) (List.nil_append _) (by unfold maxLen; omega) (by omega) (by have := blk_lt r12; omega) ?_
      intro AB cB x3 ownB hgr hob
      have hne2 : ∀ j, (Value.slice AB (m2) cB).ownBlock = some j → j ≠ g12 := fun j hj => by
        rcases hob with e | e
        · exact hne j (e.symm.trans hj)
        · have e2 := e.symm.trans hj
          injection e2 with e2
          have := blk_lt r12
          omega
      replace r12 := (hgr.block g12 (blk_lt r12) (fun e => hne g12 e.symm rfl)).trans r12
      replace hne := hne2
      clear hne2
      replace hS := Below.grown hS hgr hS.size (fun j hj => by have := (own_blk ownA hj).1; omega)
      clear hgr hob ownA
      go_wp2_with fail
      refine Ord.Seg.go hS (fun h => by cases h) ?_
      (try simp only [Act.put, List.setIfInBounds_toArray, List.set_cons_zero, List.set_cons_succ])
      ((with_reducible refine Ord.e_p (v := ?_) ?_ ?_ ?_ ?_); rotate_left; (· exact rfl); (· kernel_rfl); (· intro w2; go_simp; try with_reducible rfl))
      (try simp only [Act.put, List.setIfInBounds_toArray, List.set_cons_zero, List.set_cons_succ])
      refine Ord.e_x rfl (by kernel_rfl) ?_
      refine wpList_appG (base := (g12 + 1)) Try.underlying36 Hi.out rfl (by omega) ownB rfl (Hr2.out.up hS) rfl (bv_one _) (k := m2 + no) (rfl) ((bv_app _ _).symm) (by unfold maxLen; omega) (by omega) (by have := blk_lt r12; omega) ?_
      intro AC cC x4 ownC hgr hob
      have hne2 : ∀ j, (Value.slice AC (m2 + no) cC).ownBlock = some j → j ≠ g12 := fun j hj => by
        rcases hob with e | e
        · exact hne j (e.symm.trans hj)
        · have e2 := e.symm.trans hj
          injection e2 with e2
          have := blk_lt r12
          omega
      replace r12 := (hgr.block g12 (blk_lt r12) (fun e => hne g12 e.symm rfl)).trans r12
      replace hne := hne2
      clear hne2
      replace hS := Below.grown hS hgr hS.size (fun j hj => by have := (own_blk ownB hj).1; omega)
      clear hgr hob ownB
      go_wp2_with fail
      refine Ord.Seg.go hS (fun h => by cases h) ?_
      (try simp only [Act.put, List.setIfInBounds_toArray, List.set_cons_zero, List.set_cons_succ])
      ((with_reducible refine Ord.e_p (v := ?_) ?_ ?_ ?_ ?_); rotate_left; (· exact rfl); (· kernel_rfl); (· intro w2; go_simp; try with_reducible rfl))
      (try simp only [Act.put, List.setIfInBounds_toArray, List.set_cons_zero, List.set_cons_succ])
      ((with_reducible refine Ord.e_p (v := ?_) ?_ ?_ ?_ ?_); rotate_left; (· exact rfl); (· kernel_rfl); (· intro w2; go_simp; try with_reducible rfl))
      (try simp only [Act.put, List.setIfInBounds_toArray, List.set_cons_zero, List.set_cons_succ])
      refine Ord.e_p (v := .slice (cutA Ap kp (np) 1) (0) (kp - np)) rfl (by kernel_rfl) (fun w2 => by have hcut := HcutC.out w2; go_simp) ?_
      (try simp only [Act.put, List.setIfInBounds_toArray, List.set_cons_zero, List.set_cons_succ])
      refine Ord.e_x rfl (by kernel_rfl) ?_
      refine wpList_appG (base := (g12 + 1)) Try.underlying36 Hi.out rfl (by omega) ownC rfl (Hr3.out.up hS) rfl (bv_one _) (k := m2 + no) (by omega) ((bv_app _ _).symm) (by unfold maxLen; omega) (by omega) (by have := blk_lt r12; omega) ?_
      intro AD cD x5 ownD hgr hob
      have hne2 : ∀ j, (Value.slice AD (m2 + no) cD).ownBlock = some j → j ≠ g12 := fun j hj => by
        rcases hob with e | e
        · exact hne j (e.symm.trans hj)
        · have e2 := e.symm.trans hj
          injection e2 with e2
          have := blk_lt r12
          omega
      replace r12 := (hgr.block g12 (blk_lt r12) (fun e => hne g12 e.symm rfl)).trans r12
      replace hne := hne2
      clear hne2
      replace hS := Below.grown hS hgr hS.size (fun j hj => by have := (own_blk ownC hj).1; omega)
      clear hgr hob ownC
      go_wp2_with fail
      refine Ord.Seg.go hS (fun h => by cases h) ?_
      (try simp only [Act.put, List.setIfInBounds_toArray, List.set_cons_zero, List.set_cons_succ])
      refine Ord.e_x rfl (by kernel_rfl) ?_
      go_wp2_with fail
      go_fit (tltake_any AD (m2 + no) cD _ x5 (Rd.own ownD) (by omega))
      unfold RetTl
      rintro e x6 ⟨Aq, nq, kq, rfl, hrq, hbx⟩
      rw [HL.out.1, HL.out.2]
      replace r12 := blk_old r12 hbx (blk_lt r12)
      replace hS := bnx hS hbx
      clear hbx ownD hrq
      generalize tkP _ = Q
      obtain ⟨qsq, qsy, qco, qid, qv⟩ := Q
      dsimp only
      go_wp2_with fail
      refine Ord.Seg.go hS (fun h => by cases h) ?_
      (try simp only [Act.put, List.setIfInBounds_toArray, List.set_cons_zero, List.set_cons_succ])
      ((with_reducible refine Ord.e_p (v := ?_) ?_ ?_ ?_ ?_); rotate_left; (· exact rfl); (· kernel_rfl); (· intro w2; go_simp; try with_reducible rfl))
      (try simp only [Act.put, List.setIfInBounds_toArray, List.set_cons_zero, List.set_cons_succ])
      ((with_reducible refine Ord.e_p (v := ?_) ?_ ?_ ?_ ?_); rotate_left; (· exact rfl); (· kernel_rfl); (· intro w2; go_simp; try with_reducible rfl))
      (try simp only [Act.put, List.setIfInBounds_toArray, List.set_cons_zero, List.set_cons_succ])
      ((with_reducible refine Ord.e_p (v := ?_) ?_ ?_ ?_ ?_); rotate_left; (· exact rfl); (· kernel_rfl); (· intro w2; go_simp; try with_reducible rfl))
      (try simp only [Act.put, List.setIfInBounds_toArray, List.set_cons_zero, List.set_cons_succ])
      ((with_reducible refine Ord.e_p (v := ?_) ?_ ?_ ?_ ?_); rotate_left; (· exact rfl); (· kernel_rfl); (· intro w2; go_simp; try with_reducible rfl))
      (try simp only [Act.put, List.setIfInBounds_toArray, List.set_cons_zero, List.set_cons_succ])
      refine Ord.e_x rfl (by kernel_rfl) ?_
      refine wpList_store_row rfl _ _ _ rfl g12 #[.int .i64 qsq, .int .i64 qsy, .int .i64 qco, .int .i64 qid, .slice Aq nq kq] rfl rfl _ _ r12 (by kernel_rfl) rfl (by kernel_rfl) ?_
      replace hS := below_setRow hS hM12 (#[.int .i64 qsq, .int .i64 qsy, .int .i64 qco, .int .i64 qid, .slice Aq nq kq] : Array Value)
      generalize (x6.setRow g12 #[.int .i64 qsq, .int .i64 qsy, .int .i64 qco, .int .i64 qid, .slice Aq nq kq]) = wz at *
      go_wp2_with fail
      refine Ord.Seg.go hS (fun h => by cases h) ?_
      (try simp only [Act.put, List.setIfInBounds_toArray, List.set_cons_zero, List.set_cons_succ])
      clear r12 hlt12 hM12
      ((with_reducible refine Ord.e_p (v := ?_) ?_ ?_ ?_ ?_); rotate_left; (· exact rfl); (· kernel_rfl); (· intro w2; go_simp; try with_reducible rfl))
      (try simp only [Act.put, List.setIfInBounds_toArray, List.set_cons_zero, List.set_cons_succ])
      ((with_reducible refine Ord.e_p (v := ?_) ?_ ?_ ?_ ?_); rotate_left; (· exact rfl); (· kernel_rfl); (· intro w2; go_simp; try with_reducible rfl))
      (try simp only [Act.put, List.setIfInBounds_toArray, List.set_cons_zero, List.set_cons_succ])
      refine Ord.e_nil ?_
      have hbf := bnx hb hS
      clear hS hb
      cases any with
      | true =>
        obtain rfl : rE = 4 := HrE.out.1
        obtain rfl : rN = 0 := HrE.out.2
        go_wp2_with fail
        go_fit (num32_any _ _)
        rintro e wn ⟨rfl, rfl⟩
        go_wp2_with fail
        go_fit (num32_any _ _)
        rintro e wn ⟨rfl, rfl⟩
        go_wp2
        go_ret
        exact ⟨rfl, hbf⟩
      | false =>
        obtain rfl : rE = 0 := HrE.out.1
        obtain rfl : rN = np := HrE.out.2
        go_wp2_with fail
        go_fit (num32_any _ _)
        rintro e wn ⟨rfl, rfl⟩
        go_wp2
        go_ret
        exact ⟨rfl, hbf⟩

end Go.Proofs.Ytonejdjhdjckjaa
