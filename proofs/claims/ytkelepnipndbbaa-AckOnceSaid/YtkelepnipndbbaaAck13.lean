/-
  The law AckOnce walked (printed by gen_ack13.py).
-/
import Derived.Test.YtkelepnipndbbaaAckLaw
set_option linter.unusedSimpArgs false
set_option linter.unusedVariables false
namespace Go.Proofs.Ytkelepnipndbbaa
open Go.RowKit NumLaw
attribute [local go_sem] Addr.add_mid

theorem retA_len {w w' : World} {A : Option Addr} {n c : Nat} {l : List (Int × Int)} {base : Nat} (h : w'.ownsRow base 30 3 (.slice A n c) n (acs l)) : n = l.length := by
  have := h.1
  rw [acs_len] at this
  omega
set_option maxRecDepth 10000 in
set_option maxHeartbeats 8000000 in
theorem ackonce_any (A : Option Addr) (n c : Nat) (l : List OpV) (w : World) (h : RdOp w w.heap.size A n c l) :
    Calls Try.prog 4 #[.slice A n c] w fun e w' => e = .returned (.bool true) ∧ Below w.heap.size w w' := by
  have hle := h.2.1
  have hmx := h.2.2.1
  unfold maxLen at hmx
  go_enter Try.func4, Try.ntmps4
  by_cases hn : 60 < n
  · go_wp2_with fail
    go_fit (knows19 _)
    rintro e w1 ⟨rfl, hb1⟩
    go_wp2
    go_ret
    exact ⟨rfl, hb1⟩
  go_wp2_with fail
  go_fit (knows19 _)
  rintro e w1 ⟨rfl, hb1⟩
  go_wp2_with fail
  go_fit (ackNew_any w1)
  rintro e w2 ⟨rfl, hk3, hb12⟩
  have hb3 := bnx hb1 hb12
  have hg1 : w.heap.size ≤ w1.heap.size := hb1.size
  generalize w1.heap.size = g at *
  clear hb1 hb12 w1
  go_wp2_with fail
  go_loopw [4] (fun i wr => ∃ (k : Nat) (Ak : Option Addr) (nk ck : Nat) (L : List (Int × Int)) (y no od : Nat), k ≤ n ∧ i = .int .i64 k ∧ Below w.heap.size w wr ∧ Bk wr g Ak nk ck L y no od ∧ L.length ≤ 16 ∧ y + no + od + L.length ≤ k) (fun i _ => n - (intOf i).toNat)
  case atStart => exact ⟨0, none, 0, 0, [], 0, 0, 0, by omega, rfl, hb3, hk3, by simp, by simp⟩
  case round =>
    clear hk3 hb3 w2
    obtain ⟨k, Ak, nk, ck, L, y, no, od, hk, rfl, hb, hbk, hL, hcnt⟩ := hrel
    have hnk : nk ≤ 900 := by have := hbk.rd.1; omega
    by_cases hlt : k < n
    · obtain ⟨gi, off, o, rfl, hgi, hx, a0, a1, a2, a3, hc, hi⟩ := h.at_ hlt
      clear hx
      obtain ⟨ask, yes, cl, id⟩ := o
      simp only at a0 a1 a2 a3 hc hi
      have a1' := (hb.cell (p := ⟨gi, off + k * 4 + 1, none⟩) hgi).trans a1
      have a2' := (hb.cell (p := ⟨gi, off + k * 4 + 2, none⟩) hgi).trans a2
      have a3' := (hb.cell (p := ⟨gi, off + k * 4 + 3, none⟩) hgi).trans a3
      have hbl : Below wr.heap.size wr (wr.alloc (.cells #[.bool yes, .int .i64 cl, .int .i64 id] 30)) := (Below.refl _ _).alloc (Nat.le_refl _) _
      have hb2 := bnx hb hbl
      have hk2 := hbk.up hbl
      have hx2 := heap_alloc_new wr (.cells #[.bool yes, .int .i64 cl, .int .i64 id] 30)
      have hgx : g < wr.heap.size := blk_lt hbk.hp
      have hgAx : ∀ a, Ak = some a → a.block < wr.heap.size := fun a e => (hbk.ne a e).2
      go_wp2_with fail
      generalize (wr.alloc (.cells #[.bool yes, .int .i64 cl, .int .i64 id] 30)) = w2 at *
      generalize wr.heap.size = gx at *
      clear a1' a2' a3' hb hbk hbl
      have hcm := cntA_le (cl, id) L
      refine Ord.region_ (fun w' => Below w2.heap.size w2 w') false [] (by kernel_rfl) (by kernel_rfl) ((Below.refl _ _).drew) ?_
      have h3 : Below w2.heap.size w2 w2.drew := (Below.refl _ _).drew
      generalize w2.drew = w3 at *
      have hlx := blk_lt hx2
      have rx : w2.rangeAt gx 0 [.bool yes, .int .i64 cl, .int .i64 id] := own_range hx2 0 (fun j v hv => by simpa using hv)
      ((with_reducible refine Ord.e_p (v := ?_) ?_ ?_ ?_ ?_); rotate_left; (· exact rfl); (· kernel_rfl); (· intro w2; go_simp; try with_reducible rfl))
      (try simp only [Act.put, List.setIfInBounds_toArray, List.set_cons_zero, List.set_cons_succ])
      refine Ord.e_x rfl (by kernel_rfl) ?_
      go_wp2_with fail
      go_fit (openA_any g Ak nk ck L _ _ _ w3 (hk2.up h3) (by omega))
      rintro e w4 ⟨A4, n4, c4, rfl, hown4, hb34⟩
      have h4 := h3.trans (hb34.mono h3.size)
      obtain rfl := retA_len (w := w4) hown4
      go_wp2_with fail
      refine Ord.Seg.go h4 (fun h => by cases h) ?_
      (try simp only [Act.put, List.setIfInBounds_toArray, List.set_cons_zero, List.set_cons_succ])
      refine Ord.e_rowS Try.underlying30 rfl (by kernel_rfl) rfl (by simp) (fun w' hS j v hv => ((show Below _ w2 w' from hS).cell (p := ⟨gx, 0 + j, none⟩) hlx).trans (rx j v hv)) h4 (by kernel_rfl) ?_
      (try simp only [Act.put, List.setIfInBounds_toArray, List.set_cons_zero, List.set_cons_succ])
      refine Ord.e_x rfl (by kernel_rfl) ?_
      go_wp2_with fail
      go_fit (of19_any A4 L.length c4 L yes cl id w4 (rdA_own hown4) (by omega))
      rintro e w5 ⟨rfl, hb45⟩
      have h5 := h4.trans (hb45.mono h4.size)
      go_wp2_with fail
      refine Ord.Seg.go h5 (fun h => by cases h) ?_
      (try simp only [Act.put, List.setIfInBounds_toArray, List.set_cons_zero, List.set_cons_succ])
      ((with_reducible refine Ord.e_p (v := ?_) ?_ ?_ ?_ ?_); rotate_left; (· exact rfl); (· kernel_rfl); (· intro w2; go_simp; try with_reducible rfl))
      (try simp only [Act.put, List.setIfInBounds_toArray, List.set_cons_zero, List.set_cons_succ])
      refine Ord.e_nil ?_
      replace hb2 := bnx hb2 h5
      replace hk2 := hk2.up h5
      replace hx2 := blk_old hx2 h5 hlx
      clear h3 h4 hb34 hb45 h5 hown4 rx hlx
      go_wp2_with fail
      go_fit (openA_any g Ak nk ck L _ _ _ w5 hk2 (by omega))
      rintro e w6 ⟨A6, n6, c6, rfl, hown6, hb56⟩
      obtain rfl := retA_len (w := w6) hown6
      replace hb2 := bnx hb2 hb56
      replace hk2 := hk2.up hb56
      replace hx2 := blk_old hx2 hb56 (blk_lt hx2)
      clear hown6 hb56
      have x1 : w6.cell? ⟨gx, 1, none⟩ = some (.int .i64 cl) := blk_cell hx2 rfl
      have x2 : w6.cell? ⟨gx, 2, none⟩ = some (.int .i64 id) := blk_cell hx2 rfl
      have x0 : w6.cell? ⟨gx, 0, none⟩ = some (.bool yes) := blk_cell hx2 rfl
      have b0 := (hb2.cell (p := ⟨gi, off + k * 4, none⟩) hgi).trans a0
      have hxg : ¬ Ft g Ak gx := by
        rintro (h | ⟨a, h, h'⟩)
        · omega
        · have := hgAx a h; omega
      generalize hm : cntA (cl, id) L = m at *
      have Hm := Lib.hid hm
      clear hm
      generalize hs : L.length = s at *
      have Hs := Lib.hid hs
      clear hs
      cases ask with
      | true =>
        have hask := ask_any g Ak nk ck L y no od cl id w6 hk2 hc hi hnk
        rw [Hs.out] at hask
        cases hok : (ackOk cl id && decide (s < 16)) with
        | true =>
          rw [hok] at hask
          simp only [if_true] at hask
          have hs16 : s < 16 := by simp at hok; exact hok.2
          have hC : cntA (cl, id) (L ++ [(cl, id)]) = m + 1 := by rw [cntA_snoc, Hm.out]; simp
          have HC := Lib.hid hC
          have HL : Hid ((L ++ [(cl, id)]).length = s + 1) := Lib.hid (by rw [List.length_append, Hs.out]; rfl)
          clear hC hok
          generalize L ++ [(cl, id)] = L' at *
          go_wp2_with fail
          go_fit hask
          rintro e w7 ⟨rfl, A7, n7, c7, hk7, ha7, hA7⟩
          have hb7 := hk2.below hb2 hg1 ha7
          have hx7 := ha7.keep hx2 hxg
          have b0' := (hb7.cell (p := ⟨gi, off + k * 4, none⟩) hgi).trans a0
          clear hask hk2 hb2 hx2 b0 x0 x1 x2 ha7 hA7
          go_wp2_with fail
          clear b0'
          
          refine Ord.region_ (fun w' => Below w7.heap.size w7 w') false [] (by kernel_rfl) (by kernel_rfl) ((Below.refl _ _).drew) ?_
          have h8 : Below w7.heap.size w7 w7.drew := (Below.refl _ _).drew
          generalize w7.drew = w8 at *
          have hlx := blk_lt hx7
          have hln7 : L'.length ≤ 16 := by rw [HL.out]; omega
          have rx : w7.rangeAt gx 0 [.bool yes, .int .i64 cl, .int .i64 id] := own_range hx7 0 (fun j v hv => by simpa using hv)
          have hn7 := hk7.rd.1
          have wz1 : IntKind.i64.wrap ((s : Int) + 1) = (s : Int) + 1 := by rw [IntKind.wrap_i64]; omega
          have wz2 : IntKind.i64.wrap ((m : Int) + 1) = (m : Int) + 1 := by rw [IntKind.wrap_i64]; omega
          have wz3 : IntKind.i64.wrap (s : Int) = (s : Int) := by rw [IntKind.wrap_i64]; omega
          have wz4 : IntKind.i64.wrap (m : Int) = (m : Int) := by rw [IntKind.wrap_i64]; omega
          have hd : decide ((16 : Int) < (s : Int) + 1) = false := by simp; omega
          ((with_reducible refine Ord.e_p (v := ?_) ?_ ?_ ?_ ?_); rotate_left; (· exact rfl); (· kernel_rfl); (· intro w2; go_simp; try with_reducible rfl))
          (try simp only [Act.put, List.setIfInBounds_toArray, List.set_cons_zero, List.set_cons_succ])
          refine Ord.e_x rfl (by kernel_rfl) ?_
          go_wp2_with fail
          go_fit (openA_any g A7 n7 c7 L' _ _ _ w8 (hk7.up h8) (by omega))
          rintro e w9 ⟨A9, n9, c9, rfl, hown9, hb9⟩
          have h9 := h8.trans (hb9.mono h8.size)
          have hn9 := (retA_len (w := w9) hown9).trans HL.out
          subst hn9
          go_wp2_with fail
          refine Ord.Seg.go h9 (fun h => by cases h) ?_
          (try simp only [Act.put, List.setIfInBounds_toArray, List.set_cons_zero, List.set_cons_succ])
          refine Ord.e_rowS Try.underlying30 rfl (by kernel_rfl) rfl (by simp) (fun w' hS j v hv => ((show Below _ w7 w' from hS).cell (p := ⟨gx, 0 + j, none⟩) hlx).trans (rx j v hv)) h9 (by kernel_rfl) ?_
          (try simp only [Act.put, List.setIfInBounds_toArray, List.set_cons_zero, List.set_cons_succ])
          refine Ord.e_x rfl (by kernel_rfl) ?_
          go_wp2_with fail
          go_fit (of19_any A9 _ c9 L' yes cl id w9 (rdA_own hown9) (by omega))
          rw [HC.out]
          rintro e w10 ⟨rfl, hb10⟩
          have h10 := h9.trans (hb10.mono h9.size)
          go_wp2_with fail
          refine Ord.Seg.go h10 (fun h => by cases h) ?_
          (try simp only [Act.put, List.setIfInBounds_toArray, List.set_cons_zero, List.set_cons_succ])
          ((with_reducible refine Ord.e_p (v := ?_) ?_ ?_ ?_ ?_); rotate_left; (· exact rfl); (· kernel_rfl); (· intro w2; go_simp; try with_reducible rfl))
          (try simp only [Act.put, List.setIfInBounds_toArray, List.set_cons_zero, List.set_cons_succ])
          ((with_reducible refine Ord.e_p (v := ?_) ?_ ?_ ?_ ?_); rotate_left; (· exact rfl); (· kernel_rfl); (· intro w2; go_simp; try with_reducible rfl))
          (try simp only [Act.put, List.setIfInBounds_toArray, List.set_cons_zero, List.set_cons_succ])
          ((with_reducible refine Ord.e_p (v := ?_) ?_ ?_ ?_ ?_); rotate_left; (· exact rfl); (· kernel_rfl); (· intro w2; go_simp; try with_reducible rfl))
          (try simp only [Act.put, List.setIfInBounds_toArray, List.set_cons_zero, List.set_cons_succ])
          ((with_reducible refine Ord.e_p (v := ?_) ?_ ?_ ?_ ?_); rotate_left; (· exact rfl); (· kernel_rfl); (· intro w2; go_simp; try with_reducible rfl))
          (try simp only [Act.put, List.setIfInBounds_toArray, List.set_cons_zero, List.set_cons_succ])
          ((with_reducible refine Ord.e_p (v := ?_) ?_ ?_ ?_ ?_); rotate_left; (· exact rfl); (· kernel_rfl); (· intro w2; go_simp; try with_reducible rfl))
          (try simp only [Act.put, List.setIfInBounds_toArray, List.set_cons_zero, List.set_cons_succ])
          ((with_reducible refine Ord.e_p (v := ?_) ?_ ?_ ?_ ?_); rotate_left; (· exact rfl); (· kernel_rfl); (· intro w2; go_simp; try with_reducible rfl))
          (try simp only [Act.put, List.setIfInBounds_toArray, List.set_cons_zero, List.set_cons_succ])
          refine Ord.e_x rfl (by kernel_rfl) ?_
          go_wp2_with fail
          go_fit (openA_any g A7 n7 c7 L' _ _ _ w10 (hk7.up h10) (by omega))
          rintro e w11 ⟨A11, n11, c11, rfl, hown11, hb11⟩
          have h11 := h10.trans (hb11.mono h10.size)
          have hn11 := (retA_len (w := w11) hown11).trans HL.out
          subst hn11
          go_wp2_with fail
          refine Ord.Seg.go h11 (fun h => by cases h) ?_
          (try simp only [Act.put, List.setIfInBounds_toArray, List.set_cons_zero, List.set_cons_succ])
          ((with_reducible refine Ord.e_p (v := ?_) ?_ ?_ ?_ ?_); rotate_left; (· exact rfl); (· kernel_rfl); (· intro w2; go_simp; try with_reducible rfl))
          (try simp only [Act.put, List.setIfInBounds_toArray, List.set_cons_zero, List.set_cons_succ])
          ((with_reducible refine Ord.e_p (v := ?_) ?_ ?_ ?_ ?_); rotate_left; (· exact rfl); (· kernel_rfl); (· intro w2; go_simp; try with_reducible rfl))
          (try simp only [Act.put, List.setIfInBounds_toArray, List.set_cons_zero, List.set_cons_succ])
          ((with_reducible refine Ord.e_p (v := ?_) ?_ ?_ ?_ ?_); rotate_left; (· exact rfl); (· kernel_rfl); (· intro w2; go_simp; try with_reducible rfl))
          (try simp only [Act.put, List.setIfInBounds_toArray, List.set_cons_zero, List.set_cons_succ])
          ((with_reducible refine Ord.e_p (v := ?_) ?_ ?_ ?_ ?_); rotate_left; (· exact rfl); (· kernel_rfl); (· intro w2; go_simp; try with_reducible rfl))
          (try simp only [Act.put, List.setIfInBounds_toArray, List.set_cons_zero, List.set_cons_succ])
          ((with_reducible refine Ord.e_p (v := ?_) ?_ ?_ ?_ ?_); rotate_left; (· exact rfl); (· kernel_rfl); (· intro w2; go_simp; try with_reducible rfl))
          (try simp only [Act.put, List.setIfInBounds_toArray, List.set_cons_zero, List.set_cons_succ])
          ((with_reducible refine Ord.e_p (v := ?_) ?_ ?_ ?_ ?_); rotate_left; (· exact rfl); (· kernel_rfl); (· intro w2; go_simp; try with_reducible rfl))
          (try simp only [Act.put, List.setIfInBounds_toArray, List.set_cons_zero, List.set_cons_succ])
          ((with_reducible refine Ord.e_p (v := ?_) ?_ ?_ ?_ ?_); rotate_left; (· exact rfl); (· kernel_rfl); (· intro w2; go_simp; try with_reducible rfl))
          (try simp only [Act.put, List.setIfInBounds_toArray, List.set_cons_zero, List.set_cons_succ])
          ((with_reducible refine Ord.e_p (v := ?_) ?_ ?_ ?_ ?_); rotate_left; (· exact rfl); (· kernel_rfl); (· intro w2; go_simp; try with_reducible rfl))
          (try simp only [Act.put, List.setIfInBounds_toArray, List.set_cons_zero, List.set_cons_succ])
          ((with_reducible refine Ord.e_p (v := ?_) ?_ ?_ ?_ ?_); rotate_left; (· exact rfl); (· kernel_rfl); (· intro w2; go_simp; try with_reducible rfl))
          (try simp only [Act.put, List.setIfInBounds_toArray, List.set_cons_zero, List.set_cons_succ])
          ((with_reducible refine Ord.e_p (v := ?_) ?_ ?_ ?_ ?_); rotate_left; (· exact rfl); (· kernel_rfl); (· intro w2; go_simp; try with_reducible rfl))
          (try simp only [Act.put, List.setIfInBounds_toArray, List.set_cons_zero, List.set_cons_succ])
          ((with_reducible refine Ord.e_p (v := ?_) ?_ ?_ ?_ ?_); rotate_left; (· exact rfl); (· kernel_rfl); (· intro w2; go_simp; try with_reducible rfl))
          (try simp only [Act.put, List.setIfInBounds_toArray, List.set_cons_zero, List.set_cons_succ])
          ((with_reducible refine Ord.e_p (v := ?_) ?_ ?_ ?_ ?_); rotate_left; (· exact rfl); (· kernel_rfl); (· intro w2; go_simp; try with_reducible rfl))
          (try simp only [Act.put, List.setIfInBounds_toArray, List.set_cons_zero, List.set_cons_succ])
          ((with_reducible refine Ord.e_p (v := ?_) ?_ ?_ ?_ ?_); rotate_left; (· exact rfl); (· kernel_rfl); (· intro w2; go_simp; try with_reducible rfl))
          (try simp only [Act.put, List.setIfInBounds_toArray, List.set_cons_zero, List.set_cons_succ])
          ((with_reducible refine Ord.e_p (v := ?_) ?_ ?_ ?_ ?_); rotate_left; (· exact rfl); (· kernel_rfl); (· intro w2; go_simp; try with_reducible rfl))
          ((with_reducible refine Ord.e_p (v := ?_) ?_ ?_ ?_ ?_); rotate_left; (· exact rfl); (· kernel_rfl); (· intro w2; go_simp; try with_reducible rfl))
          ((with_reducible refine Ord.e_p (v := ?_) ?_ ?_ ?_ ?_); rotate_left; (· exact rfl); (· kernel_rfl); (· intro w2; go_simp; try with_reducible rfl))
          ((with_reducible refine Ord.e_p (v := ?_) ?_ ?_ ?_ ?_); rotate_left; (· exact rfl); (· kernel_rfl); (· intro w2; go_simp; try with_reducible rfl))
          (try simp only [Act.put, List.setIfInBounds_toArray, List.set_cons_zero, List.set_cons_succ])
          refine Ord.e_loadS Try.underlying4 rfl (fun w' hS => ((hb7.trans ((show Below _ w7 w' from hS).mono hb7.size)).cell (p := ⟨gi, off + k * 4, none⟩) hgi).trans a0) h11 rfl (by kernel_rfl) ?_
          (try simp only [Act.put, List.setIfInBounds_toArray, List.set_cons_zero, List.set_cons_succ])
          ((with_reducible refine Ord.e_p (v := ?_) ?_ ?_ ?_ ?_); rotate_left; (· exact rfl); (· kernel_rfl); (· intro w2; go_simp; try with_reducible rfl))
          (try simp only [Act.put, List.setIfInBounds_toArray, List.set_cons_zero, List.set_cons_succ])
          ((with_reducible refine Ord.e_p (v := ?_) ?_ ?_ ?_ ?_); rotate_left; (· exact rfl); (· kernel_rfl); (· intro w2; go_simp; try with_reducible rfl))
          (try simp only [Act.put, List.setIfInBounds_toArray, List.set_cons_zero, List.set_cons_succ])
          ((with_reducible refine Ord.e_u ?_ ?_); (· kernel_rfl))
          ((with_reducible refine Ord.e_u ?_ ?_); (· kernel_rfl))
          ((with_reducible refine Ord.e_u ?_ ?_); (· kernel_rfl))
          ((with_reducible refine Ord.e_u ?_ ?_); (· kernel_rfl))
          ((with_reducible refine Ord.e_u ?_ ?_); (· kernel_rfl))
          (try simp only [Act.put, List.setIfInBounds_toArray, List.set_cons_zero, List.set_cons_succ])
          ((with_reducible refine Ord.e_p (v := ?_) ?_ ?_ ?_ ?_); rotate_left; (· exact rfl); (· kernel_rfl); (· intro w2; go_simp; try with_reducible rfl))
          (try simp only [Act.put, List.setIfInBounds_toArray, List.set_cons_zero, List.set_cons_succ])
          ((with_reducible refine Ord.e_p (v := ?_) ?_ ?_ ?_ ?_); rotate_left; (· exact rfl); (· kernel_rfl); (· intro w2; go_simp; try with_reducible rfl))
          (try simp only [Act.put, List.setIfInBounds_toArray, List.set_cons_zero, List.set_cons_succ])
          refine Ord.e_nil ?_
          replace hk7 := hk7.up h11
          replace hb7 := bnx hb7 h11
          clear h8 h9 h10 h11 hb9 hb10 hb11 hown9 hown11 rx wz1 wz2 wz3 wz4 hd
          go_wp2
          go_roundw
          case rel => exact ⟨k + 1, A7, n7, c7, L', y, no, od, by omega, by go_num, hb7, hk7, hln7, by rw [HL.out]; omega⟩
          case measure => simp [intOf]; omega
        | false =>
          rw [hok] at hask
          simp only [Bool.false_eq_true, if_false] at hask
          have HC := Hm
          have HL := Hs
          clear hok
          go_wp2_with fail
          go_fit hask
          rintro e w7 ⟨rfl, A7, n7, c7, hk7, ha7, hA7⟩
          have hb7 := hk2.below hb2 hg1 ha7
          have hx7 := ha7.keep hx2 hxg
          have b0' := (hb7.cell (p := ⟨gi, off + k * 4, none⟩) hgi).trans a0
          clear hask hk2 hb2 hx2 b0 x0 x1 x2 ha7 hA7
          go_wp2_with fail
          clear b0'
          
          refine Ord.region_ (fun w' => Below w7.heap.size w7 w') false [] (by kernel_rfl) (by kernel_rfl) ((Below.refl _ _).drew) ?_
          have h8 : Below w7.heap.size w7 w7.drew := (Below.refl _ _).drew
          generalize w7.drew = w8 at *
          have hlx := blk_lt hx7
          have hln7 : L.length ≤ 16 := by rw [HL.out]; omega
          have rx : w7.rangeAt gx 0 [.bool yes, .int .i64 cl, .int .i64 id] := own_range hx7 0 (fun j v hv => by simpa using hv)
          have hn7 := hk7.rd.1
          have wz1 : IntKind.i64.wrap ((s : Int) + 1) = (s : Int) + 1 := by rw [IntKind.wrap_i64]; omega
          have wz2 : IntKind.i64.wrap ((m : Int) + 1) = (m : Int) + 1 := by rw [IntKind.wrap_i64]; omega
          have wz3 : IntKind.i64.wrap (s : Int) = (s : Int) := by rw [IntKind.wrap_i64]; omega
          have wz4 : IntKind.i64.wrap (m : Int) = (m : Int) := by rw [IntKind.wrap_i64]; omega
          have hd : decide ((16 : Int) < (s : Int)) = false := by simp; omega
          ((with_reducible refine Ord.e_p (v := ?_) ?_ ?_ ?_ ?_); rotate_left; (· exact rfl); (· kernel_rfl); (· intro w2; go_simp; try with_reducible rfl))
          (try simp only [Act.put, List.setIfInBounds_toArray, List.set_cons_zero, List.set_cons_succ])
          refine Ord.e_x rfl (by kernel_rfl) ?_
          go_wp2_with fail
          go_fit (openA_any g A7 n7 c7 L _ _ _ w8 (hk7.up h8) (by omega))
          rintro e w9 ⟨A9, n9, c9, rfl, hown9, hb9⟩
          have h9 := h8.trans (hb9.mono h8.size)
          have hn9 := (retA_len (w := w9) hown9).trans HL.out
          subst hn9
          go_wp2_with fail
          refine Ord.Seg.go h9 (fun h => by cases h) ?_
          (try simp only [Act.put, List.setIfInBounds_toArray, List.set_cons_zero, List.set_cons_succ])
          refine Ord.e_rowS Try.underlying30 rfl (by kernel_rfl) rfl (by simp) (fun w' hS j v hv => ((show Below _ w7 w' from hS).cell (p := ⟨gx, 0 + j, none⟩) hlx).trans (rx j v hv)) h9 (by kernel_rfl) ?_
          (try simp only [Act.put, List.setIfInBounds_toArray, List.set_cons_zero, List.set_cons_succ])
          refine Ord.e_x rfl (by kernel_rfl) ?_
          go_wp2_with fail
          go_fit (of19_any A9 _ c9 L yes cl id w9 (rdA_own hown9) (by omega))
          rw [HC.out]
          rintro e w10 ⟨rfl, hb10⟩
          have h10 := h9.trans (hb10.mono h9.size)
          go_wp2_with fail
          refine Ord.Seg.go h10 (fun h => by cases h) ?_
          (try simp only [Act.put, List.setIfInBounds_toArray, List.set_cons_zero, List.set_cons_succ])
          ((with_reducible refine Ord.e_p (v := ?_) ?_ ?_ ?_ ?_); rotate_left; (· exact rfl); (· kernel_rfl); (· intro w2; go_simp; try with_reducible rfl))
          (try simp only [Act.put, List.setIfInBounds_toArray, List.set_cons_zero, List.set_cons_succ])
          ((with_reducible refine Ord.e_p (v := ?_) ?_ ?_ ?_ ?_); rotate_left; (· exact rfl); (· kernel_rfl); (· intro w2; go_simp; try with_reducible rfl))
          (try simp only [Act.put, List.setIfInBounds_toArray, List.set_cons_zero, List.set_cons_succ])
          ((with_reducible refine Ord.e_p (v := ?_) ?_ ?_ ?_ ?_); rotate_left; (· exact rfl); (· kernel_rfl); (· intro w2; go_simp; try with_reducible rfl))
          (try simp only [Act.put, List.setIfInBounds_toArray, List.set_cons_zero, List.set_cons_succ])
          ((with_reducible refine Ord.e_p (v := ?_) ?_ ?_ ?_ ?_); rotate_left; (· exact rfl); (· kernel_rfl); (· intro w2; go_simp; try with_reducible rfl))
          (try simp only [Act.put, List.setIfInBounds_toArray, List.set_cons_zero, List.set_cons_succ])
          ((with_reducible refine Ord.e_p (v := ?_) ?_ ?_ ?_ ?_); rotate_left; (· exact rfl); (· kernel_rfl); (· intro w2; go_simp; try with_reducible rfl))
          (try simp only [Act.put, List.setIfInBounds_toArray, List.set_cons_zero, List.set_cons_succ])
          ((with_reducible refine Ord.e_p (v := ?_) ?_ ?_ ?_ ?_); rotate_left; (· exact rfl); (· kernel_rfl); (· intro w2; go_simp; try with_reducible rfl))
          (try simp only [Act.put, List.setIfInBounds_toArray, List.set_cons_zero, List.set_cons_succ])
          refine Ord.e_x rfl (by kernel_rfl) ?_
          go_wp2_with fail
          go_fit (openA_any g A7 n7 c7 L _ _ _ w10 (hk7.up h10) (by omega))
          rintro e w11 ⟨A11, n11, c11, rfl, hown11, hb11⟩
          have h11 := h10.trans (hb11.mono h10.size)
          have hn11 := (retA_len (w := w11) hown11).trans HL.out
          subst hn11
          go_wp2_with fail
          refine Ord.Seg.go h11 (fun h => by cases h) ?_
          (try simp only [Act.put, List.setIfInBounds_toArray, List.set_cons_zero, List.set_cons_succ])
          ((with_reducible refine Ord.e_p (v := ?_) ?_ ?_ ?_ ?_); rotate_left; (· exact rfl); (· kernel_rfl); (· intro w2; go_simp; try with_reducible rfl))
          (try simp only [Act.put, List.setIfInBounds_toArray, List.set_cons_zero, List.set_cons_succ])
          ((with_reducible refine Ord.e_p (v := ?_) ?_ ?_ ?_ ?_); rotate_left; (· exact rfl); (· kernel_rfl); (· intro w2; go_simp; try with_reducible rfl))
          (try simp only [Act.put, List.setIfInBounds_toArray, List.set_cons_zero, List.set_cons_succ])
          ((with_reducible refine Ord.e_p (v := ?_) ?_ ?_ ?_ ?_); rotate_left; (· exact rfl); (· kernel_rfl); (· intro w2; go_simp; try with_reducible rfl))
          (try simp only [Act.put, List.setIfInBounds_toArray, List.set_cons_zero, List.set_cons_succ])
          ((with_reducible refine Ord.e_p (v := ?_) ?_ ?_ ?_ ?_); rotate_left; (· exact rfl); (· kernel_rfl); (· intro w2; go_simp; try with_reducible rfl))
          (try simp only [Act.put, List.setIfInBounds_toArray, List.set_cons_zero, List.set_cons_succ])
          ((with_reducible refine Ord.e_p (v := ?_) ?_ ?_ ?_ ?_); rotate_left; (· exact rfl); (· kernel_rfl); (· intro w2; go_simp; try with_reducible rfl))
          (try simp only [Act.put, List.setIfInBounds_toArray, List.set_cons_zero, List.set_cons_succ])
          ((with_reducible refine Ord.e_p (v := ?_) ?_ ?_ ?_ ?_); rotate_left; (· exact rfl); (· kernel_rfl); (· intro w2; go_simp; try with_reducible rfl))
          (try simp only [Act.put, List.setIfInBounds_toArray, List.set_cons_zero, List.set_cons_succ])
          ((with_reducible refine Ord.e_p (v := ?_) ?_ ?_ ?_ ?_); rotate_left; (· exact rfl); (· kernel_rfl); (· intro w2; go_simp; try with_reducible rfl))
          (try simp only [Act.put, List.setIfInBounds_toArray, List.set_cons_zero, List.set_cons_succ])
          ((with_reducible refine Ord.e_p (v := ?_) ?_ ?_ ?_ ?_); rotate_left; (· exact rfl); (· kernel_rfl); (· intro w2; go_simp; try with_reducible rfl))
          (try simp only [Act.put, List.setIfInBounds_toArray, List.set_cons_zero, List.set_cons_succ])
          ((with_reducible refine Ord.e_p (v := ?_) ?_ ?_ ?_ ?_); rotate_left; (· exact rfl); (· kernel_rfl); (· intro w2; go_simp; try with_reducible rfl))
          (try simp only [Act.put, List.setIfInBounds_toArray, List.set_cons_zero, List.set_cons_succ])
          ((with_reducible refine Ord.e_p (v := ?_) ?_ ?_ ?_ ?_); rotate_left; (· exact rfl); (· kernel_rfl); (· intro w2; go_simp; try with_reducible rfl))
          (try simp only [Act.put, List.setIfInBounds_toArray, List.set_cons_zero, List.set_cons_succ])
          ((with_reducible refine Ord.e_p (v := ?_) ?_ ?_ ?_ ?_); rotate_left; (· exact rfl); (· kernel_rfl); (· intro w2; go_simp; try with_reducible rfl))
          (try simp only [Act.put, List.setIfInBounds_toArray, List.set_cons_zero, List.set_cons_succ])
          ((with_reducible refine Ord.e_p (v := ?_) ?_ ?_ ?_ ?_); rotate_left; (· exact rfl); (· kernel_rfl); (· intro w2; go_simp; try with_reducible rfl))
          (try simp only [Act.put, List.setIfInBounds_toArray, List.set_cons_zero, List.set_cons_succ])
          ((with_reducible refine Ord.e_p (v := ?_) ?_ ?_ ?_ ?_); rotate_left; (· exact rfl); (· kernel_rfl); (· intro w2; go_simp; try with_reducible rfl))
          (try simp only [Act.put, List.setIfInBounds_toArray, List.set_cons_zero, List.set_cons_succ])
          ((with_reducible refine Ord.e_p (v := ?_) ?_ ?_ ?_ ?_); rotate_left; (· exact rfl); (· kernel_rfl); (· intro w2; go_simp; try with_reducible rfl))
          ((with_reducible refine Ord.e_p (v := ?_) ?_ ?_ ?_ ?_); rotate_left; (· exact rfl); (· kernel_rfl); (· intro w2; go_simp; try with_reducible rfl))
          ((with_reducible refine Ord.e_p (v := ?_) ?_ ?_ ?_ ?_); rotate_left; (· exact rfl); (· kernel_rfl); (· intro w2; go_simp; try with_reducible rfl))
          ((with_reducible refine Ord.e_p (v := ?_) ?_ ?_ ?_ ?_); rotate_left; (· exact rfl); (· kernel_rfl); (· intro w2; go_simp; try with_reducible rfl))
          (try simp only [Act.put, List.setIfInBounds_toArray, List.set_cons_zero, List.set_cons_succ])
          refine Ord.e_loadS Try.underlying4 rfl (fun w' hS => ((hb7.trans ((show Below _ w7 w' from hS).mono hb7.size)).cell (p := ⟨gi, off + k * 4, none⟩) hgi).trans a0) h11 rfl (by kernel_rfl) ?_
          (try simp only [Act.put, List.setIfInBounds_toArray, List.set_cons_zero, List.set_cons_succ])
          ((with_reducible refine Ord.e_p (v := ?_) ?_ ?_ ?_ ?_); rotate_left; (· exact rfl); (· kernel_rfl); (· intro w2; go_simp; try with_reducible rfl))
          (try simp only [Act.put, List.setIfInBounds_toArray, List.set_cons_zero, List.set_cons_succ])
          ((with_reducible refine Ord.e_p (v := ?_) ?_ ?_ ?_ ?_); rotate_left; (· exact rfl); (· kernel_rfl); (· intro w2; go_simp; try with_reducible rfl))
          (try simp only [Act.put, List.setIfInBounds_toArray, List.set_cons_zero, List.set_cons_succ])
          ((with_reducible refine Ord.e_u ?_ ?_); (· kernel_rfl))
          ((with_reducible refine Ord.e_u ?_ ?_); (· kernel_rfl))
          ((with_reducible refine Ord.e_u ?_ ?_); (· kernel_rfl))
          ((with_reducible refine Ord.e_u ?_ ?_); (· kernel_rfl))
          ((with_reducible refine Ord.e_u ?_ ?_); (· kernel_rfl))
          (try simp only [Act.put, List.setIfInBounds_toArray, List.set_cons_zero, List.set_cons_succ])
          ((with_reducible refine Ord.e_p (v := ?_) ?_ ?_ ?_ ?_); rotate_left; (· exact rfl); (· kernel_rfl); (· intro w2; go_simp; try with_reducible rfl))
          (try simp only [Act.put, List.setIfInBounds_toArray, List.set_cons_zero, List.set_cons_succ])
          ((with_reducible refine Ord.e_p (v := ?_) ?_ ?_ ?_ ?_); rotate_left; (· exact rfl); (· kernel_rfl); (· intro w2; go_simp; try with_reducible rfl))
          (try simp only [Act.put, List.setIfInBounds_toArray, List.set_cons_zero, List.set_cons_succ])
          refine Ord.e_nil ?_
          replace hk7 := hk7.up h11
          replace hb7 := bnx hb7 h11
          clear h8 h9 h10 h11 hb9 hb10 hb11 hown9 hown11 rx wz1 wz2 wz3 wz4 hd
          go_wp2
          go_roundw
          case rel => exact ⟨k + 1, A7, n7, c7, L, y, no, od, by omega, by go_num, hb7, hk7, hln7, by rw [HL.out]; omega⟩
          case measure => simp [intOf]; omega
      | false =>
        have hhear := hear_any g Ak nk ck L y no od yes cl id w6 hk2 hnk (by omega) (by omega) (by omega)
        rcases hear_cnt (cl, id) L with ⟨g1, g2, g3⟩ | ⟨g1, g2, g3⟩
        · obtain rfl : m = 0 := by rw [← Hm.out]; exact g3
          obtain ⟨m, hmz⟩ : ∃ m : Nat, m ≤ 0 := ⟨0, Nat.le_refl _⟩
          rw [if_pos g1, if_pos g1, if_pos g1, g2, show decide (0 ≤ idxI (cl, id) 0 L) = false by simp; omega] at hhear
          have HC := Hm
          have HL := Hs
          clear g1 g2 g3
          go_wp2_with fail
          go_fit hhear
          rintro e w7 ⟨rfl, A7, n7, c7, hk7, ha7, hA7⟩
          have hb7 := hk2.below hb2 hg1 ha7
          have hx7 := ha7.keep hx2 hxg
          clear hhear hk2 hb2 hx2 b0 x0 x1 x2 ha7 hA7
          go_wp2_with fail
          refine Ord.region_ (fun w' => Below w7.heap.size w7 w') false [] (by kernel_rfl) (by kernel_rfl) ((Below.refl _ _).drew) ?_
          have h8 : Below w7.heap.size w7 w7.drew := (Below.refl _ _).drew
          generalize w7.drew = w8 at *
          have hlx := blk_lt hx7
          have hln7 : L.length ≤ 16 := by rw [HL.out]; omega
          have rx : w7.rangeAt gx 0 [.bool yes, .int .i64 cl, .int .i64 id] := own_range hx7 0 (fun j v hv => by simpa using hv)
          have hn7 := hk7.rd.1
          have wz1 : IntKind.i64.wrap ((s : Int) + 1) = (s : Int) + 1 := by rw [IntKind.wrap_i64]; omega
          have wz2 : IntKind.i64.wrap ((m : Int) + 1) = (m : Int) + 1 := by rw [IntKind.wrap_i64]; omega
          have wz3 : IntKind.i64.wrap (s : Int) = (s : Int) := by rw [IntKind.wrap_i64]; omega
          have wz4 : IntKind.i64.wrap (m : Int) = (m : Int) := by rw [IntKind.wrap_i64]; omega
          have hd : decide ((16 : Int) < (s : Int)) = false := by simp; omega
          ((with_reducible refine Ord.e_p (v := ?_) ?_ ?_ ?_ ?_); rotate_left; (· exact rfl); (· kernel_rfl); (· intro w2; go_simp; try with_reducible rfl))
          (try simp only [Act.put, List.setIfInBounds_toArray, List.set_cons_zero, List.set_cons_succ])
          refine Ord.e_x rfl (by kernel_rfl) ?_
          go_wp2_with fail
          go_fit (openA_any g A7 n7 c7 L _ _ _ w8 (hk7.up h8) (by omega))
          rintro e w9 ⟨A9, n9, c9, rfl, hown9, hb9⟩
          have h9 := h8.trans (hb9.mono h8.size)
          have hn9 := (retA_len (w := w9) hown9).trans HL.out
          subst hn9
          go_wp2_with fail
          refine Ord.Seg.go h9 (fun h => by cases h) ?_
          (try simp only [Act.put, List.setIfInBounds_toArray, List.set_cons_zero, List.set_cons_succ])
          refine Ord.e_rowS Try.underlying30 rfl (by kernel_rfl) rfl (by simp) (fun w' hS j v hv => ((show Below _ w7 w' from hS).cell (p := ⟨gx, 0 + j, none⟩) hlx).trans (rx j v hv)) h9 (by kernel_rfl) ?_
          (try simp only [Act.put, List.setIfInBounds_toArray, List.set_cons_zero, List.set_cons_succ])
          refine Ord.e_x rfl (by kernel_rfl) ?_
          go_wp2_with fail
          go_fit (of19_any A9 _ c9 L yes cl id w9 (rdA_own hown9) (by omega))
          rw [HC.out]
          rintro e w10 ⟨rfl, hb10⟩
          have h10 := h9.trans (hb10.mono h9.size)
          go_wp2_with fail
          refine Ord.Seg.go h10 (fun h => by cases h) ?_
          (try simp only [Act.put, List.setIfInBounds_toArray, List.set_cons_zero, List.set_cons_succ])
          ((with_reducible refine Ord.e_p (v := ?_) ?_ ?_ ?_ ?_); rotate_left; (· exact rfl); (· kernel_rfl); (· intro w2; go_simp; try with_reducible rfl))
          (try simp only [Act.put, List.setIfInBounds_toArray, List.set_cons_zero, List.set_cons_succ])
          ((with_reducible refine Ord.e_p (v := ?_) ?_ ?_ ?_ ?_); rotate_left; (· exact rfl); (· kernel_rfl); (· intro w2; go_simp; try with_reducible rfl))
          (try simp only [Act.put, List.setIfInBounds_toArray, List.set_cons_zero, List.set_cons_succ])
          ((with_reducible refine Ord.e_p (v := ?_) ?_ ?_ ?_ ?_); rotate_left; (· exact rfl); (· kernel_rfl); (· intro w2; go_simp; try with_reducible rfl))
          (try simp only [Act.put, List.setIfInBounds_toArray, List.set_cons_zero, List.set_cons_succ])
          ((with_reducible refine Ord.e_p (v := ?_) ?_ ?_ ?_ ?_); rotate_left; (· exact rfl); (· kernel_rfl); (· intro w2; go_simp; try with_reducible rfl))
          (try simp only [Act.put, List.setIfInBounds_toArray, List.set_cons_zero, List.set_cons_succ])
          ((with_reducible refine Ord.e_p (v := ?_) ?_ ?_ ?_ ?_); rotate_left; (· exact rfl); (· kernel_rfl); (· intro w2; go_simp; try with_reducible rfl))
          (try simp only [Act.put, List.setIfInBounds_toArray, List.set_cons_zero, List.set_cons_succ])
          ((with_reducible refine Ord.e_p (v := ?_) ?_ ?_ ?_ ?_); rotate_left; (· exact rfl); (· kernel_rfl); (· intro w2; go_simp; try with_reducible rfl))
          (try simp only [Act.put, List.setIfInBounds_toArray, List.set_cons_zero, List.set_cons_succ])
          refine Ord.e_x rfl (by kernel_rfl) ?_
          go_wp2_with fail
          go_fit (openA_any g A7 n7 c7 L _ _ _ w10 (hk7.up h10) (by omega))
          rintro e w11 ⟨A11, n11, c11, rfl, hown11, hb11⟩
          have h11 := h10.trans (hb11.mono h10.size)
          have hn11 := (retA_len (w := w11) hown11).trans HL.out
          subst hn11
          go_wp2_with fail
          refine Ord.Seg.go h11 (fun h => by cases h) ?_
          (try simp only [Act.put, List.setIfInBounds_toArray, List.set_cons_zero, List.set_cons_succ])
          ((with_reducible refine Ord.e_p (v := ?_) ?_ ?_ ?_ ?_); rotate_left; (· exact rfl); (· kernel_rfl); (· intro w2; go_simp; try with_reducible rfl))
          (try simp only [Act.put, List.setIfInBounds_toArray, List.set_cons_zero, List.set_cons_succ])
          ((with_reducible refine Ord.e_p (v := ?_) ?_ ?_ ?_ ?_); rotate_left; (· exact rfl); (· kernel_rfl); (· intro w2; go_simp; try with_reducible rfl))
          (try simp only [Act.put, List.setIfInBounds_toArray, List.set_cons_zero, List.set_cons_succ])
          ((with_reducible refine Ord.e_p (v := ?_) ?_ ?_ ?_ ?_); rotate_left; (· exact rfl); (· kernel_rfl); (· intro w2; go_simp; try with_reducible rfl))
          (try simp only [Act.put, List.setIfInBounds_toArray, List.set_cons_zero, List.set_cons_succ])
          ((with_reducible refine Ord.e_p (v := ?_) ?_ ?_ ?_ ?_); rotate_left; (· exact rfl); (· kernel_rfl); (· intro w2; go_simp; try with_reducible rfl))
          (try simp only [Act.put, List.setIfInBounds_toArray, List.set_cons_zero, List.set_cons_succ])
          ((with_reducible refine Ord.e_p (v := ?_) ?_ ?_ ?_ ?_); rotate_left; (· exact rfl); (· kernel_rfl); (· intro w2; go_simp; try with_reducible rfl))
          (try simp only [Act.put, List.setIfInBounds_toArray, List.set_cons_zero, List.set_cons_succ])
          ((with_reducible refine Ord.e_p (v := ?_) ?_ ?_ ?_ ?_); rotate_left; (· exact rfl); (· kernel_rfl); (· intro w2; go_simp; try with_reducible rfl))
          (try simp only [Act.put, List.setIfInBounds_toArray, List.set_cons_zero, List.set_cons_succ])
          ((with_reducible refine Ord.e_p (v := ?_) ?_ ?_ ?_ ?_); rotate_left; (· exact rfl); (· kernel_rfl); (· intro w2; go_simp; try with_reducible rfl))
          (try simp only [Act.put, List.setIfInBounds_toArray, List.set_cons_zero, List.set_cons_succ])
          ((with_reducible refine Ord.e_p (v := ?_) ?_ ?_ ?_ ?_); rotate_left; (· exact rfl); (· kernel_rfl); (· intro w2; go_simp; try with_reducible rfl))
          (try simp only [Act.put, List.setIfInBounds_toArray, List.set_cons_zero, List.set_cons_succ])
          ((with_reducible refine Ord.e_p (v := ?_) ?_ ?_ ?_ ?_); rotate_left; (· exact rfl); (· kernel_rfl); (· intro w2; go_simp; try with_reducible rfl))
          (try simp only [Act.put, List.setIfInBounds_toArray, List.set_cons_zero, List.set_cons_succ])
          ((with_reducible refine Ord.e_p (v := ?_) ?_ ?_ ?_ ?_); rotate_left; (· exact rfl); (· kernel_rfl); (· intro w2; go_simp; try with_reducible rfl))
          (try simp only [Act.put, List.setIfInBounds_toArray, List.set_cons_zero, List.set_cons_succ])
          ((with_reducible refine Ord.e_p (v := ?_) ?_ ?_ ?_ ?_); rotate_left; (· exact rfl); (· kernel_rfl); (· intro w2; go_simp; try with_reducible rfl))
          (try simp only [Act.put, List.setIfInBounds_toArray, List.set_cons_zero, List.set_cons_succ])
          ((with_reducible refine Ord.e_p (v := ?_) ?_ ?_ ?_ ?_); rotate_left; (· exact rfl); (· kernel_rfl); (· intro w2; go_simp; try with_reducible rfl))
          (try simp only [Act.put, List.setIfInBounds_toArray, List.set_cons_zero, List.set_cons_succ])
          ((with_reducible refine Ord.e_p (v := ?_) ?_ ?_ ?_ ?_); rotate_left; (· exact rfl); (· kernel_rfl); (· intro w2; go_simp; try with_reducible rfl))
          (try simp only [Act.put, List.setIfInBounds_toArray, List.set_cons_zero, List.set_cons_succ])
          ((with_reducible refine Ord.e_p (v := ?_) ?_ ?_ ?_ ?_); rotate_left; (· exact rfl); (· kernel_rfl); (· intro w2; go_simp; try with_reducible rfl))
          ((with_reducible refine Ord.e_p (v := ?_) ?_ ?_ ?_ ?_); rotate_left; (· exact rfl); (· kernel_rfl); (· intro w2; go_simp; try with_reducible rfl))
          ((with_reducible refine Ord.e_p (v := ?_) ?_ ?_ ?_ ?_); rotate_left; (· exact rfl); (· kernel_rfl); (· intro w2; go_simp; try with_reducible rfl))
          ((with_reducible refine Ord.e_p (v := ?_) ?_ ?_ ?_ ?_); rotate_left; (· exact rfl); (· kernel_rfl); (· intro w2; go_simp; try with_reducible rfl))
          (try simp only [Act.put, List.setIfInBounds_toArray, List.set_cons_zero, List.set_cons_succ])
          refine Ord.e_loadS Try.underlying4 rfl (fun w' hS => ((hb7.trans ((show Below _ w7 w' from hS).mono hb7.size)).cell (p := ⟨gi, off + k * 4, none⟩) hgi).trans a0) h11 rfl (by kernel_rfl) ?_
          (try simp only [Act.put, List.setIfInBounds_toArray, List.set_cons_zero, List.set_cons_succ])
          ((with_reducible refine Ord.e_p (v := ?_) ?_ ?_ ?_ ?_); rotate_left; (· exact rfl); (· kernel_rfl); (· intro w2; go_simp; try with_reducible rfl))
          (try simp only [Act.put, List.setIfInBounds_toArray, List.set_cons_zero, List.set_cons_succ])
          ((with_reducible refine Ord.e_p (v := ?_) ?_ ?_ ?_ ?_); rotate_left; (· exact rfl); (· kernel_rfl); (· intro w2; go_simp; try with_reducible rfl))
          (try simp only [Act.put, List.setIfInBounds_toArray, List.set_cons_zero, List.set_cons_succ])
          ((with_reducible refine Ord.e_p (v := ?_) ?_ ?_ ?_ ?_); rotate_left; (· exact rfl); (· kernel_rfl); (· intro w2; go_simp; try with_reducible rfl))
          (try simp only [Act.put, List.setIfInBounds_toArray, List.set_cons_zero, List.set_cons_succ])
          ((with_reducible refine Ord.e_p (v := ?_) ?_ ?_ ?_ ?_); rotate_left; (· exact rfl); (· kernel_rfl); (· intro w2; go_simp; try with_reducible rfl))
          (try simp only [Act.put, List.setIfInBounds_toArray, List.set_cons_zero, List.set_cons_succ])
          ((with_reducible refine Ord.e_p (v := ?_) ?_ ?_ ?_ ?_); rotate_left; (· exact rfl); (· kernel_rfl); (· intro w2; go_simp; try with_reducible rfl))
          (try simp only [Act.put, List.setIfInBounds_toArray, List.set_cons_zero, List.set_cons_succ])
          ((with_reducible refine Ord.e_p (v := ?_) ?_ ?_ ?_ ?_); rotate_left; (· exact rfl); (· kernel_rfl); (· intro w2; go_simp; try with_reducible rfl))
          (try simp only [Act.put, List.setIfInBounds_toArray, List.set_cons_zero, List.set_cons_succ])
          ((with_reducible refine Ord.e_p (v := ?_) ?_ ?_ ?_ ?_); rotate_left; (· exact rfl); (· kernel_rfl); (· intro w2; go_simp; try with_reducible rfl))
          (try simp only [Act.put, List.setIfInBounds_toArray, List.set_cons_zero, List.set_cons_succ])
          ((with_reducible refine Ord.e_p (v := ?_) ?_ ?_ ?_ ?_); rotate_left; (· exact rfl); (· kernel_rfl); (· intro w2; go_simp; try with_reducible rfl))
          (try simp only [Act.put, List.setIfInBounds_toArray, List.set_cons_zero, List.set_cons_succ])
          ((with_reducible refine Ord.e_p (v := ?_) ?_ ?_ ?_ ?_); rotate_left; (· exact rfl); (· kernel_rfl); (· intro w2; go_simp; try with_reducible rfl))
          (try simp only [Act.put, List.setIfInBounds_toArray, List.set_cons_zero, List.set_cons_succ])
          refine Ord.e_nil ?_
          replace hk7 := hk7.up h11
          replace hb7 := bnx hb7 h11
          clear h8 h9 h10 h11 hb9 hb10 hb11 hown9 hown11 rx wz1 wz2 wz3 wz4 hd
          go_wp2
          go_roundw
          case rel => exact ⟨k + 1, A7, n7, c7, L, y, no, od + 1, by omega, by go_num, hb7, hk7, hln7, by rw [HL.out]; omega⟩
          case measure => simp [intOf]; omega
        · have g1' : ¬ idxI (cl, id) 0 L < 0 := by omega
          rw [if_neg g1', if_neg g1', if_neg g1', show decide (0 ≤ idxI (cl, id) 0 L) = true by simp; omega] at hhear
          generalize dropAt L (idxI (cl, id) 0 L) = L' at *
          rw [Hm.out] at g2
          rw [Hs.out] at g3
          obtain ⟨m', hm'⟩ : ∃ m', cntA (cl, id) L' = m' := ⟨_, rfl⟩
          obtain ⟨s', hs'⟩ : ∃ s', L'.length = s' := ⟨_, rfl⟩
          rw [hm'] at g2
          rw [hs'] at g3
          have HC := Lib.hid hm'
          have HL := Lib.hid hs'
          subst g2 g3
          clear hm' hs' Hm Hs g1 g1'
          have wy1 : IntKind.i64.wrap ((s' : Int) + 1 + -1) = (s' : Int) := by rw [IntKind.wrap_i64]; omega
          have wy2 : IntKind.i64.wrap ((m' : Int) + 1 + -1) = (m' : Int) := by rw [IntKind.wrap_i64]; omega
          have wy3 : IntKind.i64.wrap (s' : Int) = (s' : Int) := by rw [IntKind.wrap_i64]; omega
          have wy4 : IntKind.i64.wrap (m' : Int) = (m' : Int) := by rw [IntKind.wrap_i64]; omega
          have wy5 : decide ((16 : Int) < (s' : Int)) = false := decide_eq_false (by omega)
          have wy6 : decide ((0 : Int) < (m' : Int) + 1) = true := decide_eq_true (by omega)
          obtain ⟨s, hsz⟩ : ∃ s : Nat, s ≤ 0 := ⟨0, Nat.le_refl _⟩
          obtain ⟨m, hmz⟩ : ∃ m : Nat, m ≤ 0 := ⟨0, Nat.le_refl _⟩
          rcases yes with _ | _
          · simp only [Bool.false_eq_true, if_false] at hhear
            go_wp2_with fail
            go_fit hhear
            rintro e w7 ⟨rfl, A7, n7, c7, hk7, ha7, hA7⟩
            have hb7 := hk2.below hb2 hg1 ha7
            have hx7 := ha7.keep hx2 hxg
            clear hhear hk2 hb2 hx2 b0 x0 x1 x2 ha7 hA7
            go_wp2_with fail
            refine Ord.region_ (fun w' => Below w7.heap.size w7 w') false [] (by kernel_rfl) (by kernel_rfl) ((Below.refl _ _).drew) ?_
            have h8 : Below w7.heap.size w7 w7.drew := (Below.refl _ _).drew
            generalize w7.drew = w8 at *
            have hlx := blk_lt hx7
            have hln7 : L'.length ≤ 16 := by rw [HL.out]; omega
            have rx : w7.rangeAt gx 0 [.bool false, .int .i64 cl, .int .i64 id] := own_range hx7 0 (fun j v hv => by simpa using hv)
            have hn7 := hk7.rd.1
            have wz1 : IntKind.i64.wrap ((s : Int) + 1) = (s : Int) + 1 := by rw [IntKind.wrap_i64]; omega
            have wz2 : IntKind.i64.wrap ((m : Int) + 1) = (m : Int) + 1 := by rw [IntKind.wrap_i64]; omega
            have wz3 : IntKind.i64.wrap (s : Int) = (s : Int) := by rw [IntKind.wrap_i64]; omega
            have wz4 : IntKind.i64.wrap (m : Int) = (m : Int) := by rw [IntKind.wrap_i64]; omega
            have hd : decide ((16 : Int) < (s : Int)) = false := by simp; omega
            ((with_reducible refine Ord.e_p (v := ?_) ?_ ?_ ?_ ?_); rotate_left; (· exact rfl); (· kernel_rfl); (· intro w2; go_simp; try with_reducible rfl))
            (try simp only [Act.put, List.setIfInBounds_toArray, List.set_cons_zero, List.set_cons_succ])
            refine Ord.e_x rfl (by kernel_rfl) ?_
            go_wp2_with fail
            go_fit (openA_any g A7 n7 c7 L' _ _ _ w8 (hk7.up h8) (by omega))
            rintro e w9 ⟨A9, n9, c9, rfl, hown9, hb9⟩
            have h9 := h8.trans (hb9.mono h8.size)
            have hn9 := (retA_len (w := w9) hown9).trans HL.out
            subst hn9
            go_wp2_with fail
            refine Ord.Seg.go h9 (fun h => by cases h) ?_
            (try simp only [Act.put, List.setIfInBounds_toArray, List.set_cons_zero, List.set_cons_succ])
            refine Ord.e_rowS Try.underlying30 rfl (by kernel_rfl) rfl (by simp) (fun w' hS j v hv => ((show Below _ w7 w' from hS).cell (p := ⟨gx, 0 + j, none⟩) hlx).trans (rx j v hv)) h9 (by kernel_rfl) ?_
            (try simp only [Act.put, List.setIfInBounds_toArray, List.set_cons_zero, List.set_cons_succ])
            refine Ord.e_x rfl (by kernel_rfl) ?_
            go_wp2_with fail
            go_fit (of19_any A9 _ c9 L' false cl id w9 (rdA_own hown9) (by omega))
            rw [HC.out]
            rintro e w10 ⟨rfl, hb10⟩
            have h10 := h9.trans (hb10.mono h9.size)
            go_wp2_with fail
            refine Ord.Seg.go h10 (fun h => by cases h) ?_
            (try simp only [Act.put, List.setIfInBounds_toArray, List.set_cons_zero, List.set_cons_succ])
            ((with_reducible refine Ord.e_p (v := ?_) ?_ ?_ ?_ ?_); rotate_left; (· exact rfl); (· kernel_rfl); (· intro w2; go_simp; try with_reducible rfl))
            (try simp only [Act.put, List.setIfInBounds_toArray, List.set_cons_zero, List.set_cons_succ])
            ((with_reducible refine Ord.e_p (v := ?_) ?_ ?_ ?_ ?_); rotate_left; (· exact rfl); (· kernel_rfl); (· intro w2; go_simp; try with_reducible rfl))
            (try simp only [Act.put, List.setIfInBounds_toArray, List.set_cons_zero, List.set_cons_succ])
            ((with_reducible refine Ord.e_p (v := ?_) ?_ ?_ ?_ ?_); rotate_left; (· exact rfl); (· kernel_rfl); (· intro w2; go_simp; try with_reducible rfl))
            (try simp only [Act.put, List.setIfInBounds_toArray, List.set_cons_zero, List.set_cons_succ])
            ((with_reducible refine Ord.e_p (v := ?_) ?_ ?_ ?_ ?_); rotate_left; (· exact rfl); (· kernel_rfl); (· intro w2; go_simp; try with_reducible rfl))
            (try simp only [Act.put, List.setIfInBounds_toArray, List.set_cons_zero, List.set_cons_succ])
            ((with_reducible refine Ord.e_p (v := ?_) ?_ ?_ ?_ ?_); rotate_left; (· exact rfl); (· kernel_rfl); (· intro w2; go_simp; try with_reducible rfl))
            (try simp only [Act.put, List.setIfInBounds_toArray, List.set_cons_zero, List.set_cons_succ])
            ((with_reducible refine Ord.e_p (v := ?_) ?_ ?_ ?_ ?_); rotate_left; (· exact rfl); (· kernel_rfl); (· intro w2; go_simp; try with_reducible rfl))
            (try simp only [Act.put, List.setIfInBounds_toArray, List.set_cons_zero, List.set_cons_succ])
            refine Ord.e_x rfl (by kernel_rfl) ?_
            go_wp2_with fail
            go_fit (openA_any g A7 n7 c7 L' _ _ _ w10 (hk7.up h10) (by omega))
            rintro e w11 ⟨A11, n11, c11, rfl, hown11, hb11⟩
            have h11 := h10.trans (hb11.mono h10.size)
            have hn11 := (retA_len (w := w11) hown11).trans HL.out
            subst hn11
            go_wp2_with fail
            refine Ord.Seg.go h11 (fun h => by cases h) ?_
            (try simp only [Act.put, List.setIfInBounds_toArray, List.set_cons_zero, List.set_cons_succ])
            ((with_reducible refine Ord.e_p (v := ?_) ?_ ?_ ?_ ?_); rotate_left; (· exact rfl); (· kernel_rfl); (· intro w2; go_simp; try with_reducible rfl))
            (try simp only [Act.put, List.setIfInBounds_toArray, List.set_cons_zero, List.set_cons_succ])
            ((with_reducible refine Ord.e_p (v := ?_) ?_ ?_ ?_ ?_); rotate_left; (· exact rfl); (· kernel_rfl); (· intro w2; go_simp; try with_reducible rfl))
            (try simp only [Act.put, List.setIfInBounds_toArray, List.set_cons_zero, List.set_cons_succ])
            ((with_reducible refine Ord.e_p (v := ?_) ?_ ?_ ?_ ?_); rotate_left; (· exact rfl); (· kernel_rfl); (· intro w2; go_simp; try with_reducible rfl))
            (try simp only [Act.put, List.setIfInBounds_toArray, List.set_cons_zero, List.set_cons_succ])
            ((with_reducible refine Ord.e_p (v := ?_) ?_ ?_ ?_ ?_); rotate_left; (· exact rfl); (· kernel_rfl); (· intro w2; go_simp; try with_reducible rfl))
            (try simp only [Act.put, List.setIfInBounds_toArray, List.set_cons_zero, List.set_cons_succ])
            ((with_reducible refine Ord.e_p (v := ?_) ?_ ?_ ?_ ?_); rotate_left; (· exact rfl); (· kernel_rfl); (· intro w2; go_simp; try with_reducible rfl))
            (try simp only [Act.put, List.setIfInBounds_toArray, List.set_cons_zero, List.set_cons_succ])
            ((with_reducible refine Ord.e_p (v := ?_) ?_ ?_ ?_ ?_); rotate_left; (· exact rfl); (· kernel_rfl); (· intro w2; go_simp; try with_reducible rfl))
            (try simp only [Act.put, List.setIfInBounds_toArray, List.set_cons_zero, List.set_cons_succ])
            ((with_reducible refine Ord.e_p (v := ?_) ?_ ?_ ?_ ?_); rotate_left; (· exact rfl); (· kernel_rfl); (· intro w2; go_simp; try with_reducible rfl))
            (try simp only [Act.put, List.setIfInBounds_toArray, List.set_cons_zero, List.set_cons_succ])
            ((with_reducible refine Ord.e_p (v := ?_) ?_ ?_ ?_ ?_); rotate_left; (· exact rfl); (· kernel_rfl); (· intro w2; go_simp; try with_reducible rfl))
            (try simp only [Act.put, List.setIfInBounds_toArray, List.set_cons_zero, List.set_cons_succ])
            ((with_reducible refine Ord.e_p (v := ?_) ?_ ?_ ?_ ?_); rotate_left; (· exact rfl); (· kernel_rfl); (· intro w2; go_simp; try with_reducible rfl))
            (try simp only [Act.put, List.setIfInBounds_toArray, List.set_cons_zero, List.set_cons_succ])
            ((with_reducible refine Ord.e_p (v := ?_) ?_ ?_ ?_ ?_); rotate_left; (· exact rfl); (· kernel_rfl); (· intro w2; go_simp; try with_reducible rfl))
            (try simp only [Act.put, List.setIfInBounds_toArray, List.set_cons_zero, List.set_cons_succ])
            ((with_reducible refine Ord.e_p (v := ?_) ?_ ?_ ?_ ?_); rotate_left; (· exact rfl); (· kernel_rfl); (· intro w2; go_simp; try with_reducible rfl))
            (try simp only [Act.put, List.setIfInBounds_toArray, List.set_cons_zero, List.set_cons_succ])
            ((with_reducible refine Ord.e_p (v := ?_) ?_ ?_ ?_ ?_); rotate_left; (· exact rfl); (· kernel_rfl); (· intro w2; go_simp; try with_reducible rfl))
            (try simp only [Act.put, List.setIfInBounds_toArray, List.set_cons_zero, List.set_cons_succ])
            ((with_reducible refine Ord.e_p (v := ?_) ?_ ?_ ?_ ?_); rotate_left; (· exact rfl); (· kernel_rfl); (· intro w2; go_simp; try with_reducible rfl))
            (try simp only [Act.put, List.setIfInBounds_toArray, List.set_cons_zero, List.set_cons_succ])
            ((with_reducible refine Ord.e_p (v := ?_) ?_ ?_ ?_ ?_); rotate_left; (· exact rfl); (· kernel_rfl); (· intro w2; go_simp; try with_reducible rfl))
            ((with_reducible refine Ord.e_p (v := ?_) ?_ ?_ ?_ ?_); rotate_left; (· exact rfl); (· kernel_rfl); (· intro w2; go_simp; try with_reducible rfl))
            ((with_reducible refine Ord.e_p (v := ?_) ?_ ?_ ?_ ?_); rotate_left; (· exact rfl); (· kernel_rfl); (· intro w2; go_simp; try with_reducible rfl))
            ((with_reducible refine Ord.e_p (v := ?_) ?_ ?_ ?_ ?_); rotate_left; (· exact rfl); (· kernel_rfl); (· intro w2; go_simp; try with_reducible rfl))
            (try simp only [Act.put, List.setIfInBounds_toArray, List.set_cons_zero, List.set_cons_succ])
            refine Ord.e_loadS Try.underlying4 rfl (fun w' hS => ((hb7.trans ((show Below _ w7 w' from hS).mono hb7.size)).cell (p := ⟨gi, off + k * 4, none⟩) hgi).trans a0) h11 rfl (by kernel_rfl) ?_
            (try simp only [Act.put, List.setIfInBounds_toArray, List.set_cons_zero, List.set_cons_succ])
            ((with_reducible refine Ord.e_p (v := ?_) ?_ ?_ ?_ ?_); rotate_left; (· exact rfl); (· kernel_rfl); (· intro w2; go_simp; try with_reducible rfl))
            (try simp only [Act.put, List.setIfInBounds_toArray, List.set_cons_zero, List.set_cons_succ])
            ((with_reducible refine Ord.e_p (v := ?_) ?_ ?_ ?_ ?_); rotate_left; (· exact rfl); (· kernel_rfl); (· intro w2; go_simp; try with_reducible rfl))
            (try simp only [Act.put, List.setIfInBounds_toArray, List.set_cons_zero, List.set_cons_succ])
            ((with_reducible refine Ord.e_p (v := ?_) ?_ ?_ ?_ ?_); rotate_left; (· exact rfl); (· kernel_rfl); (· intro w2; go_simp; try with_reducible rfl))
            (try simp only [Act.put, List.setIfInBounds_toArray, List.set_cons_zero, List.set_cons_succ])
            ((with_reducible refine Ord.e_p (v := ?_) ?_ ?_ ?_ ?_); rotate_left; (· exact rfl); (· kernel_rfl); (· intro w2; go_simp; try with_reducible rfl))
            (try simp only [Act.put, List.setIfInBounds_toArray, List.set_cons_zero, List.set_cons_succ])
            ((with_reducible refine Ord.e_p (v := ?_) ?_ ?_ ?_ ?_); rotate_left; (· exact rfl); (· kernel_rfl); (· intro w2; go_simp; try with_reducible rfl))
            (try simp only [Act.put, List.setIfInBounds_toArray, List.set_cons_zero, List.set_cons_succ])
            ((with_reducible refine Ord.e_p (v := ?_) ?_ ?_ ?_ ?_); rotate_left; (· exact rfl); (· kernel_rfl); (· intro w2; go_simp; try with_reducible rfl))
            (try simp only [Act.put, List.setIfInBounds_toArray, List.set_cons_zero, List.set_cons_succ])
            ((with_reducible refine Ord.e_p (v := ?_) ?_ ?_ ?_ ?_); rotate_left; (· exact rfl); (· kernel_rfl); (· intro w2; go_simp; try with_reducible rfl))
            (try simp only [Act.put, List.setIfInBounds_toArray, List.set_cons_zero, List.set_cons_succ])
            ((with_reducible refine Ord.e_p (v := ?_) ?_ ?_ ?_ ?_); rotate_left; (· exact rfl); (· kernel_rfl); (· intro w2; go_simp; try with_reducible rfl))
            (try simp only [Act.put, List.setIfInBounds_toArray, List.set_cons_zero, List.set_cons_succ])
            ((with_reducible refine Ord.e_p (v := ?_) ?_ ?_ ?_ ?_); rotate_left; (· exact rfl); (· kernel_rfl); (· intro w2; go_simp; try with_reducible rfl))
            (try simp only [Act.put, List.setIfInBounds_toArray, List.set_cons_zero, List.set_cons_succ])
            refine Ord.e_nil ?_
            replace hk7 := hk7.up h11
            replace hb7 := bnx hb7 h11
            clear h8 h9 h10 h11 hb9 hb10 hb11 hown9 hown11 rx wz1 wz2 wz3 wz4 hd
            go_wp2
            go_roundw
            case rel => exact ⟨k + 1, A7, n7, c7, L', y, no + 1, od, by omega, by go_num, hb7, hk7, hln7, by rw [HL.out]; omega⟩
            case measure => simp [intOf]; omega
          · simp only [if_true] at hhear
            go_wp2_with fail
            go_fit hhear
            rintro e w7 ⟨rfl, A7, n7, c7, hk7, ha7, hA7⟩
            have hb7 := hk2.below hb2 hg1 ha7
            have hx7 := ha7.keep hx2 hxg
            clear hhear hk2 hb2 hx2 b0 x0 x1 x2 ha7 hA7
            go_wp2_with fail
            refine Ord.region_ (fun w' => Below w7.heap.size w7 w') false [] (by kernel_rfl) (by kernel_rfl) ((Below.refl _ _).drew) ?_
            have h8 : Below w7.heap.size w7 w7.drew := (Below.refl _ _).drew
            generalize w7.drew = w8 at *
            have hlx := blk_lt hx7
            have hln7 : L'.length ≤ 16 := by rw [HL.out]; omega
            have rx : w7.rangeAt gx 0 [.bool true, .int .i64 cl, .int .i64 id] := own_range hx7 0 (fun j v hv => by simpa using hv)
            have hn7 := hk7.rd.1
            have wz1 : IntKind.i64.wrap ((s : Int) + 1) = (s : Int) + 1 := by rw [IntKind.wrap_i64]; omega
            have wz2 : IntKind.i64.wrap ((m : Int) + 1) = (m : Int) + 1 := by rw [IntKind.wrap_i64]; omega
            have wz3 : IntKind.i64.wrap (s : Int) = (s : Int) := by rw [IntKind.wrap_i64]; omega
            have wz4 : IntKind.i64.wrap (m : Int) = (m : Int) := by rw [IntKind.wrap_i64]; omega
            have hd : decide ((16 : Int) < (s : Int)) = false := by simp; omega
            ((with_reducible refine Ord.e_p (v := ?_) ?_ ?_ ?_ ?_); rotate_left; (· exact rfl); (· kernel_rfl); (· intro w2; go_simp; try with_reducible rfl))
            (try simp only [Act.put, List.setIfInBounds_toArray, List.set_cons_zero, List.set_cons_succ])
            refine Ord.e_x rfl (by kernel_rfl) ?_
            go_wp2_with fail
            go_fit (openA_any g A7 n7 c7 L' _ _ _ w8 (hk7.up h8) (by omega))
            rintro e w9 ⟨A9, n9, c9, rfl, hown9, hb9⟩
            have h9 := h8.trans (hb9.mono h8.size)
            have hn9 := (retA_len (w := w9) hown9).trans HL.out
            subst hn9
            go_wp2_with fail
            refine Ord.Seg.go h9 (fun h => by cases h) ?_
            (try simp only [Act.put, List.setIfInBounds_toArray, List.set_cons_zero, List.set_cons_succ])
            refine Ord.e_rowS Try.underlying30 rfl (by kernel_rfl) rfl (by simp) (fun w' hS j v hv => ((show Below _ w7 w' from hS).cell (p := ⟨gx, 0 + j, none⟩) hlx).trans (rx j v hv)) h9 (by kernel_rfl) ?_
            (try simp only [Act.put, List.setIfInBounds_toArray, List.set_cons_zero, List.set_cons_succ])
            refine Ord.e_x rfl (by kernel_rfl) ?_
            go_wp2_with fail
            go_fit (of19_any A9 _ c9 L' true cl id w9 (rdA_own hown9) (by omega))
            rw [HC.out]
            rintro e w10 ⟨rfl, hb10⟩
            have h10 := h9.trans (hb10.mono h9.size)
            go_wp2_with fail
            refine Ord.Seg.go h10 (fun h => by cases h) ?_
            (try simp only [Act.put, List.setIfInBounds_toArray, List.set_cons_zero, List.set_cons_succ])
            ((with_reducible refine Ord.e_p (v := ?_) ?_ ?_ ?_ ?_); rotate_left; (· exact rfl); (· kernel_rfl); (· intro w2; go_simp; try with_reducible rfl))
            (try simp only [Act.put, List.setIfInBounds_toArray, List.set_cons_zero, List.set_cons_succ])
            ((with_reducible refine Ord.e_p (v := ?_) ?_ ?_ ?_ ?_); rotate_left; (· exact rfl); (· kernel_rfl); (· intro w2; go_simp; try with_reducible rfl))
            (try simp only [Act.put, List.setIfInBounds_toArray, List.set_cons_zero, List.set_cons_succ])
            ((with_reducible refine Ord.e_p (v := ?_) ?_ ?_ ?_ ?_); rotate_left; (· exact rfl); (· kernel_rfl); (· intro w2; go_simp; try with_reducible rfl))
            (try simp only [Act.put, List.setIfInBounds_toArray, List.set_cons_zero, List.set_cons_succ])
            ((with_reducible refine Ord.e_p (v := ?_) ?_ ?_ ?_ ?_); rotate_left; (· exact rfl); (· kernel_rfl); (· intro w2; go_simp; try with_reducible rfl))
            (try simp only [Act.put, List.setIfInBounds_toArray, List.set_cons_zero, List.set_cons_succ])
            ((with_reducible refine Ord.e_p (v := ?_) ?_ ?_ ?_ ?_); rotate_left; (· exact rfl); (· kernel_rfl); (· intro w2; go_simp; try with_reducible rfl))
            (try simp only [Act.put, List.setIfInBounds_toArray, List.set_cons_zero, List.set_cons_succ])
            ((with_reducible refine Ord.e_p (v := ?_) ?_ ?_ ?_ ?_); rotate_left; (· exact rfl); (· kernel_rfl); (· intro w2; go_simp; try with_reducible rfl))
            (try simp only [Act.put, List.setIfInBounds_toArray, List.set_cons_zero, List.set_cons_succ])
            refine Ord.e_x rfl (by kernel_rfl) ?_
            go_wp2_with fail
            go_fit (openA_any g A7 n7 c7 L' _ _ _ w10 (hk7.up h10) (by omega))
            rintro e w11 ⟨A11, n11, c11, rfl, hown11, hb11⟩
            have h11 := h10.trans (hb11.mono h10.size)
            have hn11 := (retA_len (w := w11) hown11).trans HL.out
            subst hn11
            go_wp2_with fail
            refine Ord.Seg.go h11 (fun h => by cases h) ?_
            (try simp only [Act.put, List.setIfInBounds_toArray, List.set_cons_zero, List.set_cons_succ])
            ((with_reducible refine Ord.e_p (v := ?_) ?_ ?_ ?_ ?_); rotate_left; (· exact rfl); (· kernel_rfl); (· intro w2; go_simp; try with_reducible rfl))
            (try simp only [Act.put, List.setIfInBounds_toArray, List.set_cons_zero, List.set_cons_succ])
            ((with_reducible refine Ord.e_p (v := ?_) ?_ ?_ ?_ ?_); rotate_left; (· exact rfl); (· kernel_rfl); (· intro w2; go_simp; try with_reducible rfl))
            (try simp only [Act.put, List.setIfInBounds_toArray, List.set_cons_zero, List.set_cons_succ])
            ((with_reducible refine Ord.e_p (v := ?_) ?_ ?_ ?_ ?_); rotate_left; (· exact rfl); (· kernel_rfl); (· intro w2; go_simp; try with_reducible rfl))
            (try simp only [Act.put, List.setIfInBounds_toArray, List.set_cons_zero, List.set_cons_succ])
            ((with_reducible refine Ord.e_p (v := ?_) ?_ ?_ ?_ ?_); rotate_left; (· exact rfl); (· kernel_rfl); (· intro w2; go_simp; try with_reducible rfl))
            (try simp only [Act.put, List.setIfInBounds_toArray, List.set_cons_zero, List.set_cons_succ])
            ((with_reducible refine Ord.e_p (v := ?_) ?_ ?_ ?_ ?_); rotate_left; (· exact rfl); (· kernel_rfl); (· intro w2; go_simp; try with_reducible rfl))
            (try simp only [Act.put, List.setIfInBounds_toArray, List.set_cons_zero, List.set_cons_succ])
            ((with_reducible refine Ord.e_p (v := ?_) ?_ ?_ ?_ ?_); rotate_left; (· exact rfl); (· kernel_rfl); (· intro w2; go_simp; try with_reducible rfl))
            (try simp only [Act.put, List.setIfInBounds_toArray, List.set_cons_zero, List.set_cons_succ])
            ((with_reducible refine Ord.e_p (v := ?_) ?_ ?_ ?_ ?_); rotate_left; (· exact rfl); (· kernel_rfl); (· intro w2; go_simp; try with_reducible rfl))
            (try simp only [Act.put, List.setIfInBounds_toArray, List.set_cons_zero, List.set_cons_succ])
            ((with_reducible refine Ord.e_p (v := ?_) ?_ ?_ ?_ ?_); rotate_left; (· exact rfl); (· kernel_rfl); (· intro w2; go_simp; try with_reducible rfl))
            (try simp only [Act.put, List.setIfInBounds_toArray, List.set_cons_zero, List.set_cons_succ])
            ((with_reducible refine Ord.e_p (v := ?_) ?_ ?_ ?_ ?_); rotate_left; (· exact rfl); (· kernel_rfl); (· intro w2; go_simp; try with_reducible rfl))
            (try simp only [Act.put, List.setIfInBounds_toArray, List.set_cons_zero, List.set_cons_succ])
            ((with_reducible refine Ord.e_p (v := ?_) ?_ ?_ ?_ ?_); rotate_left; (· exact rfl); (· kernel_rfl); (· intro w2; go_simp; try with_reducible rfl))
            (try simp only [Act.put, List.setIfInBounds_toArray, List.set_cons_zero, List.set_cons_succ])
            ((with_reducible refine Ord.e_p (v := ?_) ?_ ?_ ?_ ?_); rotate_left; (· exact rfl); (· kernel_rfl); (· intro w2; go_simp; try with_reducible rfl))
            (try simp only [Act.put, List.setIfInBounds_toArray, List.set_cons_zero, List.set_cons_succ])
            ((with_reducible refine Ord.e_p (v := ?_) ?_ ?_ ?_ ?_); rotate_left; (· exact rfl); (· kernel_rfl); (· intro w2; go_simp; try with_reducible rfl))
            (try simp only [Act.put, List.setIfInBounds_toArray, List.set_cons_zero, List.set_cons_succ])
            ((with_reducible refine Ord.e_p (v := ?_) ?_ ?_ ?_ ?_); rotate_left; (· exact rfl); (· kernel_rfl); (· intro w2; go_simp; try with_reducible rfl))
            (try simp only [Act.put, List.setIfInBounds_toArray, List.set_cons_zero, List.set_cons_succ])
            ((with_reducible refine Ord.e_p (v := ?_) ?_ ?_ ?_ ?_); rotate_left; (· exact rfl); (· kernel_rfl); (· intro w2; go_simp; try with_reducible rfl))
            ((with_reducible refine Ord.e_p (v := ?_) ?_ ?_ ?_ ?_); rotate_left; (· exact rfl); (· kernel_rfl); (· intro w2; go_simp; try with_reducible rfl))
            ((with_reducible refine Ord.e_p (v := ?_) ?_ ?_ ?_ ?_); rotate_left; (· exact rfl); (· kernel_rfl); (· intro w2; go_simp; try with_reducible rfl))
            ((with_reducible refine Ord.e_p (v := ?_) ?_ ?_ ?_ ?_); rotate_left; (· exact rfl); (· kernel_rfl); (· intro w2; go_simp; try with_reducible rfl))
            (try simp only [Act.put, List.setIfInBounds_toArray, List.set_cons_zero, List.set_cons_succ])
            refine Ord.e_loadS Try.underlying4 rfl (fun w' hS => ((hb7.trans ((show Below _ w7 w' from hS).mono hb7.size)).cell (p := ⟨gi, off + k * 4, none⟩) hgi).trans a0) h11 rfl (by kernel_rfl) ?_
            (try simp only [Act.put, List.setIfInBounds_toArray, List.set_cons_zero, List.set_cons_succ])
            ((with_reducible refine Ord.e_p (v := ?_) ?_ ?_ ?_ ?_); rotate_left; (· exact rfl); (· kernel_rfl); (· intro w2; go_simp; try with_reducible rfl))
            (try simp only [Act.put, List.setIfInBounds_toArray, List.set_cons_zero, List.set_cons_succ])
            ((with_reducible refine Ord.e_p (v := ?_) ?_ ?_ ?_ ?_); rotate_left; (· exact rfl); (· kernel_rfl); (· intro w2; go_simp; try with_reducible rfl))
            (try simp only [Act.put, List.setIfInBounds_toArray, List.set_cons_zero, List.set_cons_succ])
            ((with_reducible refine Ord.e_p (v := ?_) ?_ ?_ ?_ ?_); rotate_left; (· exact rfl); (· kernel_rfl); (· intro w2; go_simp; try with_reducible rfl))
            (try simp only [Act.put, List.setIfInBounds_toArray, List.set_cons_zero, List.set_cons_succ])
            ((with_reducible refine Ord.e_p (v := ?_) ?_ ?_ ?_ ?_); rotate_left; (· exact rfl); (· kernel_rfl); (· intro w2; go_simp; try with_reducible rfl))
            (try simp only [Act.put, List.setIfInBounds_toArray, List.set_cons_zero, List.set_cons_succ])
            ((with_reducible refine Ord.e_p (v := ?_) ?_ ?_ ?_ ?_); rotate_left; (· exact rfl); (· kernel_rfl); (· intro w2; go_simp; try with_reducible rfl))
            (try simp only [Act.put, List.setIfInBounds_toArray, List.set_cons_zero, List.set_cons_succ])
            ((with_reducible refine Ord.e_p (v := ?_) ?_ ?_ ?_ ?_); rotate_left; (· exact rfl); (· kernel_rfl); (· intro w2; go_simp; try with_reducible rfl))
            (try simp only [Act.put, List.setIfInBounds_toArray, List.set_cons_zero, List.set_cons_succ])
            ((with_reducible refine Ord.e_p (v := ?_) ?_ ?_ ?_ ?_); rotate_left; (· exact rfl); (· kernel_rfl); (· intro w2; go_simp; try with_reducible rfl))
            (try simp only [Act.put, List.setIfInBounds_toArray, List.set_cons_zero, List.set_cons_succ])
            ((with_reducible refine Ord.e_p (v := ?_) ?_ ?_ ?_ ?_); rotate_left; (· exact rfl); (· kernel_rfl); (· intro w2; go_simp; try with_reducible rfl))
            (try simp only [Act.put, List.setIfInBounds_toArray, List.set_cons_zero, List.set_cons_succ])
            ((with_reducible refine Ord.e_p (v := ?_) ?_ ?_ ?_ ?_); rotate_left; (· exact rfl); (· kernel_rfl); (· intro w2; go_simp; try with_reducible rfl))
            (try simp only [Act.put, List.setIfInBounds_toArray, List.set_cons_zero, List.set_cons_succ])
            refine Ord.e_nil ?_
            replace hk7 := hk7.up h11
            replace hb7 := bnx hb7 h11
            clear h8 h9 h10 h11 hb9 hb10 hb11 hown9 hown11 rx wz1 wz2 wz3 wz4 hd
            go_wp2
            go_roundw
            case rel => exact ⟨k + 1, A7, n7, c7, L', y + 1, no, od, by omega, by go_num, hb7, hk7, hln7, by rw [HL.out]; omega⟩
            case measure => simp [intOf]; omega
    · obtain rfl : k = n := by omega
      go_wp2_with fail
      go_fit (counts_any g Ak nk ck L y no od wr hbk)
      rintro e w2 ⟨rfl, hb2⟩
      have hk2 := hbk.up hb2
      go_wp2_with fail
      go_fit (openA_any g Ak nk ck L _ _ _ w2 hk2 (by omega))
      rintro e w3 ⟨A3, n3, c3, rfl, hown3, hb3⟩
      obtain rfl := retA_len (w := w3) hown3
      have hf := bnx (bnx hb hb2) hb3
      generalize L.length = s at *
      clear hbk hk2 hown3 hb hb2 hb3
      go_wp2
      go_ret
      exact ⟨by simp; omega, hf⟩

end Go.Proofs.Ytkelepnipndbbaa
