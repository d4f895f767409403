/-
  The document's Delta walked.
-/
import Derived.Test.YtplgcfjcdjlnbaaRec3
set_option linter.unusedSimpArgs false
set_option linter.unusedVariables false
namespace Go.Proofs.Ytplgcfjcdjlnbaa
open Go.RowKit NumLaw
attribute [local go_sem] Addr.add_mid

theorem mkL_le (l : List (Int × Int)) (k : Nat) : mkL (l.take k) < 2 ^ k := by
  have h1 := mkL_lt (l.take k)
  have h2 : 2 ^ (l.take k).length ≤ 2 ^ k := Nat.pow_le_pow_right (by omega) (by rw [List.length_take]; omega)
  omega
theorem mkL_take {V V' : List Int} {k : Nat} {x y : Int} (hx : V[k]? = some x) (hy : V'[k]? = some y) :
    mkL ((V.zip V').take (k + 1)) = mkL ((V.zip V').take k) + (if x = y then 0 else 2 ^ k) := by
  have h1 := chP_mkL ((V.zip V').take (k + 1)) 0
  have h2 := chP_mkL ((V.zip V').take k) 0
  rw [Nat.pow_zero, Nat.one_mul] at h1 h2
  rw [← h1, ← h2, chP_take hx hy]
  split
  · rw [List.append_nil, Nat.add_zero]
  · rw [mkS_snoc]
set_option maxRecDepth 10000 in
set_option maxHeartbeats 4000000 in
theorem qrecDelta_any (t : Nat) (V : List Int) (t' : Nat) (V' : List Int) (w : World) (ht : t < 4294967296) (hV : V.length = 12) (h32 : ∀ x ∈ V, in32 x) (ht' : t' < 4294967296) (hV' : V'.length = 12) (h32' : ∀ x ∈ V', in32 x) :
    Calls Try.prog 24 #[.agg (rcC t V).toArray, .agg (rcC t' V').toArray] w (RetB w (recD t V t' V')) := by
  obtain ⟨i0, hi⟩ := info_parts u8_info
  have Hi := Lib.hid hi
  have HV := Lib.hid hV
  have HV' := Lib.hid hV'
  have H32 := Lib.hid h32
  have H32' := Lib.hid h32'
  have hzl : (V.zip V').length = 12 := by rw [List.length_zip, hV, hV']; rfl
  have Hzl := Lib.hid hzl
  clear hi hV hV' h32 h32' hzl
  obtain ⟨a0, a1, hs, hb⟩ := al2 w (.cells (rcC t V).toArray 25) (.cells (rcC t' V').toArray 25)
  obtain ⟨L, hL⟩ : ∃ L, L = laterN t t' := ⟨_, rfl⟩
  have hLl := later_lt t t'
  rw [← hL] at hLl
  have hla := fun w => later_any t t' w ht ht'
  rw [← hL] at hla
  have HL := Lib.hid hL
  clear hL
  have c0 : ((w.alloc (.cells (rcC t V).toArray 25)).alloc (.cells (rcC t' V').toArray 25)).cell? ⟨w.heap.size, 0, none⟩ = some (.int .u32 (t : Int)) := RcB.time (V := V) a0
  have c1 : ((w.alloc (.cells (rcC t V).toArray 25)).alloc (.cells (rcC t' V').toArray 25)).cell? ⟨w.heap.size + 1, 0, none⟩ = some (.int .u32 (t' : Int)) := RcB.time (V := V') a1
  go_enter Try.func24, Try.ntmps24
  go_wp2_with fail
  generalize ((w.alloc (.cells (rcC t V).toArray 25)).alloc (.cells (rcC t' V').toArray 25)) = w1 at *
  replace a0 : RcB w1 w.heap.size t V := a0
  replace a1 : RcB w1 (w.heap.size + 1) t' V' := a1
  go_fit (hla w1)
  rintro e w2 ⟨rfl, rfl⟩
  go_wp2_with fail
  go_fit (qPut03_any L w1 (by omega))
  rintro e w2 ⟨A2, c2, n2, rfl, hown2, hb12⟩
  have hw2 := own_len hown2
  have hv2 : (varB L).length ≤ 10 := (varN_len 9 L).2
  have b0 : RcB w2 w.heap.size t V := (hb12.block _ (by omega)).trans a0
  have b1 : RcB w2 (w.heap.size + 1) t' V' := (hb12.block _ (by omega)).trans a1
  have hb2 := bnx hb hb12
  have hw2s := hb12.size
  have hownA := own_mono hown2 (base' := w.heap.size + 2) (by omega)
  clear hla c0 c1 a0 a1 hown2 hb12 hb hs hw2s w1
  go_wp2_with fail
  go_loopw [6, 7, 8] (fun m b i wr => ∃ k : Nat, k ≤ 12 ∧ i = .int .i64 k ∧ m = .int .u64 (mkL ((V.zip V').take k) : Int) ∧ b = .int .u64 ((2 ^ k : Nat) : Int) ∧ Below w2.heap.size w2 wr) (fun _ _ i _ => 12 - (intOf i).toNat)
  case atStart => exact ⟨0, by omega, rfl, by simp [mkL], rfl, Below.refl _ _⟩
  case round =>
    obtain ⟨k, hk, rfl, rfl, rfl, hbr⟩ := hrel
    by_cases hlt : k < 12
    · obtain ⟨x, hx⟩ : ∃ x, V[k]? = some x := ⟨V[k]'(by rw [HV.out]; exact hlt), List.getElem?_eq_getElem _⟩
      obtain ⟨y, hy⟩ : ∃ x, V'[k]? = some x := ⟨V'[k]'(by rw [HV'.out]; exact hlt), List.getElem?_eq_getElem _⟩
      have htk := mkL_take hx hy
      have hml := mkL_le (V.zip V') k
      have hml2 := mkL_le (V.zip V') (k + 1)
      have hp2 : 2 ^ (k + 1) = 2 ^ k + 2 ^ k := by rw [Nat.pow_succ]; omega
      have h12 : 2 ^ k ≤ 2 ^ 12 := Nat.pow_le_pow_right (by omega) (by omega)
      have h12 : 2 ^ k ≤ 4096 := h12
      obtain ⟨p, hp⟩ : ∃ p, p = 2 ^ k := ⟨_, rfl⟩
      obtain ⟨m, hm⟩ : ∃ m, m = mkL ((V.zip V').take k) := ⟨_, rfl⟩
      rw [← hp, ← hm] at htk
      rw [← hp, ← hm] at hml
      rw [← hp] at hp2 h12
      rw [← hp, ← hm]
      have Hx := Lib.hid hx
      have Hy := Lib.hid hy
      have Htk := Lib.hid htk
      have Hp2 := Lib.hid hp2
      have q0 := (hbr.cell (p := ⟨w.heap.size, 1 + k, none⟩) (blk_lt b0)).trans (b0.at_ hx)
      have q1 := (hbr.cell (p := ⟨w.heap.size + 1, 1 + k, none⟩) (blk_lt b1)).trans (b1.at_ hy)
      clear hx hy htk hp2 hp hm hml2
      go_wp2_with fail
      refine Ord.region_ (fun w' => Below w2.heap.size w2 w') false [] (by kernel_rfl) (by kernel_rfl) hbr.drew ?_
      replace hbr := hbr.drew
      generalize wr.drew = wd at *
      clear q0 q1
      ((with_reducible refine Ord.e_p (v := ?_) ?_ ?_ ?_ ?_); rotate_left; (· exact rfl); (· kernel_rfl); (· intro w2; go_simp; try with_reducible rfl))
      (try simp only [Act.put, List.setIfInBounds_toArray, List.set_cons_zero, List.set_cons_succ])
      ((with_reducible refine Ord.e_p (v := ?_) ?_ ?_ ?_ ?_); rotate_left; (· exact rfl); (· kernel_rfl); (· intro w2; go_simp; try with_reducible rfl))
      (try simp only [Act.put, List.setIfInBounds_toArray, List.set_cons_zero, List.set_cons_succ])
      ((with_reducible refine Ord.e_p (v := ?_) ?_ ?_ ?_ ?_); rotate_left; (· exact rfl); (· kernel_rfl); (· intro w2; go_simp; try with_reducible rfl))
      (try simp only [Act.put, List.setIfInBounds_toArray, List.set_cons_zero, List.set_cons_succ])
      refine Ord.e_loadS Try.underlying21 rfl (fun w' hS => ((show Below _ w2 w' from hS).cell (p := ⟨w.heap.size, 1 + k, none⟩) (blk_lt b0)).trans (b0.at_ Hx.out)) hbr rfl (by kernel_rfl) ?_
      (try simp only [Act.put, List.setIfInBounds_toArray, List.set_cons_zero, List.set_cons_succ])
      ((with_reducible refine Ord.e_p (v := ?_) ?_ ?_ ?_ ?_); rotate_left; (· exact rfl); (· kernel_rfl); (· intro w2; go_simp; try with_reducible rfl))
      (try simp only [Act.put, List.setIfInBounds_toArray, List.set_cons_zero, List.set_cons_succ])
      ((with_reducible refine Ord.e_p (v := ?_) ?_ ?_ ?_ ?_); rotate_left; (· exact rfl); (· kernel_rfl); (· intro w2; go_simp; try with_reducible rfl))
      (try simp only [Act.put, List.setIfInBounds_toArray, List.set_cons_zero, List.set_cons_succ])
      ((with_reducible refine Ord.e_p (v := ?_) ?_ ?_ ?_ ?_); rotate_left; (· exact rfl); (· kernel_rfl); (· intro w2; go_simp; try with_reducible rfl))
      (try simp only [Act.put, List.setIfInBounds_toArray, List.set_cons_zero, List.set_cons_succ])
      refine Ord.e_loadS Try.underlying21 rfl (fun w' hS => ((show Below _ w2 w' from hS).cell (p := ⟨w.heap.size + 1, 1 + k, none⟩) (blk_lt b1)).trans (b1.at_ Hy.out)) hbr rfl (by kernel_rfl) ?_
      (try simp only [Act.put, List.setIfInBounds_toArray, List.set_cons_zero, List.set_cons_succ])
      ((with_reducible refine Ord.e_p (v := ?_) ?_ ?_ ?_ ?_); rotate_left; (· exact rfl); (· kernel_rfl); (· intro w2; go_simp; try with_reducible rfl))
      (try simp only [Act.put, List.setIfInBounds_toArray, List.set_cons_zero, List.set_cons_succ])
      refine Ord.e_nil ?_
      by_cases hxy : x = y
      · subst hxy
        have e := Htk.out
        rw [if_pos rfl, Nat.add_zero] at e
        have He := Lib.hid e
        clear e
        go_wp2
        go_roundw
        case rel => exact ⟨k + 1, by omega, by go_num, by rw [He.out]; rfl, by rw [Hp2.out]; exact val_int (by omega), hbr⟩
        case measure => simp [intOf]; omega
      · have e := Htk.out
        rw [if_neg hxy] at e
        have He := Lib.hid e
        clear e
        go_wp2
        go_roundw
        case rel => exact ⟨k + 1, by omega, by go_num, by rw [He.out]; exact val_int (by omega), by rw [Hp2.out]; exact val_int (by omega), hbr⟩
        case measure => simp [intOf]; omega
    · obtain rfl : k = 12 := by omega
      have ht : (V.zip V').take 12 = V.zip V' := List.take_of_length_le (by rw [Hzl.out]; exact Nat.le_refl _)
      rw [ht]
      have b0' : RcB wr w.heap.size t V := (hbr.block _ (blk_lt b0)).trans b0
      have b1' : RcB wr (w.heap.size + 1) t' V' := (hbr.block _ (blk_lt b1)).trans b1
      have hown3 := own_up hownA hbr (Nat.le_refl _)
      have hb3 := bnx hb2 hbr
      have hml := mkL_lt (V.zip V')
      rw [Hzl.out] at hml
      have hml : mkL (V.zip V') < 4096 := hml
      obtain ⟨M, hM⟩ : ∃ M, M = mkL (V.zip V') := ⟨_, rfl⟩
      rw [← hM] at hml ⊢
      have HM := Lib.hid hM
      clear hM ht b0 b1 hownA hb2 hbr
      go_wp2_with fail
      go_fit (qPut03_any M wr (by omega))
      rintro e w4 ⟨A4, c4, n4, rfl, hown4, hb34⟩
      have hw4 := own_len hown4
      have hv4 : (varB M).length ≤ 10 := (varN_len 9 M).2
      have hownb := own_up hown3 hb34 (Nat.le_refl _)
      have b0 : RcB w4 w.heap.size t V := (hb34.block _ (blk_lt b0')).trans b0'
      have b1 : RcB w4 (w.heap.size + 1) t' V' := (hb34.block _ (blk_lt b1')).trans b1'
      have hb4 := bnx hb3 hb34
      have hg1 := blk_lt b1
      clear b0' b1' hown3 hb3 hb34
      go_wp2_with (at_builtin; refine stop_ ?_)
      refine go_ (wpList_appG (base := w.heap.size + 2) (n := n2) Try.underlying26 Hi.out rfl (by omega) hownb rfl (Rd.own hown4) rfl (bv_one _) (k := n2 + n4) rfl (bv_app _ _).symm (by unfold maxLen; omega) (by omega) (by omega) ?_)
      intro A5 c5 w5 hown5 hgr hob
      have hne5 : ∀ j, (Value.slice A2 n2 c2).ownBlock = some j → w.heap.size + 2 ≤ j := fun j hj => (own_blk hownb hj).1
      have d0 : RcB w5 w.heap.size t V := (hgr.block _ (blk_lt b0) (fun e => by have := hne5 _ e.symm; omega)).trans b0
      have d1 : RcB w5 (w.heap.size + 1) t' V' := (hgr.block _ (blk_lt b1) (fun e => by have := hne5 _ e.symm; omega)).trans b1
      have hb5 := Below.grown hb4 hgr hb4.size (fun j hj => by have := hne5 j hj; omega)
      clear hgr hob hne5 hownb hown4 b0 b1 hb4 hg1
      obtain ⟨n5, hn5⟩ : ∃ n, n = n2 + n4 := ⟨_, rfl⟩
      rw [← hn5] at hown5 ⊢
      have hn5' : n5 ≤ 20 := by omega
      clear hn5
      go_wp2_with fail
      go_loopw [5, 9] (fun s i wr => ∃ (k m : Nat) (A : Option Addr) (c : Nat), k ≤ 12 ∧ i = .int .i64 k ∧ s = .slice A m c ∧ m ≤ 20 + 10 * k ∧ RcB wr w.heap.size t V ∧ RcB wr (w.heap.size + 1) t' V' ∧ wr.ownsRow (w.heap.size + 2) 5 1 (.slice A m c) m (bv (varB L ++ varB M ++ ((chP 0 ((V.zip V').take k)).map (·.2)).flatMap fun d => varB (zigV d))) ∧ Below w.heap.size w wr) (fun _ i _ => 12 - (intOf i).toNat)
      case atStart => exact ⟨0, n5, A5, c5, by omega, rfl, rfl, by omega, d0, d1, by simpa [chP] using hown5, hb5⟩
      case round =>
        clear d0 d1 hown5 hb5 hn5' w5
        obtain ⟨k, m, A, c, hk, rfl, rfl, hm, b0, b1, hown, hb⟩ := hrel
        by_cases hlt : k < 12
        · obtain ⟨x, hx⟩ : ∃ x, V[k]? = some x := ⟨V[k]'(by rw [HV.out]; exact hlt), List.getElem?_eq_getElem _⟩
          obtain ⟨y, hy⟩ : ∃ x, V'[k]? = some x := ⟨V'[k]'(by rw [HV'.out]; exact hlt), List.getElem?_eq_getElem _⟩
          have hxi := H32.out x (List.mem_of_getElem? hx)
          have hyi := H32'.out y (List.mem_of_getElem? hy)
          unfold in32 at hxi hyi
          have hts := chP_take hx hy
          have Hx := Lib.hid hx
          have Hy := Lib.hid hy
          have Hts := Lib.hid hts
          clear hx hy hts
          go_wp2_with fail
          refine Ord.region_ (fun w' => Below wr.heap.size wr w') false [] (by kernel_rfl) (by kernel_rfl) ((Below.refl _ _).drew) ?_
          have f0 : Below wr.heap.size wr wr.drew := (Below.refl _ _).drew
          ((with_reducible refine Ord.e_p (v := ?_) ?_ ?_ ?_ ?_); rotate_left; (· exact rfl); (· kernel_rfl); (· intro w2; go_simp; try with_reducible rfl))
          (try simp only [Act.put, List.setIfInBounds_toArray, List.set_cons_zero, List.set_cons_succ])
          ((with_reducible refine Ord.e_p (v := ?_) ?_ ?_ ?_ ?_); rotate_left; (· exact rfl); (· kernel_rfl); (· intro w2; go_simp; try with_reducible rfl))
          (try simp only [Act.put, List.setIfInBounds_toArray, List.set_cons_zero, List.set_cons_succ])
          ((with_reducible refine Ord.e_p (v := ?_) ?_ ?_ ?_ ?_); rotate_left; (· exact rfl); (· kernel_rfl); (· intro w2; go_simp; try with_reducible rfl))
          (try simp only [Act.put, List.setIfInBounds_toArray, List.set_cons_zero, List.set_cons_succ])
          refine Ord.e_loadS Try.underlying21 rfl (fun w' hS => ((show Below _ wr w' from hS).cell (p := ⟨w.heap.size, 1 + k, none⟩) (blk_lt b0)).trans (b0.at_ Hx.out)) f0 rfl (by kernel_rfl) ?_
          (try simp only [Act.put, List.setIfInBounds_toArray, List.set_cons_zero, List.set_cons_succ])
          ((with_reducible refine Ord.e_p (v := ?_) ?_ ?_ ?_ ?_); rotate_left; (· exact rfl); (· kernel_rfl); (· intro w2; go_simp; try with_reducible rfl))
          (try simp only [Act.put, List.setIfInBounds_toArray, List.set_cons_zero, List.set_cons_succ])
          ((with_reducible refine Ord.e_p (v := ?_) ?_ ?_ ?_ ?_); rotate_left; (· exact rfl); (· kernel_rfl); (· intro w2; go_simp; try with_reducible rfl))
          (try simp only [Act.put, List.setIfInBounds_toArray, List.set_cons_zero, List.set_cons_succ])
          ((with_reducible refine Ord.e_p (v := ?_) ?_ ?_ ?_ ?_); rotate_left; (· exact rfl); (· kernel_rfl); (· intro w2; go_simp; try with_reducible rfl))
          (try simp only [Act.put, List.setIfInBounds_toArray, List.set_cons_zero, List.set_cons_succ])
          refine Ord.e_loadS Try.underlying21 rfl (fun w' hS => ((show Below _ wr w' from hS).cell (p := ⟨w.heap.size + 1, 1 + k, none⟩) (blk_lt b1)).trans (b1.at_ Hy.out)) f0 rfl (by kernel_rfl) ?_
          (try simp only [Act.put, List.setIfInBounds_toArray, List.set_cons_zero, List.set_cons_succ])
          ((with_reducible refine Ord.e_p (v := ?_) ?_ ?_ ?_ ?_); rotate_left; (· exact rfl); (· kernel_rfl); (· intro w2; go_simp; try with_reducible rfl))
          (try simp only [Act.put, List.setIfInBounds_toArray, List.set_cons_zero, List.set_cons_succ])
          refine Ord.e_nil ?_
          have d0 : RcB wr.drew w.heap.size t V := (f0.block _ (blk_lt b0)).trans b0
          have d1 : RcB wr.drew (w.heap.size + 1) t' V' := (f0.block _ (blk_lt b1)).trans b1
          replace hown := own_up hown f0 (Nat.le_refl _)
          replace hb := bnx hb f0
          generalize wr.drew = w1 at *
          clear b0 b1 f0 wr
          by_cases hxy : x = y
          · subst hxy
            have e := Hts.out
            rw [if_pos rfl, List.append_nil] at e
            have He := Lib.hid e
            clear e
            go_wp2
            go_roundw
            case rel => exact ⟨k + 1, m, A, c, by omega, by go_num, rfl, by omega, d0, d1, by rw [He.out]; exact hown, hb⟩
            case measure => simp [intOf]; omega
          · have e := Hts.out
            rw [if_neg hxy] at e
            have He := Lib.hid e
            have hwr : IntKind.i64.wrap (y - x) = y - x := by rw [IntKind.wrap_i64]; omega
            have hzl := zig_lt (n := y - x) (by omega)
            clear e
            go_wp2_with fail
            refine Ord.region_ (fun w' => RcB w' w.heap.size t V ∧ RcB w' (w.heap.size + 1) t' V') false [] (by kernel_rfl) (by kernel_rfl) ⟨d0, d1⟩ ?_
            have hS : RcB w1.drew w.heap.size t V ∧ RcB w1.drew (w.heap.size + 1) t' V' := ⟨d0, d1⟩
            have f0 : Below w1.heap.size w1 w1.drew := (Below.refl _ _).drew
            generalize w1.drew = w2 at *
            ((with_reducible refine Ord.e_p (v := ?_) ?_ ?_ ?_ ?_); rotate_left; (· exact rfl); (· kernel_rfl); (· intro w2; go_simp; try with_reducible rfl))
            (try simp only [Act.put, List.setIfInBounds_toArray, List.set_cons_zero, List.set_cons_succ])
            ((with_reducible refine Ord.e_p (v := ?_) ?_ ?_ ?_ ?_); rotate_left; (· exact rfl); (· kernel_rfl); (· intro w2; go_simp; try with_reducible rfl))
            (try simp only [Act.put, List.setIfInBounds_toArray, List.set_cons_zero, List.set_cons_succ])
            ((with_reducible refine Ord.e_p (v := ?_) ?_ ?_ ?_ ?_); rotate_left; (· exact rfl); (· kernel_rfl); (· intro w2; go_simp; try with_reducible rfl))
            (try simp only [Act.put, List.setIfInBounds_toArray, List.set_cons_zero, List.set_cons_succ])
            ((with_reducible refine Ord.e_p (v := ?_) ?_ ?_ ?_ ?_); rotate_left; (· exact rfl); (· kernel_rfl); (· intro w2; go_simp; try with_reducible rfl))
            (try simp only [Act.put, List.setIfInBounds_toArray, List.set_cons_zero, List.set_cons_succ])
            refine Ord.e_loadS Try.underlying21 rfl (fun w' hS => (show _ ∧ RcB w' (w.heap.size + 1) t' V' from hS).2.at_ Hy.out) hS rfl (by kernel_rfl) ?_
            (try simp only [Act.put, List.setIfInBounds_toArray, List.set_cons_zero, List.set_cons_succ])
            ((with_reducible refine Ord.e_p (v := ?_) ?_ ?_ ?_ ?_); rotate_left; (· exact rfl); (· kernel_rfl); (· intro w2; go_simp; try with_reducible rfl))
            (try simp only [Act.put, List.setIfInBounds_toArray, List.set_cons_zero, List.set_cons_succ])
            ((with_reducible refine Ord.e_p (v := ?_) ?_ ?_ ?_ ?_); rotate_left; (· exact rfl); (· kernel_rfl); (· intro w2; go_simp; try with_reducible rfl))
            (try simp only [Act.put, List.setIfInBounds_toArray, List.set_cons_zero, List.set_cons_succ])
            ((with_reducible refine Ord.e_p (v := ?_) ?_ ?_ ?_ ?_); rotate_left; (· exact rfl); (· kernel_rfl); (· intro w2; go_simp; try with_reducible rfl))
            (try simp only [Act.put, List.setIfInBounds_toArray, List.set_cons_zero, List.set_cons_succ])
            ((with_reducible refine Ord.e_p (v := ?_) ?_ ?_ ?_ ?_); rotate_left; (· exact rfl); (· kernel_rfl); (· intro w2; go_simp; try with_reducible rfl))
            (try simp only [Act.put, List.setIfInBounds_toArray, List.set_cons_zero, List.set_cons_succ])
            refine Ord.e_loadS Try.underlying21 rfl (fun w' hS => (show RcB w' w.heap.size t V ∧ _ from hS).1.at_ Hx.out) hS rfl (by kernel_rfl) ?_
            (try simp only [Act.put, List.setIfInBounds_toArray, List.set_cons_zero, List.set_cons_succ])
            ((with_reducible refine Ord.e_p (v := ?_) ?_ ?_ ?_ ?_); rotate_left; (· exact rfl); (· kernel_rfl); (· intro w2; go_simp; try with_reducible rfl))
            (try simp only [Act.put, List.setIfInBounds_toArray, List.set_cons_zero, List.set_cons_succ])
            ((with_reducible refine Ord.e_p (v := ?_) ?_ ?_ ?_ ?_); rotate_left; (· exact rfl); (· kernel_rfl); (· intro w2; go_simp; try with_reducible rfl))
            (try simp only [Act.put, List.setIfInBounds_toArray, List.set_cons_zero, List.set_cons_succ])
            refine Ord.e_x rfl (by kernel_rfl) ?_
            go_wp2_with fail
            go_fit (qZig_any (y - x) w2 (by omega))
            rintro e w3 ⟨rfl, rfl⟩
            go_wp2_with fail
            refine Ord.Seg.go hS (fun h => by cases h) ?_
            (try simp only [Act.put, List.setIfInBounds_toArray, List.set_cons_zero, List.set_cons_succ])
            refine Ord.e_x rfl (by kernel_rfl) ?_
            go_wp2_with fail
            go_fit (qPut03_any (zigV (y - x)) w2 hzl)
            rintro e w4 ⟨A4, c4, n4, rfl, hown4, hb34⟩
            have hw4 := own_len hown4
            have hv4 : (varB (zigV (y - x))).length ≤ 10 := (varN_len 9 (zigV (y - x))).2
            have f4 := f0.trans (hb34.mono f0.size)
            have hS4 : RcB w4 w.heap.size t V ∧ RcB w4 (w.heap.size + 1) t' V' := ⟨(hb34.block _ (blk_lt hS.1)).trans hS.1, (hb34.block _ (blk_lt hS.2)).trans hS.2⟩
            go_wp2_with fail
            refine Ord.Seg.go hS4 (fun h => by cases h) ?_
            (try simp only [Act.put, List.setIfInBounds_toArray, List.set_cons_zero, List.set_cons_succ])
            have hownb := own_up hown f4 (Nat.le_refl _)
            have hbb := bnx hb f4
            have hg1 := blk_lt hS4.2
            clear hown hb f0 hS f4
            refine Ord.e_x rfl (by kernel_rfl) ?_
            refine wpList_appG (base := w.heap.size + 2) (n := m) Try.underlying26 Hi.out rfl (by omega) hownb rfl (Rd.own hown4) rfl (bv_one _) (k := m + n4) rfl (bv_app _ _).symm (by unfold maxLen; omega) (by omega) (by omega) ?_
            intro A5 c5 w5 hown5 hgr hob
            have hne5 : ∀ j, (Value.slice A m c).ownBlock = some j → w.heap.size + 2 ≤ j := fun j hj => (own_blk hownb hj).1
            have hS5 : RcB w5 w.heap.size t V ∧ RcB w5 (w.heap.size + 1) t' V' := ⟨(hgr.block _ (blk_lt hS4.1) (fun e => by have := hne5 _ e.symm; omega)).trans hS4.1, (hgr.block _ (blk_lt hS4.2) (fun e => by have := hne5 _ e.symm; omega)).trans hS4.2⟩
            have hb5 := Below.grown hbb hgr hbb.size (fun j hj => by have := hne5 j hj; omega)
            clear hgr hob hne5 hownb hown4 hbb
            go_wp2_with fail
            refine Ord.Seg.go hS5 (fun h => by cases h) ?_
            (try simp only [Act.put, List.setIfInBounds_toArray, List.set_cons_zero, List.set_cons_succ])
            ((with_reducible refine Ord.e_p (v := ?_) ?_ ?_ ?_ ?_); rotate_left; (· exact rfl); (· kernel_rfl); (· intro w2; go_simp; try with_reducible rfl))
            (try simp only [Act.put, List.setIfInBounds_toArray, List.set_cons_zero, List.set_cons_succ])
            refine Ord.e_nil ?_
            go_wp2
            go_roundw
            case rel => exact ⟨k + 1, m + n4, A5, c5, by omega, by go_num, rfl, by omega, hS5.1, hS5.2, by rw [He.out, List.map_append, List.flatMap_append, ← List.append_assoc]; simpa using hown5, hb5⟩
            case measure => simp [intOf]; omega
        · obtain rfl : k = 12 := by omega
          have ht : (V.zip V').take 12 = V.zip V' := List.take_of_length_le (by rw [Hzl.out]; exact Nat.le_refl _)
          rw [ht, chP_snd, List.append_assoc, HL.out, HM.out] at hown
          replace hown : wr.ownsRow (w.heap.size + 2) 5 1 (.slice A m c) m (bv (recD t V t' V')) := hown
          go_wp2
          go_ret
          exact ⟨A, c, m, rfl, own_mono hown (by omega), hb⟩

end Go.Proofs.Ytplgcfjcdjlnbaa
