/-
  rec.Delta walked (printed by gen_rec3.py).
-/
import Derived.Test.YtplgcfjcdjlnbaaRec2
import Derived.Test.YtplgcfjcdjlnbaaOrders
set_option linter.unusedSimpArgs false
set_option linter.unusedVariables false
namespace Go.Proofs.Ytplgcfjcdjlnbaa
open Go.RowKit Go.Shelf NumLaw
attribute [local go_sem] Oper.semAt_some Addr.add_mid

/-- The mask of changes. -/
def mkS : List (Nat × Int) → Nat
  | [] => 0
  | y :: p => 2 ^ y.1 + mkS p
theorem mkS_snoc : ∀ (p : List (Nat × Int)) (x : Nat × Int), mkS (p ++ [x]) = mkS p + 2 ^ x.1
  | [], x => by simp [mkS]
  | y :: p, x => by
    show 2 ^ y.1 + mkS (p ++ [x]) = 2 ^ y.1 + mkS p + 2 ^ x.1
    rw [mkS_snoc p x]; omega
theorem chP_mk : ∀ (l : List (Int × Int)) (i : Nat) (pre : List (Nat × Int)) (x : Nat × Int), pre ++ [x] <+: chP i l → mkS pre + 2 ^ i ≤ 2 ^ x.1 ∧ i ≤ x.1 ∧ x.1 < i + l.length
  | [], i, pre, x, h => by
    have := List.prefix_nil.1 h
    simp at this
  | p :: l, i, pre, x, h => by
    have hp : 2 ^ (i + 1) = 2 ^ i + 2 ^ i := by rw [Nat.pow_succ]; omega
    have hpos : 0 < 2 ^ i := Nat.pow_pos (by omega)
    have e : chP i (p :: l) = if p.1 = p.2 then chP (i + 1) l else (i, p.2 - p.1) :: chP (i + 1) l := rfl
    rw [e] at h
    rw [List.length_cons]
    split at h
    · obtain ⟨a, b, c⟩ := chP_mk l (i + 1) pre x h
      exact ⟨by omega, by omega, by omega⟩
    · cases pre with
      | nil =>
        obtain ⟨r, hr⟩ := h
        injection hr with h1 h2
        subst h1
        exact ⟨by simp [mkS], Nat.le_refl _, by simp only; omega⟩
      | cons y pre =>
        obtain ⟨r, hr⟩ := h
        injection hr with h1 h2
        obtain ⟨a, b, c⟩ := chP_mk l (i + 1) pre x ⟨r, h2⟩
        subst h1
        exact ⟨by show 2 ^ i + mkS pre + 2 ^ i ≤ _; omega, by omega, by omega⟩
theorem chP_mkL : ∀ (l : List (Int × Int)) (i : Nat), mkS (chP i l) = 2 ^ i * mkL l
  | [], i => by simp [chP, mkS, mkL]
  | p :: l, i => by
    have ih := chP_mkL l (i + 1)
    show mkS (if p.1 = p.2 then chP (i + 1) l else (i, p.2 - p.1) :: chP (i + 1) l) = 2 ^ i * ((if p.1 = p.2 then 0 else 1) + 2 * mkL l)
    split
    · rw [ih, Nat.pow_succ, Nat.zero_add, Nat.mul_assoc]
    · show 2 ^ i + mkS (chP (i + 1) l) = _
      rw [ih, Nat.pow_succ, Nat.mul_add, Nat.mul_one, Nat.mul_assoc]
theorem later_wrap {a b : Nat} (ha : a < 4294967296) (hb : b < 4294967296) : IntKind.u32.wrap ((b : Int) - (a : Int)) = (laterN a b : Int) := by
  rw [IntKind.wrap_u32]
  unfold laterN
  omega
theorem or_bit {m i : Nat} (hm : m < 2 ^ i) (hi : i < 12) : bits .or .u64 (m : Int) (2 ^ i) = ((m + 2 ^ i : Nat) : Int) := by
  have h12 : 2 ^ i ≤ 2 ^ 12 := Nat.pow_le_pow_right (by omega) (by omega)
  rw [show ((2 : Int) ^ i) = ((2 ^ i : Nat) : Int) by simp, u64_or_nat _ _ (by omega) (by omega)]
  have := Nat.two_pow_add_eq_or_of_lt hm 1
  rw [Nat.mul_one] at this
  rw [Nat.or_comm, ← this, Nat.add_comm]
/-- What holds ahead of a round of the first loop: the mask of the changes. -/
def D1 (g t t' : Nat) (V V' : List Int) (w : World) (pre : List (Nat × Int)) (W : World) : Prop :=
  RcB W g t V ∧ RcB W (g + 1) t' V' ∧ W.heap[g + 2]? = some (.cells #[.int .u64 (mkS pre : Int)] 107) ∧ Below g w W
/-- Of the second one: the bytes; M: where its boxes lie. -/
def D2 (g go bs M q : Nat) (w : World) (X : List UInt8) (pre : List (Nat × Int)) (W : World) : Prop :=
  Below g w W ∧ W.heap[q]? = some (.deferred (some [])) ∧ ∃ A n c, W.heap[go]? = some (.cells #[.slice A n c] 26) ∧ W.ownsRow bs 5 1 (.slice A n c) n (bv (X ++ (pre.map (·.2)).flatMap fun d => varB (zigV d))) ∧ (∀ k, (Value.slice A n c).ownBlock = some k → k ≠ go ∧ k ≠ q ∧ (k < M ∨ M + 4 ≤ k)) ∧ n ≤ 20 + 10 * pre.length
theorem chL_rng : ∀ (l : List (Int × Int)), (∀ p ∈ l, in32 p.1 ∧ in32 p.2) → ∀ d ∈ chL l, -9223372036854775808 ≤ d ∧ d ≤ 9223372036854775807
  | [], _, d, h => by simp [chL] at h
  | p :: l, hl, d, h => by
    have ih := chL_rng l (fun q hq => hl q (List.mem_cons_of_mem _ hq))
    obtain ⟨h1, h2⟩ := hl p List.mem_cons_self
    unfold in32 at h1 h2
    have e : chL (p :: l) = if p.1 = p.2 then chL l else (p.2 - p.1) :: chL l := rfl
    rw [e] at h
    split at h
    · exact ih d h
    · rcases List.mem_cons.1 h with rfl | h
      · omega
      · exact ih d h
theorem chP_len : ∀ (l : List (Int × Int)) (i : Nat), (chP i l).length ≤ l.length
  | [], i => Nat.le_refl _
  | p :: l, i => by
    have ih := chP_len l (i + 1)
    show (if p.1 = p.2 then chP (i + 1) l else (i, p.2 - p.1) :: chP (i + 1) l).length ≤ _
    split
    · simp; omega
    · simp; omega

set_option maxRecDepth 10000 in
set_option maxHeartbeats 8000000 in
theorem recDelta_any (t : Nat) (V : List Int) (t' : Nat) (V' : List Int) (w : World) (ht : t < 4294967296) (hV : V.length = 12) (h32 : ∀ x ∈ V, in32 x) (ht' : t' < 4294967296) (hV' : V'.length = 12) (h32' : ∀ x ∈ V', in32 x) :
    Calls Try.prog 23 #[.agg (rcC t V).toArray, .agg (rcC t' V').toArray] w (RetB w (recD t V t' V')) := by
  obtain ⟨i0, hi⟩ := info_parts u8_info
  have Hi := Lib.hid hi
  have HV := Lib.hid hV
  have HV' := Lib.hid hV'
  have H32 := Lib.hid h32
  have H32' := Lib.hid h32'
  have hzl : (V.zip V').length = 12 := by rw [List.length_zip, hV, hV']; rfl
  have Hzl := Lib.hid hzl
  clear hi hV hV' h32 h32' hzl
  obtain ⟨a0, a1, a2, hs, hb⟩ := al3 w (.cells (rcC t V).toArray 25) (.cells (rcC t' V').toArray 25) (.cells #[.int .u64 0] 107)
  refine (callsIn_wide (n := 9)).1 ?_
  have hro : Fence.wide.round = none := rfl
  refine callsIn_of_wp_marks Try.func23 rfl trivial ?_ hro
  simp only [Try.ntmps23, List.size_toArray, List.length_cons, List.length_nil, Nat.reduceAdd, Nat.reduceSub, Array.replicate_succ, Array.replicate_zero, List.push_toArray, List.append_toArray, List.nil_append, List.cons_append]
  gi_wp2_with (with_reducible refine stop_loadI 25 ?_)
  rw [show w.heap.size + 1 + 1 = w.heap.size + 2 by omega]
  generalize (((w.alloc (.cells (rcC t V).toArray 25)).alloc (.cells (rcC t' V').toArray 25)).alloc (.cells #[.int .u64 0] 107)) = w1 at *
  replace a0 : RcB w1 w.heap.size t V := a0
  replace a1 : RcB w1 (w.heap.size + 1) t' V' := a1
  refine go_ (wideList_load_mid w.heap.size 0 rfl _ _ a0.all Try.underlying25 rfl (by rw [rcC_size t V HV.out]; kernel_rfl) ?_)
  gi_wp2_with (with_reducible refine stop_loadI 25 ?_)
  refine go_ (wideList_load_mid (w.heap.size + 1) 0 rfl _ _ a1.all Try.underlying25 rfl (by rw [rcC_size t' V' HV'.out]; kernel_rfl) ?_)
  gi_wp2_with fail
  refine ⟨trivial, (callsIn_wide.2 (changed_any (rcC t V) (rcC t' V') w1)).mono ?_⟩
  rintro x w2 ⟨rfl, rfl⟩
  obtain ⟨d0, d1, hs2, hb2⟩ := al2 w1 (.cells (rcC t V).toArray 25) (.cells (rcC t' V').toArray 25)
  rw [hs] at d0 d1 hs2 hb2 ⊢
  rw [show w.heap.size + 3 + 1 = w.heap.size + 4 by omega] at d1 ⊢
  rw [show w.heap.size + 3 + 2 = w.heap.size + 5 by omega] at hs2
  generalize ((w1.alloc (.cells (rcC t V).toArray 25)).alloc (.cells (rcC t' V').toArray 25)) = w2 at *
  replace d0 : RcB w2 (w.heap.size + 3) t V := d0
  replace d1 : RcB w2 (w.heap.size + 4) t' V' := d1
  have b0 : RcB w2 w.heap.size t V := (hb2.block _ (by omega)).trans a0
  have b1 : RcB w2 (w.heap.size + 1) t' V' := (hb2.block _ (by omega)).trans a1
  have b2 := (hb2.block _ (show w.heap.size + 2 < w.heap.size + 3 by omega)).trans a2
  replace hb := hb.trans (hb2.mono (by omega))
  clear a0 a1 a2 hb2 hs w1
  gi_wp2_with fail
  refine rangeFunc_R rfl (enters_of Try.func106 (by kernel_rfl) rfl) (changed_seq (w.heap.size + 3) (w.heap.size + 4) t t' V V' _ HV.out HV'.out H32.out H32'.out)
    (fun W hW hsz => ⟨hW.keep d0 (fun hk => hk), hW.keep d1 (fun hk => hk)⟩)
    (fun x vs W hE => by rw [show vs = _ from hE]; rfl) (fun x vs A' B' hE hab => hE) (fun k hk => hk.elim)
    (fun k hk => by rw [hs2]; omega)
    (D1 w.heap.size t t' V V' w) (fun _ _ _ => False) ?hI (fun _ _ _ _ h _ => h) ?h0
    (fun vs => { tmps := #[.agg (rcC t V).toArray, .agg (rcC t' V').toArray, .pointer (some ⟨w.heap.size, 0, none⟩), .pointer (some ⟨w.heap.size + 1, 0, none⟩), .slice none 0 0, .pointer (some ⟨w.heap.size + 2, 0, none⟩), vs.getD 0 undef, undef, undef, undef, .agg (rcC t V).toArray, .agg (rcC t' V').toArray, .func (.func 106) #[] #[.pointer (some ⟨w.heap.size + 3, 0, none⟩), .pointer (some ⟨w.heap.size + 4, 0, none⟩)], vs.getD 0 undef, vs.getD 1 undef, undef, undef, undef, undef, undef, undef, undef, undef, undef, undef, undef, undef, undef, undef, undef, undef, undef, undef, undef, undef, undef, undef, undef, undef, undef], defers := [] }) ?assign ?body ?done (fun _ _ _ _ h => h.elim)
  case hI =>
    rintro pre A' B' ⟨i1, i2, i3, i4⟩ hab
    have hn : ∀ k, (False ∨ k = w2.heap.size ∨ k = w2.heap.size + 1) → w.heap.size + 5 ≤ k ∧ k ≤ w.heap.size + 6 := fun k hk => hk.elim (fun h => h.elim) (fun hk => by rw [hs2] at hk; omega)
    have hA := blk_lt i3
    exact ⟨hab.keep i1 (fun hk => by have := hn _ hk; omega), hab.keep i2 (fun hk => by have := hn _ hk; omega), hab.keep i3 (fun hk => by have := hn _ hk; omega), below_awG i4 hab (fun k hk => by have := hn k hk; omega) (by omega)⟩
  case h0 => exact ⟨b0, b1, b2, hb⟩
  case assign =>
    rintro ll x vs W K hE hK
    obtain rfl : vs = _ := hE
    gi_wp2
    exact hK
  case body =>
    rintro pre x vs W ⟨i1, i2, i3, i4⟩ hE hpre hge
    obtain rfl : vs = _ := hE
    rw [hs2] at hge
    obtain ⟨m1, m2, m3⟩ := chP_mk _ _ _ _ hpre
    obtain ⟨xi, xd⟩ := x
    simp only at m1 m2 m3
    rw [Hzl.out] at m3
    have hsn := mkS_snoc pre (xi, xd)
    simp only at hsn
    have hor := or_bit (m := mkS pre) (i := xi) (by omega) (by omega)
    rw [← hsn] at hor
    have hwi : IntKind.u64.wrap ((2 : Int) ^ xi) = 2 ^ xi := by
      have h12 : 2 ^ xi ≤ 2 ^ 12 := Nat.pow_le_pow_right (by omega) (by omega)
      rw [show ((2 : Int) ^ xi) = ((2 ^ xi : Nat) : Int) by simp]
      exact IntWalk.u64_in _ (by omega)
    have Hpre := Lib.hid hpre
    clear hpre m1 m2 hsn
    gi_wp2_with fail
    refine Ord.regionIn_ (fun _ => True) true [15] (by kernel_rfl) (by kernel_rfl) (by kernel_rfl) (fun ⟨_, _, h⟩ => h) trivial ?_
    have j1 : RcB W.drew w.heap.size t V := i1
    have j2 : RcB W.drew (w.heap.size + 1) t' V' := i2
    have j3 : W.drew.heap[w.heap.size + 2]? = _ := i3
    have j4 := i4.drew
    have hKW : Aw (fun _ => False) W W.drew := (Aw.refl _ W).drew
    generalize W.drew = W1 at *
    have c2 := blk_cell (i := 0) (v := .int .u64 (mkS pre : Int)) j3 rfl
    refine Ord.e_load Try.underlying107 rfl c2 rfl (by rfl) (by kernel_rfl) ?_
    (try simp only [Act.put, List.setIfInBounds_toArray, List.set_cons_zero, List.set_cons_succ])
    ((with_reducible refine Ord.e_p (v := ?_) ?_ ?_ ?_ ?_); rotate_left; (· exact rfl); (· kernel_rfl); (· intro w2; go_simp; try with_reducible rfl))
    (try simp only [Act.put, List.setIfInBounds_toArray, List.set_cons_zero, List.set_cons_succ])
    ((with_reducible refine Ord.e_p (v := ?_) ?_ ?_ ?_ ?_); rotate_left; (· exact rfl); (· kernel_rfl); (· intro w2; go_simp; try with_reducible rfl))
    (try simp only [Act.put, List.setIfInBounds_toArray, List.set_cons_zero, List.set_cons_succ])
    ((with_reducible refine Ord.e_p (v := ?_) ?_ ?_ ?_ ?_); rotate_left; (· exact rfl); (· kernel_rfl); (· intro w2; go_simp; try with_reducible rfl))
    (try simp only [Act.put, List.setIfInBounds_toArray, List.set_cons_zero, List.set_cons_succ])
    have s2 := blk_free (i := 0) j3
    refine Ord.e_x rfl (by kernel_rfl) ?_
    go_wp2
    refine Ord.Seg.go trivial (fun h => by cases h) ?_
    (try simp only [Act.put, List.setIfInBounds_toArray, List.set_cons_zero, List.set_cons_succ])
    refine Ord.e_nil ?_
    have hA5 : Aw (fun k => k = w.heap.size + 2) W1 (W1.setCell ⟨w.heap.size + 2, 0, none⟩ (.int .u64 (mkS (pre ++ [(xi, xd)]) : Int))) := (Aw.refl _ _).set _ rfl
    have m1 := hA5.keep j1 (by omega)
    have m2 := hA5.keep j2 (by omega)
    have m4 := blk_set (i := 0) j3 (.int .u64 (mkS (pre ++ [(xi, xd)]) : Int))
    have m5 := below_awG j4 hA5 (fun k hk => by omega) (by have := blk_lt j3; omega)
    refine ⟨((hKW.mono (U' := fun k => k = w.heap.size + 2) (fun _ h => h.elim)).trans hA5).keeps fun k hk hu => ?_, m1, m2, m4, m5⟩
    rcases hk with (rfl | rfl) | rfl | rfl <;> (try rw [hs2] at hu) <;> omega
  case done =>
    rintro W ⟨i1, i2, i3, i4⟩ hd
    rw [chP_mkL, Nat.pow_zero, Nat.one_mul] at i3
    gi_wp2_with fail
    have hwm := blk_lt hd
    rw [hs2] at hwm
    obtain ⟨L, hL⟩ : ∃ L, L = laterN t t' := ⟨_, rfl⟩
    have hLl := later_lt t t'
    rw [← hL] at hLl
    have hsub : IntKind.u32.wrap ((t' : Int) - (t : Int)) = (L : Int) := by rw [hL]; exact later_wrap ht ht'
    obtain ⟨M, hM⟩ : ∃ M, M = mkL (V.zip V') := ⟨_, rfl⟩
    have hMl := mkL_lt (V.zip V')
    rw [Hzl.out] at hMl
    have hMl : mkL (V.zip V') < 4096 := hMl
    rw [← hM] at hMl i3
    have HL := Lib.hid hL
    have HM := Lib.hid hM
    have hw2g : w.heap.size ≤ w2.heap.size := by omega
    clear hL hM b0 b1 b2 d0 d1 hb hs2
    refine OrdY.region_m [6, 8, 9, 10] [[0, 1, 2, 3, 4, 5, 6, 7, 8, 9, 10, 11], [0, 1, 2, 3, 4, 5, 6, 7, 8, 10, 9, 11], [0, 1, 2, 3, 4, 5, 6, 7, 10, 8, 9, 11], [10, 0, 1, 2, 3, 4, 5, 6, 7, 8, 9, 11]] (fun w' => Below W.heap.size W w') false [] (by kernel_rfl) (by kernel_rfl) ((Below.refl _ _).drew) ?_
    have hS : Below W.heap.size W W.drew := (Below.refl _ _).drew
    generalize W.drew = x0 at *
    have c1 := i2.time
    have c0 := i1.time
    have c2 := blk_cell (i := 0) (v := .int .u64 (M : Int)) i3 rfl
    have hg2 := blk_lt i3
    intro LL hLL
    simp only [List.mem_cons, List.not_mem_nil, or_false] at hLL
    rcases hLL with rfl | rfl | rfl | rfl
    · simp only [Ord.lst, List.filterMap_cons, List.filterMap_nil, List.getElem?_toArray, List.getElem?_cons_succ, List.getElem?_cons_zero]
      ((with_reducible refine OrdY.e_p (v := ?_) ?_ ?_ ?_ ?_); rotate_left; (· exact rfl); (· kernel_rfl); (· intro w2; go_simp; try with_reducible rfl))
      (try simp only [Act.put, List.setIfInBounds_toArray, List.set_cons_zero, List.set_cons_succ])
      refine OrdY.e_loadS Try.underlying22 rfl (fun w' hS => ((show Below _ W w' from hS).cell (p := ⟨w.heap.size + 1, 0, none⟩) (by show w.heap.size + 1 < _; omega)).trans c1) hS rfl (by kernel_rfl) ?_
      (try simp only [Act.put, List.setIfInBounds_toArray, List.set_cons_zero, List.set_cons_succ])
      ((with_reducible refine OrdY.e_p (v := ?_) ?_ ?_ ?_ ?_); rotate_left; (· exact rfl); (· kernel_rfl); (· intro w2; go_simp; try with_reducible rfl))
      (try simp only [Act.put, List.setIfInBounds_toArray, List.set_cons_zero, List.set_cons_succ])
      refine OrdY.e_loadS Try.underlying22 rfl (fun w' hS => ((show Below _ W w' from hS).cell (p := ⟨w.heap.size, 0, none⟩) (by show w.heap.size < _; omega)).trans c0) hS rfl (by kernel_rfl) ?_
      (try simp only [Act.put, List.setIfInBounds_toArray, List.set_cons_zero, List.set_cons_succ])
      ((with_reducible refine OrdY.e_p (v := ?_) ?_ ?_ ?_ ?_); rotate_left; (· exact rfl); (· kernel_rfl); (· intro w2; go_simp; try with_reducible rfl))
      (try simp only [Act.put, List.setIfInBounds_toArray, List.set_cons_zero, List.set_cons_succ])
      ((with_reducible refine OrdY.e_p (v := ?_) ?_ ?_ ?_ ?_); rotate_left; (· exact rfl); (· kernel_rfl); (· intro w2; go_simp; try with_reducible rfl))
      (try simp only [Act.put, List.setIfInBounds_toArray, List.set_cons_zero, List.set_cons_succ])
      refine OrdY.e_x rfl (by kernel_rfl) ?_
      go_wp2_with fail
      go_fit (varyPut_any L x0 (by omega))
      rintro e x1 ⟨A25, c25, n25, rfl, own25, hbx⟩
      have hw25 := own_len own25
      have hv25 : (varB L).length ≤ 10 := (varN_len 9 L).2
      replace own25 := own_mono own25 (base' := W.heap.size) hS.size
      replace hS := hS.trans (hbx.mono hS.size)
      clear hbx
      go_wp2_with fail
      refine OrdY.Seg.go hS (fun h => by cases h) ?_
      (try simp only [Act.put, List.setIfInBounds_toArray, List.set_cons_zero, List.set_cons_succ])
      refine OrdY.e_loadS Try.underlying107 rfl (fun w' hS => ((show Below _ W w' from hS).cell (p := ⟨w.heap.size + 2, 0, none⟩) hg2).trans c2) hS rfl (by kernel_rfl) ?_
      (try simp only [Act.put, List.setIfInBounds_toArray, List.set_cons_zero, List.set_cons_succ])
      refine OrdY.e_x rfl (by kernel_rfl) ?_
      go_wp2_with fail
      go_fit (varyPut_any M x1 (by omega))
      rintro e x2 ⟨A27, c27, n27, rfl, own27, hbx⟩
      have hw27 := own_len own27
      have hv27 : (varB M).length ≤ 10 := (varN_len 9 M).2
      replace own27 := own_mono own27 (base' := W.heap.size) hS.size
      replace own25 := own_up own25 hbx (Nat.le_refl _)
      replace hS := hS.trans (hbx.mono hS.size)
      clear hbx
      go_wp2_with fail
      refine OrdY.Seg.go hS (fun h => by cases h) ?_
      (try simp only [Act.put, List.setIfInBounds_toArray, List.set_cons_zero, List.set_cons_succ])
      refine OrdY.e_x rfl (by kernel_rfl) ?_
      refine wpList_appG (base := W.heap.size) (n := n25) Try.underlying26 Hi.out rfl (by omega) own25 rfl (Rd.own own27) rfl (bv_one _) (k := n25 + n27) rfl (bv_app _ _).symm (by unfold maxLen; omega) (by omega) hS.size ?_
      intro A28 c28 x3 own28 hgr hob
      obtain ⟨n28, hn28⟩ : ∃ m, m = n25 + n27 := ⟨_, rfl⟩
      rw [← hn28] at own28 ⊢
      have HN28 := Lib.hid hn28
      clear hn28
      replace hS := Below.grown hS hgr hS.size (fun j hj => (own_blk own25 hj).1)
      clear hgr hob own25 own27
      go_wp2_with fail
      refine OrdY.Seg.go hS (fun h => by cases h) ?_
      (try simp only [Act.put, List.setIfInBounds_toArray, List.set_cons_zero, List.set_cons_succ])
      refine OrdY.e_x rfl (by kernel_rfl) ?_
      go_wp2
      have hbx : Below x3.heap.size x3 (x3.alloc (.cells #[.slice none 0 0] 26)) := (Below.refl _ _).alloc (Nat.le_refl _) _
      have hne28 : ∀ k, (Value.slice A28 n28 c28).ownBlock = some k → k ≠ x3.heap.size := fun k hk => by have := (own_blk own28 hk).2; omega
      replace own28 := own_up own28 hbx (Nat.le_refl _)
      have hgo := heap_alloc_new x3 (.cells #[.slice none 0 0] 26)
      have hgS : W.heap.size ≤ x3.heap.size := hS.size
      replace hS := hS.trans (hbx.mono hS.size)
      clear hbx
      refine OrdY.Seg.go hS (fun h => by cases h) ?_
      (try simp only [Act.put, List.setIfInBounds_toArray, List.set_cons_zero, List.set_cons_succ])
      generalize (x3.alloc (.cells #[.slice none 0 0] 26)) = x4 at *
      generalize x3.heap.size = go at *
      have s1 : x4.cell? ⟨go, 0, none⟩ = some (.slice none 0 0) := blk_cell hgo rfl
      have s2 : x4.frozen? ⟨go, 0, none⟩ = false := blk_free (i := 0) hgo
      refine OrdY.e_x rfl (by kernel_rfl) ?_
      go_wp2
      have ha : Aw (fun j => j = go) x4 (x4.setCell ⟨go, 0, none⟩ (.slice A28 n28 c28)) := (Aw.refl _ _).set _ rfl
      replace hgo := blk_set (i := 0) hgo (.slice A28 n28 c28)
      replace own28 := own_aw own28 ha (fun j hj hu => hne28 j hj hu)
      replace hS := below_awG hS ha (fun j hj => by rw [hj]; exact hgS) hS.size
      refine OrdY.Seg.go hS (fun h => by cases h) ?_
      (try simp only [Act.put, List.setIfInBounds_toArray, List.set_cons_zero, List.set_cons_succ])
      refine OrdY.e_nil ?_
      clear s1 s2 ha
      generalize (x4.setCell ⟨go, 0, none⟩ (.slice A28 n28 c28)) = y at *
      clear c0 c1 c2 x0
      have hyW : W.heap.size ≤ y.heap.size := hS.size
      have b0 : RcB y w.heap.size t V := (hS.block _ (by omega)).trans i1
      have b1 : RcB y (w.heap.size + 1) t' V' := (hS.block _ (by omega)).trans i2
      have hdl := blk_lt hd
      have hdy := (hS.block _ hdl).trans hd
      have hby := i4.trans (hS.mono (by omega))
      replace hgo : y.heap[go]? = some (.cells #[.slice A28 n28 c28] 26) := hgo
      have hlgo := blk_lt hgo
      have hn20 : n28 ≤ 20 := by rw [HN28.out]; omega
      have hWq : ∀ k, (Value.slice A28 n28 c28).ownBlock = some k → W.heap.size ≤ k ∧ k < y.heap.size := fun k hk => own_blk own28 hk
      clear i1 i2 i3 i4 hd hS
      gi_wp2_with (with_reducible refine stop_loadI 25 ?_)
      refine go_ (wideList_load_mid w.heap.size 0 rfl _ _ b0.all Try.underlying25 rfl (by rw [rcC_size t V HV.out]; kernel_rfl) ?_)
      gi_wp2_with (with_reducible refine stop_loadI 25 ?_)
      refine go_ (wideList_load_mid (w.heap.size + 1) 0 rfl _ _ b1.all Try.underlying25 rfl (by rw [rcC_size t' V' HV'.out]; kernel_rfl) ?_)
      gi_wp2_with fail
      refine ⟨trivial, (callsIn_wide.2 (changed_any (rcC t V) (rcC t' V') y)).mono ?_⟩
      rintro x z ⟨rfl, rfl⟩
      obtain ⟨d0, d1, hs3, hb3⟩ := al2 y (.cells (rcC t V).toArray 25) (.cells (rcC t' V').toArray 25)
      have ownz := own_up own28 hb3 (Nat.le_refl _)
      have hdz := (hb3.block _ (Nat.lt_of_lt_of_le hdl hyW)).trans hdy
      have hgz := (hb3.block _ hlgo).trans hgo
      have hbz := hby.trans (hb3.mono hby.size)
      obtain ⟨m, hm⟩ : ∃ m, m = y.heap.size := ⟨_, rfl⟩
      rw [← hm] at d0 d1 hs3 hlgo hWq hyW ⊢
      generalize ((y.alloc (.cells (rcC t V).toArray 25)).alloc (.cells (rcC t' V').toArray 25)) = z at *
      replace d0 : RcB z m t V := d0
      replace d1 : RcB z (m + 1) t' V' := d1
      clear hb3 hdy hgo hby b0 b1 own28 hm
      gi_wp2_with fail
      refine rangeFunc_R rfl (enters_of Try.func106 (by kernel_rfl) rfl) (changed_seq m (m + 1) t t' V V' _ HV.out HV'.out H32.out H32'.out)
        (fun W hW hsz => ⟨hW.keep d0 (fun hk => hk), hW.keep d1 (fun hk => hk)⟩)
        (fun x vs W hE => by rw [show vs = _ from hE]; rfl) (fun x vs A' B' hE hab => hE) (fun k hk => hk.elim)
        (fun k hk => by rw [hs3]; omega)
        (D2 w.heap.size go W.heap.size m w2.heap.size w (varB L ++ varB M)) (fun _ _ _ => False) ?hI2 (fun _ _ _ _ h _ => h) ?h02
        (fun vs => { tmps := #[.agg (rcC t V).toArray, .agg (rcC t' V').toArray, .pointer (some ⟨w.heap.size, 0, none⟩), .pointer (some ⟨w.heap.size + 1, 0, none⟩), .slice none 0 0, .pointer (some ⟨w.heap.size + 2, 0, none⟩), undef, .pointer (some ⟨go, 0, none⟩), undef, vs.getD 1 undef, .agg (rcC t V).toArray, .agg (rcC t' V').toArray, .func (.func 106) #[] #[.pointer (some ⟨w.heap.size + 3, 0, none⟩), .pointer (some ⟨w.heap.size + 4, 0, none⟩)], undef, undef, undef, undef, undef, undef, .pointer (some ⟨w.heap.size + 1, 0, none⟩), .int .u32 t', .pointer (some ⟨w.heap.size, 0, none⟩), .int .u32 t, .int .u32 L, .int .u64 L, .slice A25 n25 c25, .int .u64 M, .slice A27 n27 c27, .slice A28 n28 c28, .agg (rcC t V).toArray, .agg (rcC t' V').toArray, .func (.func 106) #[] #[.pointer (some ⟨m, 0, none⟩), .pointer (some ⟨m + 1, 0, none⟩)], vs.getD 0 undef, vs.getD 1 undef, undef, undef, undef, undef, undef, undef], defers := [] }) ?assign2 ?body2 ?done2 (fun _ _ _ _ h => h.elim)
      case hI2 =>
        rintro pre A' B' ⟨i1, i2, A2, n2, c2, i3, i4, i5, i6⟩ hab
        have hn : ∀ k, (False ∨ k = z.heap.size ∨ k = z.heap.size + 1) → m + 2 ≤ k ∧ k ≤ m + 3 := fun k hk => hk.elim (fun h => h.elim) (fun hk => by rw [hs3] at hk; omega)
        have hA := blk_lt i3
        have hA2 := blk_lt i2
        exact ⟨below_awG i1 hab (fun k hk => by have := hn k hk; omega) i1.size, hab.keep i2 (fun hk => by have := hn _ hk; omega), A2, n2, c2, hab.keep i3 (fun hk => by have := hn _ hk; omega), own_aw i4 hab (fun k hk hu => by have := hn _ hu; have := i5 k hk; omega), i5, i6⟩
      case h02 => exact ⟨hbz, hdz, A28, n28, c28, hgz, by simpa using ownz, fun k hk => ⟨hne28 k hk, by have := hWq k hk; omega, .inl (hWq k hk).2⟩, by simpa using hn20⟩
      case assign2 =>
        rintro ll x vs W K hE hK
        obtain rfl : vs = _ := hE
        gi_wp2
        exact hK
      case body2 =>
        rintro pre x vs Wb ⟨i1, i2, A2, n2, c2, i3, i4, i5, i6⟩ hE hpre hge
        obtain rfl : vs = _ := hE
        rw [hs3] at hge
        obtain ⟨xi, xd⟩ := x
        have hlen := Nat.le_trans hpre.length_le (chP_len (V.zip V') 0)
        rw [Hzl.out, List.length_append, List.length_singleton] at hlen
        have hxd : -9223372036854775808 ≤ xd ∧ xd ≤ 9223372036854775807 := by
          refine chL_rng (V.zip V') (fun p hp => ⟨H32.out _ (List.of_mem_zip hp).1, H32'.out _ (List.of_mem_zip hp).2⟩) xd ?_
          rw [← chP_snd (V.zip V') 0]
          exact List.mem_map.2 ⟨(xi, xd), hpre.subset (by simp), rfl⟩
        have Hpre := Lib.hid hpre
        clear hpre
        gi_wp2_with fail
        refine Ord.regionIn_ (fun _ => True) true [34] (by kernel_rfl) (by kernel_rfl) (by kernel_rfl) (fun ⟨_, _, h⟩ => h) trivial ?_
        have hKW : Aw (fun _ => False) Wb Wb.drew := (Aw.refl _ Wb).drew
        have j1 := i1.drew
        have j2 : Wb.drew.heap[w2.heap.size]? = _ := i2
        have j3 : Wb.drew.heap[go]? = _ := i3
        have j4 := own_up i4 (w' := Wb.drew) (Below.refl _ _).drew (Nat.le_refl _)
        have hge1 : m + 2 + 2 ≤ Wb.drew.heap.size := hge
        generalize Wb.drew = W1 at *
        clear i1 i2 i3 i4 hge
        have cg := blk_cell (i := 0) (v := .slice A2 n2 c2) j3 rfl
        refine Ord.e_load Try.underlying26 rfl cg rfl (by rfl) (by kernel_rfl) ?_
        (try simp only [Act.put, List.setIfInBounds_toArray, List.set_cons_zero, List.set_cons_succ])
        ((with_reducible refine Ord.e_p (v := ?_) ?_ ?_ ?_ ?_); rotate_left; (· exact rfl); (· kernel_rfl); (· intro w2; go_simp; try with_reducible rfl))
        (try simp only [Act.put, List.setIfInBounds_toArray, List.set_cons_zero, List.set_cons_succ])
        refine Ord.e_x rfl (by kernel_rfl) ?_
        go_wp2
        have hrn : Rd (W1.alloc (.cells #[.int .i64 xd] 2)) (W1.heap.size + 1) 1 (some ⟨W1.heap.size, 0, none⟩) 1 1 ([xd].map (Value.int .i64)) := rd_litG W1 2 [.int .i64 xd] (by simp [maxLen])
        have hbn : Below W1.heap.size W1 (W1.alloc (.cells #[.int .i64 xd] 2)) := (Below.refl _ _).alloc (Nat.le_refl _) _
        have hsn : (W1.alloc (.cells #[.int .i64 xd] 2)).heap.size = W1.heap.size + 1 := World.size_alloc _ _
        refine Ord.Seg.go trivial (fun _ => hbn) ?_
        (try simp only [Act.put, List.setIfInBounds_toArray, List.set_cons_zero, List.set_cons_succ])
        generalize (W1.alloc (.cells #[.int .i64 xd] 2)) = W3 at *
        have hA3 : Aw (fun _ => False) W1 W3 := Aw.of_below' hbn
        have Hsn := Lib.hid hsn
        clear hsn
        refine Ord.e_x rfl (by kernel_rfl) ?_
        go_wp2_with fail
        go_fit (varyInts_any (some ⟨W1.heap.size, 0, none⟩) 1 1 (W1.heap.size + 1) [xd] W3 hrn (by rw [Hsn.out]; exact Nat.le_refl _) (by intro x hx; simp at hx; rw [hx]; exact hxd) (by omega))
        rintro e W4 ⟨A4, c4, n4, rfl, hown4, hb34⟩
        go_wp2_with fail
        refine Ord.Seg.go trivial (fun _ => hb34) ?_
        (try simp only [Act.put, List.setIfInBounds_toArray, List.set_cons_zero, List.set_cons_succ])
        have hw4 := own_len hown4
        have hv4 : (varB (zigV xd)).length ≤ 10 := (varN_len 9 (zigV xd)).2
        have hfm : ([xd].flatMap fun d => varB (zigV d)) = varB (zigV xd) := by simp
        rw [hfm] at hw4 hown4
        have hA4 : Aw (fun _ => False) W1 W4 := hA3.trans (Aw.of_below' hb34)
        have k4 := own_aw j4 hA4 (fun k hk hu => hu)
        have k3 := hA4.keep j3 (fun h => h)
        have k2 := hA4.keep j2 (fun h => h)
        have k1 := below_awG j1 hA4 (fun k h => h.elim) j1.size
        have hsz4 := hA4.size
        clear cg hrn hbn hb34 hA3 hfm
        refine Ord.e_x rfl (by kernel_rfl) ?_
        refine wpList_appG (base := W.heap.size) (n := n2) Try.underlying26 Hi.out rfl (by omega) k4 rfl (Rd.own hown4) rfl (bv_one _) (k := n2 + n4) rfl (bv_app _ _).symm (by unfold maxLen; omega) (by omega) (by omega) ?_
        intro A5 c5 W5 own5 hgr hob
        have hobk : ∀ k, (Value.slice A2 n2 c2).ownBlock = some k → k < W1.heap.size := fun k hk => (own_blk j4 hk).2
        have hA5 := Aw.of_grown hgr
        have l3 := hA5.keep k3 (fun hu => (i5 _ hu).1 rfl)
        have l2 := hA5.keep k2 (fun hu => (i5 _ hu).2.1 rfl)
        have l1 := below_awG k1 hA5 (fun k hu => by have := (own_blk k4 hu).1; omega) k1.size
        have l5 : ∀ k, (Value.slice A5 (n2 + n4) c5).ownBlock = some k → k ≠ go ∧ k ≠ w2.heap.size ∧ (k < m ∨ m + 4 ≤ k) := fun k hk => by
          rcases hob with hob | hob
          · exact i5 k (by rw [← hob]; exact hk)
          · rw [hk] at hob
            injection hob with hob
            have h1 := blk_lt k3
            have h2 := blk_lt k2
            omega
        obtain ⟨n5, hn5⟩ : ∃ k, k = n2 + n4 := ⟨_, rfl⟩
        rw [← hn5] at own5 l5 ⊢
        have Hn5 := Lib.hid hn5
        clear hn5 hgr
        go_wp2_with fail
        refine Ord.Seg.go trivial (fun h => by cases h) ?_
        (try simp only [Act.put, List.setIfInBounds_toArray, List.set_cons_zero, List.set_cons_succ])
        have s1 := blk_cell (i := 0) (v := .slice A2 n2 c2) l3 rfl
        have s2 := blk_free (i := 0) l3
        refine Ord.e_x rfl (by kernel_rfl) ?_
        go_wp2
        refine Ord.Seg.go trivial (fun h => by cases h) ?_
        (try simp only [Act.put, List.setIfInBounds_toArray, List.set_cons_zero, List.set_cons_succ])
        refine Ord.e_nil ?_
        have hA6 : Aw (fun k => k = go) W5 (W5.setCell ⟨go, 0, none⟩ (.slice A5 n5 c5)) := (Aw.refl _ _).set _ rfl
        have m3 := blk_set (i := 0) l3 (.slice A5 n5 c5)
        have m2 := hA6.keep l2 (fun e => by omega)
        have m1 := below_awG l1 hA6 (fun k hk => by omega) l1.size
        have m4 := own_aw own5 hA6 (fun k hk hu => (l5 k hk).1 hu)
        have hAll : Aw (fun k => (Value.slice A2 n2 c2).ownBlock = some k ∨ k = go) Wb (W5.setCell ⟨go, 0, none⟩ (.slice A5 n5 c5)) := (((hKW.trans hA4).mono (U' := fun k => (Value.slice A2 n2 c2).ownBlock = some k ∨ k = go) (fun _ h => h.elim)).trans (hA5.mono fun k h => .inl h)).trans (hA6.mono fun k h => .inr h)
        refine ⟨hAll.keeps fun k hk hu => ?_, m1, m2, A5, n5, c5, m3, ?_, l5, ?_⟩
        · rcases hu with hu | hu
          · have := (i5 k hu).2.2
            rcases hk with (rfl | rfl) | rfl | rfl <;> (try rw [hs3] at *) <;> omega
          · rcases hk with (rfl | rfl) | rfl | rfl <;> (try rw [hs3] at *) <;> omega
        · rw [List.map_append, List.flatMap_append, ← List.append_assoc]
          simpa using m4
        · rw [Hn5.out, List.length_append, List.length_singleton]
          omega
      case done2 =>
        rintro Wd ⟨i1, i2, A2, n2, c2, i3, i4, i5, i6⟩ hd2
        rw [chP_snd, List.append_assoc, HL.out, HM.out] at i4
        replace i4 : Wd.ownsRow W.heap.size 5 1 (.slice A2 n2 c2) n2 (bv (recD t V t' V')) := i4
        have cg := blk_cell (i := 0) (v := .slice A2 n2 c2) i3 rfl
        gi_wp2
        refine ⟨by simp, .inl ⟨_, _, rfl, run_takeDeferred hd2, ?_⟩⟩
        have hA7 : Aw (fun k => k = z.heap.size) Wd (Wd.putObj z.heap.size (.deferred none)) := (Aw.refl _ _).put _ rfl
        have o2 := hA7.keep i2 (by rw [hs3]; omega)
        have o1 := below_awG i1 hA7 (fun k hk => by rw [hs3] at hk; omega) i1.size
        have o4 := own_aw i4 hA7 (fun k hk hu => by rw [hs3] at hu; have := (i5 k hk).2.2; omega)
        generalize Wd.putObj z.heap.size (.deferred none) = We at *
        refine ⟨by simp, .inl ⟨_, _, rfl, run_takeDeferred o2, ?_⟩⟩
        have hA8 : Aw (fun k => k = w2.heap.size) We (We.putObj w2.heap.size (.deferred none)) := (Aw.refl _ _).put _ rfl
        have q1 := below_awG o1 hA8 (fun k hk => by omega) o1.size
        have q4 := own_aw o4 hA8 (fun k hk hu => (i5 k hk).2.1 hu)
        refine ⟨_, results_tmp (fn := Try.f23) Try.results23 _ _ _, A2, c2, n2, rfl, own_mono q4 (by omega), q1⟩
    · simp only [Ord.lst, List.filterMap_cons, List.filterMap_nil, List.getElem?_toArray, List.getElem?_cons_succ, List.getElem?_cons_zero]
      ((with_reducible refine OrdY.e_p (v := ?_) ?_ ?_ ?_ ?_); rotate_left; (· exact rfl); (· kernel_rfl); (· intro w2; go_simp; try with_reducible rfl))
      (try simp only [Act.put, List.setIfInBounds_toArray, List.set_cons_zero, List.set_cons_succ])
      refine OrdY.e_loadS Try.underlying22 rfl (fun w' hS => ((show Below _ W w' from hS).cell (p := ⟨w.heap.size + 1, 0, none⟩) (by show w.heap.size + 1 < _; omega)).trans c1) hS rfl (by kernel_rfl) ?_
      (try simp only [Act.put, List.setIfInBounds_toArray, List.set_cons_zero, List.set_cons_succ])
      ((with_reducible refine OrdY.e_p (v := ?_) ?_ ?_ ?_ ?_); rotate_left; (· exact rfl); (· kernel_rfl); (· intro w2; go_simp; try with_reducible rfl))
      (try simp only [Act.put, List.setIfInBounds_toArray, List.set_cons_zero, List.set_cons_succ])
      refine OrdY.e_loadS Try.underlying22 rfl (fun w' hS => ((show Below _ W w' from hS).cell (p := ⟨w.heap.size, 0, none⟩) (by show w.heap.size < _; omega)).trans c0) hS rfl (by kernel_rfl) ?_
      (try simp only [Act.put, List.setIfInBounds_toArray, List.set_cons_zero, List.set_cons_succ])
      ((with_reducible refine OrdY.e_p (v := ?_) ?_ ?_ ?_ ?_); rotate_left; (· exact rfl); (· kernel_rfl); (· intro w2; go_simp; try with_reducible rfl))
      (try simp only [Act.put, List.setIfInBounds_toArray, List.set_cons_zero, List.set_cons_succ])
      ((with_reducible refine OrdY.e_p (v := ?_) ?_ ?_ ?_ ?_); rotate_left; (· exact rfl); (· kernel_rfl); (· intro w2; go_simp; try with_reducible rfl))
      (try simp only [Act.put, List.setIfInBounds_toArray, List.set_cons_zero, List.set_cons_succ])
      refine OrdY.e_x rfl (by kernel_rfl) ?_
      go_wp2_with fail
      go_fit (varyPut_any L x0 (by omega))
      rintro e x1 ⟨A25, c25, n25, rfl, own25, hbx⟩
      have hw25 := own_len own25
      have hv25 : (varB L).length ≤ 10 := (varN_len 9 L).2
      replace own25 := own_mono own25 (base' := W.heap.size) hS.size
      replace hS := hS.trans (hbx.mono hS.size)
      clear hbx
      go_wp2_with fail
      refine OrdY.Seg.go hS (fun h => by cases h) ?_
      (try simp only [Act.put, List.setIfInBounds_toArray, List.set_cons_zero, List.set_cons_succ])
      refine OrdY.e_loadS Try.underlying107 rfl (fun w' hS => ((show Below _ W w' from hS).cell (p := ⟨w.heap.size + 2, 0, none⟩) hg2).trans c2) hS rfl (by kernel_rfl) ?_
      (try simp only [Act.put, List.setIfInBounds_toArray, List.set_cons_zero, List.set_cons_succ])
      refine OrdY.e_x rfl (by kernel_rfl) ?_
      go_wp2_with fail
      go_fit (varyPut_any M x1 (by omega))
      rintro e x2 ⟨A27, c27, n27, rfl, own27, hbx⟩
      have hw27 := own_len own27
      have hv27 : (varB M).length ≤ 10 := (varN_len 9 M).2
      replace own27 := own_mono own27 (base' := W.heap.size) hS.size
      replace own25 := own_up own25 hbx (Nat.le_refl _)
      replace hS := hS.trans (hbx.mono hS.size)
      clear hbx
      go_wp2_with fail
      refine OrdY.Seg.go hS (fun h => by cases h) ?_
      (try simp only [Act.put, List.setIfInBounds_toArray, List.set_cons_zero, List.set_cons_succ])
      refine OrdY.e_x rfl (by kernel_rfl) ?_
      go_wp2
      have hbx : Below x2.heap.size x2 (x2.alloc (.cells #[.slice none 0 0] 26)) := (Below.refl _ _).alloc (Nat.le_refl _) _
      have hne25 : ∀ k, (Value.slice A25 n25 c25).ownBlock = some k → k ≠ x2.heap.size := fun k hk => by have := (own_blk own25 hk).2; omega
      have hne27 : ∀ k, (Value.slice A27 n27 c27).ownBlock = some k → k ≠ x2.heap.size := fun k hk => by have := (own_blk own27 hk).2; omega
      replace own25 := own_up own25 hbx (Nat.le_refl _)
      replace own27 := own_up own27 hbx (Nat.le_refl _)
      have hgo := heap_alloc_new x2 (.cells #[.slice none 0 0] 26)
      have hgS : W.heap.size ≤ x2.heap.size := hS.size
      replace hS := hS.trans (hbx.mono hS.size)
      clear hbx
      refine OrdY.Seg.go hS (fun h => by cases h) ?_
      (try simp only [Act.put, List.setIfInBounds_toArray, List.set_cons_zero, List.set_cons_succ])
      generalize (x2.alloc (.cells #[.slice none 0 0] 26)) = x3 at *
      generalize x2.heap.size = go at *
      refine OrdY.e_x rfl (by kernel_rfl) ?_
      refine wpList_appG (base := W.heap.size) (n := n25) Try.underlying26 Hi.out rfl (by omega) own25 rfl (Rd.own own27) rfl (bv_one _) (k := n25 + n27) rfl (bv_app _ _).symm (by unfold maxLen; omega) (by omega) hS.size ?_
      intro A28 c28 x4 own28 hgr hob
      have hne28 : ∀ k, (Value.slice A28 (n25 + n27) c28).ownBlock = some k → k ≠ go := fun k hk => by
        rcases hob with hob | hob
        · exact hne25 k (by rw [← hob]; exact hk)
        · rw [hk] at hob; injection hob with hob; have := blk_lt hgo; omega
      replace hgo := (hgr.block _ (blk_lt hgo) (fun e => by have := hne25 _ e.symm; omega)).trans hgo
      obtain ⟨n28, hn28⟩ : ∃ m, m = n25 + n27 := ⟨_, rfl⟩
      rw [← hn28] at own28 ⊢
      rw [← hn28] at hne28
      have HN28 := Lib.hid hn28
      clear hn28
      replace hS := Below.grown hS hgr hS.size (fun j hj => (own_blk own25 hj).1)
      clear hgr hob own25 own27
      go_wp2_with fail
      refine OrdY.Seg.go hS (fun h => by cases h) ?_
      (try simp only [Act.put, List.setIfInBounds_toArray, List.set_cons_zero, List.set_cons_succ])
      have s1 : x4.cell? ⟨go, 0, none⟩ = some (.slice none 0 0) := blk_cell hgo rfl
      have s2 : x4.frozen? ⟨go, 0, none⟩ = false := blk_free (i := 0) hgo
      refine OrdY.e_x rfl (by kernel_rfl) ?_
      go_wp2
      have ha : Aw (fun j => j = go) x4 (x4.setCell ⟨go, 0, none⟩ (.slice A28 n28 c28)) := (Aw.refl _ _).set _ rfl
      replace hgo := blk_set (i := 0) hgo (.slice A28 n28 c28)
      replace own28 := own_aw own28 ha (fun j hj hu => hne28 j hj hu)
      replace hS := below_awG hS ha (fun j hj => by rw [hj]; exact hgS) hS.size
      refine OrdY.Seg.go hS (fun h => by cases h) ?_
      (try simp only [Act.put, List.setIfInBounds_toArray, List.set_cons_zero, List.set_cons_succ])
      refine OrdY.e_nil ?_
      clear s1 s2 ha
      generalize (x4.setCell ⟨go, 0, none⟩ (.slice A28 n28 c28)) = y at *
      clear c0 c1 c2 x0
      have hyW : W.heap.size ≤ y.heap.size := hS.size
      have b0 : RcB y w.heap.size t V := (hS.block _ (by omega)).trans i1
      have b1 : RcB y (w.heap.size + 1) t' V' := (hS.block _ (by omega)).trans i2
      have hdl := blk_lt hd
      have hdy := (hS.block _ hdl).trans hd
      have hby := i4.trans (hS.mono (by omega))
      replace hgo : y.heap[go]? = some (.cells #[.slice A28 n28 c28] 26) := hgo
      have hlgo := blk_lt hgo
      have hn20 : n28 ≤ 20 := by rw [HN28.out]; omega
      have hWq : ∀ k, (Value.slice A28 n28 c28).ownBlock = some k → W.heap.size ≤ k ∧ k < y.heap.size := fun k hk => own_blk own28 hk
      clear i1 i2 i3 i4 hd hS
      gi_wp2_with (with_reducible refine stop_loadI 25 ?_)
      refine go_ (wideList_load_mid w.heap.size 0 rfl _ _ b0.all Try.underlying25 rfl (by rw [rcC_size t V HV.out]; kernel_rfl) ?_)
      gi_wp2_with (with_reducible refine stop_loadI 25 ?_)
      refine go_ (wideList_load_mid (w.heap.size + 1) 0 rfl _ _ b1.all Try.underlying25 rfl (by rw [rcC_size t' V' HV'.out]; kernel_rfl) ?_)
      gi_wp2_with fail
      refine ⟨trivial, (callsIn_wide.2 (changed_any (rcC t V) (rcC t' V') y)).mono ?_⟩
      rintro x z ⟨rfl, rfl⟩
      obtain ⟨d0, d1, hs3, hb3⟩ := al2 y (.cells (rcC t V).toArray 25) (.cells (rcC t' V').toArray 25)
      have ownz := own_up own28 hb3 (Nat.le_refl _)
      have hdz := (hb3.block _ (Nat.lt_of_lt_of_le hdl hyW)).trans hdy
      have hgz := (hb3.block _ hlgo).trans hgo
      have hbz := hby.trans (hb3.mono hby.size)
      obtain ⟨m, hm⟩ : ∃ m, m = y.heap.size := ⟨_, rfl⟩
      rw [← hm] at d0 d1 hs3 hlgo hWq hyW ⊢
      generalize ((y.alloc (.cells (rcC t V).toArray 25)).alloc (.cells (rcC t' V').toArray 25)) = z at *
      replace d0 : RcB z m t V := d0
      replace d1 : RcB z (m + 1) t' V' := d1
      clear hb3 hdy hgo hby b0 b1 own28 hm
      gi_wp2_with fail
      refine rangeFunc_R rfl (enters_of Try.func106 (by kernel_rfl) rfl) (changed_seq m (m + 1) t t' V V' _ HV.out HV'.out H32.out H32'.out)
        (fun W hW hsz => ⟨hW.keep d0 (fun hk => hk), hW.keep d1 (fun hk => hk)⟩)
        (fun x vs W hE => by rw [show vs = _ from hE]; rfl) (fun x vs A' B' hE hab => hE) (fun k hk => hk.elim)
        (fun k hk => by rw [hs3]; omega)
        (D2 w.heap.size go W.heap.size m w2.heap.size w (varB L ++ varB M)) (fun _ _ _ => False) ?hI2 (fun _ _ _ _ h _ => h) ?h02
        (fun vs => { tmps := #[.agg (rcC t V).toArray, .agg (rcC t' V').toArray, .pointer (some ⟨w.heap.size, 0, none⟩), .pointer (some ⟨w.heap.size + 1, 0, none⟩), .slice none 0 0, .pointer (some ⟨w.heap.size + 2, 0, none⟩), undef, .pointer (some ⟨go, 0, none⟩), undef, vs.getD 1 undef, .agg (rcC t V).toArray, .agg (rcC t' V').toArray, .func (.func 106) #[] #[.pointer (some ⟨w.heap.size + 3, 0, none⟩), .pointer (some ⟨w.heap.size + 4, 0, none⟩)], undef, undef, undef, undef, undef, undef, .pointer (some ⟨w.heap.size + 1, 0, none⟩), .int .u32 t', .pointer (some ⟨w.heap.size, 0, none⟩), .int .u32 t, .int .u32 L, .int .u64 L, .slice A25 n25 c25, .int .u64 M, .slice A27 n27 c27, .slice A28 n28 c28, .agg (rcC t V).toArray, .agg (rcC t' V').toArray, .func (.func 106) #[] #[.pointer (some ⟨m, 0, none⟩), .pointer (some ⟨m + 1, 0, none⟩)], vs.getD 0 undef, vs.getD 1 undef, undef, undef, undef, undef, undef, undef], defers := [] }) ?assign2 ?body2 ?done2 (fun _ _ _ _ h => h.elim)
      case hI2 =>
        rintro pre A' B' ⟨i1, i2, A2, n2, c2, i3, i4, i5, i6⟩ hab
        have hn : ∀ k, (False ∨ k = z.heap.size ∨ k = z.heap.size + 1) → m + 2 ≤ k ∧ k ≤ m + 3 := fun k hk => hk.elim (fun h => h.elim) (fun hk => by rw [hs3] at hk; omega)
        have hA := blk_lt i3
        have hA2 := blk_lt i2
        exact ⟨below_awG i1 hab (fun k hk => by have := hn k hk; omega) i1.size, hab.keep i2 (fun hk => by have := hn _ hk; omega), A2, n2, c2, hab.keep i3 (fun hk => by have := hn _ hk; omega), own_aw i4 hab (fun k hk hu => by have := hn _ hu; have := i5 k hk; omega), i5, i6⟩
      case h02 => exact ⟨hbz, hdz, A28, n28, c28, hgz, by simpa using ownz, fun k hk => ⟨hne28 k hk, by have := hWq k hk; omega, .inl (hWq k hk).2⟩, by simpa using hn20⟩
      case assign2 =>
        rintro ll x vs W K hE hK
        obtain rfl : vs = _ := hE
        gi_wp2
        exact hK
      case body2 =>
        rintro pre x vs Wb ⟨i1, i2, A2, n2, c2, i3, i4, i5, i6⟩ hE hpre hge
        obtain rfl : vs = _ := hE
        rw [hs3] at hge
        obtain ⟨xi, xd⟩ := x
        have hlen := Nat.le_trans hpre.length_le (chP_len (V.zip V') 0)
        rw [Hzl.out, List.length_append, List.length_singleton] at hlen
        have hxd : -9223372036854775808 ≤ xd ∧ xd ≤ 9223372036854775807 := by
          refine chL_rng (V.zip V') (fun p hp => ⟨H32.out _ (List.of_mem_zip hp).1, H32'.out _ (List.of_mem_zip hp).2⟩) xd ?_
          rw [← chP_snd (V.zip V') 0]
          exact List.mem_map.2 ⟨(xi, xd), hpre.subset (by simp), rfl⟩
        have Hpre := Lib.hid hpre
        clear hpre
        gi_wp2_with fail
        refine Ord.regionIn_ (fun _ => True) true [34] (by kernel_rfl) (by kernel_rfl) (by kernel_rfl) (fun ⟨_, _, h⟩ => h) trivial ?_
        have hKW : Aw (fun _ => False) Wb Wb.drew := (Aw.refl _ Wb).drew
        have j1 := i1.drew
        have j2 : Wb.drew.heap[w2.heap.size]? = _ := i2
        have j3 : Wb.drew.heap[go]? = _ := i3
        have j4 := own_up i4 (w' := Wb.drew) (Below.refl _ _).drew (Nat.le_refl _)
        have hge1 : m + 2 + 2 ≤ Wb.drew.heap.size := hge
        generalize Wb.drew = W1 at *
        clear i1 i2 i3 i4 hge
        have cg := blk_cell (i := 0) (v := .slice A2 n2 c2) j3 rfl
        refine Ord.e_load Try.underlying26 rfl cg rfl (by rfl) (by kernel_rfl) ?_
        (try simp only [Act.put, List.setIfInBounds_toArray, List.set_cons_zero, List.set_cons_succ])
        ((with_reducible refine Ord.e_p (v := ?_) ?_ ?_ ?_ ?_); rotate_left; (· exact rfl); (· kernel_rfl); (· intro w2; go_simp; try with_reducible rfl))
        (try simp only [Act.put, List.setIfInBounds_toArray, List.set_cons_zero, List.set_cons_succ])
        refine Ord.e_x rfl (by kernel_rfl) ?_
        go_wp2
        have hrn : Rd (W1.alloc (.cells #[.int .i64 xd] 2)) (W1.heap.size + 1) 1 (some ⟨W1.heap.size, 0, none⟩) 1 1 ([xd].map (Value.int .i64)) := rd_litG W1 2 [.int .i64 xd] (by simp [maxLen])
        have hbn : Below W1.heap.size W1 (W1.alloc (.cells #[.int .i64 xd] 2)) := (Below.refl _ _).alloc (Nat.le_refl _) _
        have hsn : (W1.alloc (.cells #[.int .i64 xd] 2)).heap.size = W1.heap.size + 1 := World.size_alloc _ _
        refine Ord.Seg.go trivial (fun _ => hbn) ?_
        (try simp only [Act.put, List.setIfInBounds_toArray, List.set_cons_zero, List.set_cons_succ])
        generalize (W1.alloc (.cells #[.int .i64 xd] 2)) = W3 at *
        have hA3 : Aw (fun _ => False) W1 W3 := Aw.of_below' hbn
        have Hsn := Lib.hid hsn
        clear hsn
        refine Ord.e_x rfl (by kernel_rfl) ?_
        go_wp2_with fail
        go_fit (varyInts_any (some ⟨W1.heap.size, 0, none⟩) 1 1 (W1.heap.size + 1) [xd] W3 hrn (by rw [Hsn.out]; exact Nat.le_refl _) (by intro x hx; simp at hx; rw [hx]; exact hxd) (by omega))
        rintro e W4 ⟨A4, c4, n4, rfl, hown4, hb34⟩
        go_wp2_with fail
        refine Ord.Seg.go trivial (fun _ => hb34) ?_
        (try simp only [Act.put, List.setIfInBounds_toArray, List.set_cons_zero, List.set_cons_succ])
        have hw4 := own_len hown4
        have hv4 : (varB (zigV xd)).length ≤ 10 := (varN_len 9 (zigV xd)).2
        have hfm : ([xd].flatMap fun d => varB (zigV d)) = varB (zigV xd) := by simp
        rw [hfm] at hw4 hown4
        have hA4 : Aw (fun _ => False) W1 W4 := hA3.trans (Aw.of_below' hb34)
        have k4 := own_aw j4 hA4 (fun k hk hu => hu)
        have k3 := hA4.keep j3 (fun h => h)
        have k2 := hA4.keep j2 (fun h => h)
        have k1 := below_awG j1 hA4 (fun k h => h.elim) j1.size
        have hsz4 := hA4.size
        clear cg hrn hbn hb34 hA3 hfm
        refine Ord.e_x rfl (by kernel_rfl) ?_
        refine wpList_appG (base := W.heap.size) (n := n2) Try.underlying26 Hi.out rfl (by omega) k4 rfl (Rd.own hown4) rfl (bv_one _) (k := n2 + n4) rfl (bv_app _ _).symm (by unfold maxLen; omega) (by omega) (by omega) ?_
        intro A5 c5 W5 own5 hgr hob
        have hobk : ∀ k, (Value.slice A2 n2 c2).ownBlock = some k → k < W1.heap.size := fun k hk => (own_blk j4 hk).2
        have hA5 := Aw.of_grown hgr
        have l3 := hA5.keep k3 (fun hu => (i5 _ hu).1 rfl)
        have l2 := hA5.keep k2 (fun hu => (i5 _ hu).2.1 rfl)
        have l1 := below_awG k1 hA5 (fun k hu => by have := (own_blk k4 hu).1; omega) k1.size
        have l5 : ∀ k, (Value.slice A5 (n2 + n4) c5).ownBlock = some k → k ≠ go ∧ k ≠ w2.heap.size ∧ (k < m ∨ m + 4 ≤ k) := fun k hk => by
          rcases hob with hob | hob
          · exact i5 k (by rw [← hob]; exact hk)
          · rw [hk] at hob
            injection hob with hob
            have h1 := blk_lt k3
            have h2 := blk_lt k2
            omega
        obtain ⟨n5, hn5⟩ : ∃ k, k = n2 + n4 := ⟨_, rfl⟩
        rw [← hn5] at own5 l5 ⊢
        have Hn5 := Lib.hid hn5
        clear hn5 hgr
        go_wp2_with fail
        refine Ord.Seg.go trivial (fun h => by cases h) ?_
        (try simp only [Act.put, List.setIfInBounds_toArray, List.set_cons_zero, List.set_cons_succ])
        have s1 := blk_cell (i := 0) (v := .slice A2 n2 c2) l3 rfl
        have s2 := blk_free (i := 0) l3
        refine Ord.e_x rfl (by kernel_rfl) ?_
        go_wp2
        refine Ord.Seg.go trivial (fun h => by cases h) ?_
        (try simp only [Act.put, List.setIfInBounds_toArray, List.set_cons_zero, List.set_cons_succ])
        refine Ord.e_nil ?_
        have hA6 : Aw (fun k => k = go) W5 (W5.setCell ⟨go, 0, none⟩ (.slice A5 n5 c5)) := (Aw.refl _ _).set _ rfl
        have m3 := blk_set (i := 0) l3 (.slice A5 n5 c5)
        have m2 := hA6.keep l2 (fun e => by omega)
        have m1 := below_awG l1 hA6 (fun k hk => by omega) l1.size
        have m4 := own_aw own5 hA6 (fun k hk hu => (l5 k hk).1 hu)
        have hAll : Aw (fun k => (Value.slice A2 n2 c2).ownBlock = some k ∨ k = go) Wb (W5.setCell ⟨go, 0, none⟩ (.slice A5 n5 c5)) := (((hKW.trans hA4).mono (U' := fun k => (Value.slice A2 n2 c2).ownBlock = some k ∨ k = go) (fun _ h => h.elim)).trans (hA5.mono fun k h => .inl h)).trans (hA6.mono fun k h => .inr h)
        refine ⟨hAll.keeps fun k hk hu => ?_, m1, m2, A5, n5, c5, m3, ?_, l5, ?_⟩
        · rcases hu with hu | hu
          · have := (i5 k hu).2.2
            rcases hk with (rfl | rfl) | rfl | rfl <;> (try rw [hs3] at *) <;> omega
          · rcases hk with (rfl | rfl) | rfl | rfl <;> (try rw [hs3] at *) <;> omega
        · rw [List.map_append, List.flatMap_append, ← List.append_assoc]
          simpa using m4
        · rw [Hn5.out, List.length_append, List.length_singleton]
          omega
      case done2 =>
        rintro Wd ⟨i1, i2, A2, n2, c2, i3, i4, i5, i6⟩ hd2
        rw [chP_snd, List.append_assoc, HL.out, HM.out] at i4
        replace i4 : Wd.ownsRow W.heap.size 5 1 (.slice A2 n2 c2) n2 (bv (recD t V t' V')) := i4
        have cg := blk_cell (i := 0) (v := .slice A2 n2 c2) i3 rfl
        gi_wp2
        refine ⟨by simp, .inl ⟨_, _, rfl, run_takeDeferred hd2, ?_⟩⟩
        have hA7 : Aw (fun k => k = z.heap.size) Wd (Wd.putObj z.heap.size (.deferred none)) := (Aw.refl _ _).put _ rfl
        have o2 := hA7.keep i2 (by rw [hs3]; omega)
        have o1 := below_awG i1 hA7 (fun k hk => by rw [hs3] at hk; omega) i1.size
        have o4 := own_aw i4 hA7 (fun k hk hu => by rw [hs3] at hu; have := (i5 k hk).2.2; omega)
        generalize Wd.putObj z.heap.size (.deferred none) = We at *
        refine ⟨by simp, .inl ⟨_, _, rfl, run_takeDeferred o2, ?_⟩⟩
        have hA8 : Aw (fun k => k = w2.heap.size) We (We.putObj w2.heap.size (.deferred none)) := (Aw.refl _ _).put _ rfl
        have q1 := below_awG o1 hA8 (fun k hk => by omega) o1.size
        have q4 := own_aw o4 hA8 (fun k hk hu => (i5 k hk).2.1 hu)
        refine ⟨_, results_tmp (fn := Try.f23) Try.results23 _ _ _, A2, c2, n2, rfl, own_mono q4 (by omega), q1⟩
    · simp only [Ord.lst, List.filterMap_cons, List.filterMap_nil, List.getElem?_toArray, List.getElem?_cons_succ, List.getElem?_cons_zero]
      ((with_reducible refine OrdY.e_p (v := ?_) ?_ ?_ ?_ ?_); rotate_left; (· exact rfl); (· kernel_rfl); (· intro w2; go_simp; try with_reducible rfl))
      (try simp only [Act.put, List.setIfInBounds_toArray, List.set_cons_zero, List.set_cons_succ])
      refine OrdY.e_loadS Try.underlying22 rfl (fun w' hS => ((show Below _ W w' from hS).cell (p := ⟨w.heap.size + 1, 0, none⟩) (by show w.heap.size + 1 < _; omega)).trans c1) hS rfl (by kernel_rfl) ?_
      (try simp only [Act.put, List.setIfInBounds_toArray, List.set_cons_zero, List.set_cons_succ])
      ((with_reducible refine OrdY.e_p (v := ?_) ?_ ?_ ?_ ?_); rotate_left; (· exact rfl); (· kernel_rfl); (· intro w2; go_simp; try with_reducible rfl))
      (try simp only [Act.put, List.setIfInBounds_toArray, List.set_cons_zero, List.set_cons_succ])
      refine OrdY.e_loadS Try.underlying22 rfl (fun w' hS => ((show Below _ W w' from hS).cell (p := ⟨w.heap.size, 0, none⟩) (by show w.heap.size < _; omega)).trans c0) hS rfl (by kernel_rfl) ?_
      (try simp only [Act.put, List.setIfInBounds_toArray, List.set_cons_zero, List.set_cons_succ])
      ((with_reducible refine OrdY.e_p (v := ?_) ?_ ?_ ?_ ?_); rotate_left; (· exact rfl); (· kernel_rfl); (· intro w2; go_simp; try with_reducible rfl))
      (try simp only [Act.put, List.setIfInBounds_toArray, List.set_cons_zero, List.set_cons_succ])
      ((with_reducible refine OrdY.e_p (v := ?_) ?_ ?_ ?_ ?_); rotate_left; (· exact rfl); (· kernel_rfl); (· intro w2; go_simp; try with_reducible rfl))
      (try simp only [Act.put, List.setIfInBounds_toArray, List.set_cons_zero, List.set_cons_succ])
      refine OrdY.e_x rfl (by kernel_rfl) ?_
      go_wp2_with fail
      go_fit (varyPut_any L x0 (by omega))
      rintro e x1 ⟨A25, c25, n25, rfl, own25, hbx⟩
      have hw25 := own_len own25
      have hv25 : (varB L).length ≤ 10 := (varN_len 9 L).2
      replace own25 := own_mono own25 (base' := W.heap.size) hS.size
      replace hS := hS.trans (hbx.mono hS.size)
      clear hbx
      go_wp2_with fail
      refine OrdY.Seg.go hS (fun h => by cases h) ?_
      (try simp only [Act.put, List.setIfInBounds_toArray, List.set_cons_zero, List.set_cons_succ])
      refine OrdY.e_loadS Try.underlying107 rfl (fun w' hS => ((show Below _ W w' from hS).cell (p := ⟨w.heap.size + 2, 0, none⟩) hg2).trans c2) hS rfl (by kernel_rfl) ?_
      (try simp only [Act.put, List.setIfInBounds_toArray, List.set_cons_zero, List.set_cons_succ])
      refine OrdY.e_x rfl (by kernel_rfl) ?_
      go_wp2
      have hbx : Below x1.heap.size x1 (x1.alloc (.cells #[.slice none 0 0] 26)) := (Below.refl _ _).alloc (Nat.le_refl _) _
      have hne25 : ∀ k, (Value.slice A25 n25 c25).ownBlock = some k → k ≠ x1.heap.size := fun k hk => by have := (own_blk own25 hk).2; omega
      replace own25 := own_up own25 hbx (Nat.le_refl _)
      have hgo := heap_alloc_new x1 (.cells #[.slice none 0 0] 26)
      have hgS : W.heap.size ≤ x1.heap.size := hS.size
      replace hS := hS.trans (hbx.mono hS.size)
      clear hbx
      refine OrdY.Seg.go hS (fun h => by cases h) ?_
      (try simp only [Act.put, List.setIfInBounds_toArray, List.set_cons_zero, List.set_cons_succ])
      generalize (x1.alloc (.cells #[.slice none 0 0] 26)) = x2 at *
      generalize x1.heap.size = go at *
      refine OrdY.e_x rfl (by kernel_rfl) ?_
      go_wp2_with fail
      go_fit (varyPut_any M x2 (by omega))
      rintro e x3 ⟨A27, c27, n27, rfl, own27, hbx⟩
      have hw27 := own_len own27
      have hv27 : (varB M).length ≤ 10 := (varN_len 9 M).2
      have hne27 : ∀ k, (Value.slice A27 n27 c27).ownBlock = some k → k ≠ go := fun k hk => by have := (own_blk own27 hk).1; have := blk_lt hgo; omega
      replace own27 := own_mono own27 (base' := W.heap.size) hS.size
      replace hgo := blk_old hgo hbx (blk_lt hgo)
      replace own25 := own_up own25 hbx (Nat.le_refl _)
      replace hS := hS.trans (hbx.mono hS.size)
      clear hbx
      go_wp2_with fail
      refine OrdY.Seg.go hS (fun h => by cases h) ?_
      (try simp only [Act.put, List.setIfInBounds_toArray, List.set_cons_zero, List.set_cons_succ])
      refine OrdY.e_x rfl (by kernel_rfl) ?_
      refine wpList_appG (base := W.heap.size) (n := n25) Try.underlying26 Hi.out rfl (by omega) own25 rfl (Rd.own own27) rfl (bv_one _) (k := n25 + n27) rfl (bv_app _ _).symm (by unfold maxLen; omega) (by omega) hS.size ?_
      intro A28 c28 x4 own28 hgr hob
      have hne28 : ∀ k, (Value.slice A28 (n25 + n27) c28).ownBlock = some k → k ≠ go := fun k hk => by
        rcases hob with hob | hob
        · exact hne25 k (by rw [← hob]; exact hk)
        · rw [hk] at hob; injection hob with hob; have := blk_lt hgo; omega
      replace hgo := (hgr.block _ (blk_lt hgo) (fun e => by have := hne25 _ e.symm; omega)).trans hgo
      obtain ⟨n28, hn28⟩ : ∃ m, m = n25 + n27 := ⟨_, rfl⟩
      rw [← hn28] at own28 ⊢
      rw [← hn28] at hne28
      have HN28 := Lib.hid hn28
      clear hn28
      replace hS := Below.grown hS hgr hS.size (fun j hj => (own_blk own25 hj).1)
      clear hgr hob own25 own27
      go_wp2_with fail
      refine OrdY.Seg.go hS (fun h => by cases h) ?_
      (try simp only [Act.put, List.setIfInBounds_toArray, List.set_cons_zero, List.set_cons_succ])
      have s1 : x4.cell? ⟨go, 0, none⟩ = some (.slice none 0 0) := blk_cell hgo rfl
      have s2 : x4.frozen? ⟨go, 0, none⟩ = false := blk_free (i := 0) hgo
      refine OrdY.e_x rfl (by kernel_rfl) ?_
      go_wp2
      have ha : Aw (fun j => j = go) x4 (x4.setCell ⟨go, 0, none⟩ (.slice A28 n28 c28)) := (Aw.refl _ _).set _ rfl
      replace hgo := blk_set (i := 0) hgo (.slice A28 n28 c28)
      replace own28 := own_aw own28 ha (fun j hj hu => hne28 j hj hu)
      replace hS := below_awG hS ha (fun j hj => by rw [hj]; exact hgS) hS.size
      refine OrdY.Seg.go hS (fun h => by cases h) ?_
      (try simp only [Act.put, List.setIfInBounds_toArray, List.set_cons_zero, List.set_cons_succ])
      refine OrdY.e_nil ?_
      clear s1 s2 ha
      generalize (x4.setCell ⟨go, 0, none⟩ (.slice A28 n28 c28)) = y at *
      clear c0 c1 c2 x0
      have hyW : W.heap.size ≤ y.heap.size := hS.size
      have b0 : RcB y w.heap.size t V := (hS.block _ (by omega)).trans i1
      have b1 : RcB y (w.heap.size + 1) t' V' := (hS.block _ (by omega)).trans i2
      have hdl := blk_lt hd
      have hdy := (hS.block _ hdl).trans hd
      have hby := i4.trans (hS.mono (by omega))
      replace hgo : y.heap[go]? = some (.cells #[.slice A28 n28 c28] 26) := hgo
      have hlgo := blk_lt hgo
      have hn20 : n28 ≤ 20 := by rw [HN28.out]; omega
      have hWq : ∀ k, (Value.slice A28 n28 c28).ownBlock = some k → W.heap.size ≤ k ∧ k < y.heap.size := fun k hk => own_blk own28 hk
      clear i1 i2 i3 i4 hd hS
      gi_wp2_with (with_reducible refine stop_loadI 25 ?_)
      refine go_ (wideList_load_mid w.heap.size 0 rfl _ _ b0.all Try.underlying25 rfl (by rw [rcC_size t V HV.out]; kernel_rfl) ?_)
      gi_wp2_with (with_reducible refine stop_loadI 25 ?_)
      refine go_ (wideList_load_mid (w.heap.size + 1) 0 rfl _ _ b1.all Try.underlying25 rfl (by rw [rcC_size t' V' HV'.out]; kernel_rfl) ?_)
      gi_wp2_with fail
      refine ⟨trivial, (callsIn_wide.2 (changed_any (rcC t V) (rcC t' V') y)).mono ?_⟩
      rintro x z ⟨rfl, rfl⟩
      obtain ⟨d0, d1, hs3, hb3⟩ := al2 y (.cells (rcC t V).toArray 25) (.cells (rcC t' V').toArray 25)
      have ownz := own_up own28 hb3 (Nat.le_refl _)
      have hdz := (hb3.block _ (Nat.lt_of_lt_of_le hdl hyW)).trans hdy
      have hgz := (hb3.block _ hlgo).trans hgo
      have hbz := hby.trans (hb3.mono hby.size)
      obtain ⟨m, hm⟩ : ∃ m, m = y.heap.size := ⟨_, rfl⟩
      rw [← hm] at d0 d1 hs3 hlgo hWq hyW ⊢
      generalize ((y.alloc (.cells (rcC t V).toArray 25)).alloc (.cells (rcC t' V').toArray 25)) = z at *
      replace d0 : RcB z m t V := d0
      replace d1 : RcB z (m + 1) t' V' := d1
      clear hb3 hdy hgo hby b0 b1 own28 hm
      gi_wp2_with fail
      refine rangeFunc_R rfl (enters_of Try.func106 (by kernel_rfl) rfl) (changed_seq m (m + 1) t t' V V' _ HV.out HV'.out H32.out H32'.out)
        (fun W hW hsz => ⟨hW.keep d0 (fun hk => hk), hW.keep d1 (fun hk => hk)⟩)
        (fun x vs W hE => by rw [show vs = _ from hE]; rfl) (fun x vs A' B' hE hab => hE) (fun k hk => hk.elim)
        (fun k hk => by rw [hs3]; omega)
        (D2 w.heap.size go W.heap.size m w2.heap.size w (varB L ++ varB M)) (fun _ _ _ => False) ?hI2 (fun _ _ _ _ h _ => h) ?h02
        (fun vs => { tmps := #[.agg (rcC t V).toArray, .agg (rcC t' V').toArray, .pointer (some ⟨w.heap.size, 0, none⟩), .pointer (some ⟨w.heap.size + 1, 0, none⟩), .slice none 0 0, .pointer (some ⟨w.heap.size + 2, 0, none⟩), undef, .pointer (some ⟨go, 0, none⟩), undef, vs.getD 1 undef, .agg (rcC t V).toArray, .agg (rcC t' V').toArray, .func (.func 106) #[] #[.pointer (some ⟨w.heap.size + 3, 0, none⟩), .pointer (some ⟨w.heap.size + 4, 0, none⟩)], undef, undef, undef, undef, undef, undef, .pointer (some ⟨w.heap.size + 1, 0, none⟩), .int .u32 t', .pointer (some ⟨w.heap.size, 0, none⟩), .int .u32 t, .int .u32 L, .int .u64 L, .slice A25 n25 c25, .int .u64 M, .slice A27 n27 c27, .slice A28 n28 c28, .agg (rcC t V).toArray, .agg (rcC t' V').toArray, .func (.func 106) #[] #[.pointer (some ⟨m, 0, none⟩), .pointer (some ⟨m + 1, 0, none⟩)], vs.getD 0 undef, vs.getD 1 undef, undef, undef, undef, undef, undef, undef], defers := [] }) ?assign2 ?body2 ?done2 (fun _ _ _ _ h => h.elim)
      case hI2 =>
        rintro pre A' B' ⟨i1, i2, A2, n2, c2, i3, i4, i5, i6⟩ hab
        have hn : ∀ k, (False ∨ k = z.heap.size ∨ k = z.heap.size + 1) → m + 2 ≤ k ∧ k ≤ m + 3 := fun k hk => hk.elim (fun h => h.elim) (fun hk => by rw [hs3] at hk; omega)
        have hA := blk_lt i3
        have hA2 := blk_lt i2
        exact ⟨below_awG i1 hab (fun k hk => by have := hn k hk; omega) i1.size, hab.keep i2 (fun hk => by have := hn _ hk; omega), A2, n2, c2, hab.keep i3 (fun hk => by have := hn _ hk; omega), own_aw i4 hab (fun k hk hu => by have := hn _ hu; have := i5 k hk; omega), i5, i6⟩
      case h02 => exact ⟨hbz, hdz, A28, n28, c28, hgz, by simpa using ownz, fun k hk => ⟨hne28 k hk, by have := hWq k hk; omega, .inl (hWq k hk).2⟩, by simpa using hn20⟩
      case assign2 =>
        rintro ll x vs W K hE hK
        obtain rfl : vs = _ := hE
        gi_wp2
        exact hK
      case body2 =>
        rintro pre x vs Wb ⟨i1, i2, A2, n2, c2, i3, i4, i5, i6⟩ hE hpre hge
        obtain rfl : vs = _ := hE
        rw [hs3] at hge
        obtain ⟨xi, xd⟩ := x
        have hlen := Nat.le_trans hpre.length_le (chP_len (V.zip V') 0)
        rw [Hzl.out, List.length_append, List.length_singleton] at hlen
        have hxd : -9223372036854775808 ≤ xd ∧ xd ≤ 9223372036854775807 := by
          refine chL_rng (V.zip V') (fun p hp => ⟨H32.out _ (List.of_mem_zip hp).1, H32'.out _ (List.of_mem_zip hp).2⟩) xd ?_
          rw [← chP_snd (V.zip V') 0]
          exact List.mem_map.2 ⟨(xi, xd), hpre.subset (by simp), rfl⟩
        have Hpre := Lib.hid hpre
        clear hpre
        gi_wp2_with fail
        refine Ord.regionIn_ (fun _ => True) true [34] (by kernel_rfl) (by kernel_rfl) (by kernel_rfl) (fun ⟨_, _, h⟩ => h) trivial ?_
        have hKW : Aw (fun _ => False) Wb Wb.drew := (Aw.refl _ Wb).drew
        have j1 := i1.drew
        have j2 : Wb.drew.heap[w2.heap.size]? = _ := i2
        have j3 : Wb.drew.heap[go]? = _ := i3
        have j4 := own_up i4 (w' := Wb.drew) (Below.refl _ _).drew (Nat.le_refl _)
        have hge1 : m + 2 + 2 ≤ Wb.drew.heap.size := hge
        generalize Wb.drew = W1 at *
        clear i1 i2 i3 i4 hge
        have cg := blk_cell (i := 0) (v := .slice A2 n2 c2) j3 rfl
        refine Ord.e_load Try.underlying26 rfl cg rfl (by rfl) (by kernel_rfl) ?_
        (try simp only [Act.put, List.setIfInBounds_toArray, List.set_cons_zero, List.set_cons_succ])
        ((with_reducible refine Ord.e_p (v := ?_) ?_ ?_ ?_ ?_); rotate_left; (· exact rfl); (· kernel_rfl); (· intro w2; go_simp; try with_reducible rfl))
        (try simp only [Act.put, List.setIfInBounds_toArray, List.set_cons_zero, List.set_cons_succ])
        refine Ord.e_x rfl (by kernel_rfl) ?_
        go_wp2
        have hrn : Rd (W1.alloc (.cells #[.int .i64 xd] 2)) (W1.heap.size + 1) 1 (some ⟨W1.heap.size, 0, none⟩) 1 1 ([xd].map (Value.int .i64)) := rd_litG W1 2 [.int .i64 xd] (by simp [maxLen])
        have hbn : Below W1.heap.size W1 (W1.alloc (.cells #[.int .i64 xd] 2)) := (Below.refl _ _).alloc (Nat.le_refl _) _
        have hsn : (W1.alloc (.cells #[.int .i64 xd] 2)).heap.size = W1.heap.size + 1 := World.size_alloc _ _
        refine Ord.Seg.go trivial (fun _ => hbn) ?_
        (try simp only [Act.put, List.setIfInBounds_toArray, List.set_cons_zero, List.set_cons_succ])
        generalize (W1.alloc (.cells #[.int .i64 xd] 2)) = W3 at *
        have hA3 : Aw (fun _ => False) W1 W3 := Aw.of_below' hbn
        have Hsn := Lib.hid hsn
        clear hsn
        refine Ord.e_x rfl (by kernel_rfl) ?_
        go_wp2_with fail
        go_fit (varyInts_any (some ⟨W1.heap.size, 0, none⟩) 1 1 (W1.heap.size + 1) [xd] W3 hrn (by rw [Hsn.out]; exact Nat.le_refl _) (by intro x hx; simp at hx; rw [hx]; exact hxd) (by omega))
        rintro e W4 ⟨A4, c4, n4, rfl, hown4, hb34⟩
        go_wp2_with fail
        refine Ord.Seg.go trivial (fun _ => hb34) ?_
        (try simp only [Act.put, List.setIfInBounds_toArray, List.set_cons_zero, List.set_cons_succ])
        have hw4 := own_len hown4
        have hv4 : (varB (zigV xd)).length ≤ 10 := (varN_len 9 (zigV xd)).2
        have hfm : ([xd].flatMap fun d => varB (zigV d)) = varB (zigV xd) := by simp
        rw [hfm] at hw4 hown4
        have hA4 : Aw (fun _ => False) W1 W4 := hA3.trans (Aw.of_below' hb34)
        have k4 := own_aw j4 hA4 (fun k hk hu => hu)
        have k3 := hA4.keep j3 (fun h => h)
        have k2 := hA4.keep j2 (fun h => h)
        have k1 := below_awG j1 hA4 (fun k h => h.elim) j1.size
        have hsz4 := hA4.size
        clear cg hrn hbn hb34 hA3 hfm
        refine Ord.e_x rfl (by kernel_rfl) ?_
        refine wpList_appG (base := W.heap.size) (n := n2) Try.underlying26 Hi.out rfl (by omega) k4 rfl (Rd.own hown4) rfl (bv_one _) (k := n2 + n4) rfl (bv_app _ _).symm (by unfold maxLen; omega) (by omega) (by omega) ?_
        intro A5 c5 W5 own5 hgr hob
        have hobk : ∀ k, (Value.slice A2 n2 c2).ownBlock = some k → k < W1.heap.size := fun k hk => (own_blk j4 hk).2
        have hA5 := Aw.of_grown hgr
        have l3 := hA5.keep k3 (fun hu => (i5 _ hu).1 rfl)
        have l2 := hA5.keep k2 (fun hu => (i5 _ hu).2.1 rfl)
        have l1 := below_awG k1 hA5 (fun k hu => by have := (own_blk k4 hu).1; omega) k1.size
        have l5 : ∀ k, (Value.slice A5 (n2 + n4) c5).ownBlock = some k → k ≠ go ∧ k ≠ w2.heap.size ∧ (k < m ∨ m + 4 ≤ k) := fun k hk => by
          rcases hob with hob | hob
          · exact i5 k (by rw [← hob]; exact hk)
          · rw [hk] at hob
            injection hob with hob
            have h1 := blk_lt k3
            have h2 := blk_lt k2
            omega
        obtain ⟨n5, hn5⟩ : ∃ k, k = n2 + n4 := ⟨_, rfl⟩
        rw [← hn5] at own5 l5 ⊢
        have Hn5 := Lib.hid hn5
        clear hn5 hgr
        go_wp2_with fail
        refine Ord.Seg.go trivial (fun h => by cases h) ?_
        (try simp only [Act.put, List.setIfInBounds_toArray, List.set_cons_zero, List.set_cons_succ])
        have s1 := blk_cell (i := 0) (v := .slice A2 n2 c2) l3 rfl
        have s2 := blk_free (i := 0) l3
        refine Ord.e_x rfl (by kernel_rfl) ?_
        go_wp2
        refine Ord.Seg.go trivial (fun h => by cases h) ?_
        (try simp only [Act.put, List.setIfInBounds_toArray, List.set_cons_zero, List.set_cons_succ])
        refine Ord.e_nil ?_
        have hA6 : Aw (fun k => k = go) W5 (W5.setCell ⟨go, 0, none⟩ (.slice A5 n5 c5)) := (Aw.refl _ _).set _ rfl
        have m3 := blk_set (i := 0) l3 (.slice A5 n5 c5)
        have m2 := hA6.keep l2 (fun e => by omega)
        have m1 := below_awG l1 hA6 (fun k hk => by omega) l1.size
        have m4 := own_aw own5 hA6 (fun k hk hu => (l5 k hk).1 hu)
        have hAll : Aw (fun k => (Value.slice A2 n2 c2).ownBlock = some k ∨ k = go) Wb (W5.setCell ⟨go, 0, none⟩ (.slice A5 n5 c5)) := (((hKW.trans hA4).mono (U' := fun k => (Value.slice A2 n2 c2).ownBlock = some k ∨ k = go) (fun _ h => h.elim)).trans (hA5.mono fun k h => .inl h)).trans (hA6.mono fun k h => .inr h)
        refine ⟨hAll.keeps fun k hk hu => ?_, m1, m2, A5, n5, c5, m3, ?_, l5, ?_⟩
        · rcases hu with hu | hu
          · have := (i5 k hu).2.2
            rcases hk with (rfl | rfl) | rfl | rfl <;> (try rw [hs3] at *) <;> omega
          · rcases hk with (rfl | rfl) | rfl | rfl <;> (try rw [hs3] at *) <;> omega
        · rw [List.map_append, List.flatMap_append, ← List.append_assoc]
          simpa using m4
        · rw [Hn5.out, List.length_append, List.length_singleton]
          omega
      case done2 =>
        rintro Wd ⟨i1, i2, A2, n2, c2, i3, i4, i5, i6⟩ hd2
        rw [chP_snd, List.append_assoc, HL.out, HM.out] at i4
        replace i4 : Wd.ownsRow W.heap.size 5 1 (.slice A2 n2 c2) n2 (bv (recD t V t' V')) := i4
        have cg := blk_cell (i := 0) (v := .slice A2 n2 c2) i3 rfl
        gi_wp2
        refine ⟨by simp, .inl ⟨_, _, rfl, run_takeDeferred hd2, ?_⟩⟩
        have hA7 : Aw (fun k => k = z.heap.size) Wd (Wd.putObj z.heap.size (.deferred none)) := (Aw.refl _ _).put _ rfl
        have o2 := hA7.keep i2 (by rw [hs3]; omega)
        have o1 := below_awG i1 hA7 (fun k hk => by rw [hs3] at hk; omega) i1.size
        have o4 := own_aw i4 hA7 (fun k hk hu => by rw [hs3] at hu; have := (i5 k hk).2.2; omega)
        generalize Wd.putObj z.heap.size (.deferred none) = We at *
        refine ⟨by simp, .inl ⟨_, _, rfl, run_takeDeferred o2, ?_⟩⟩
        have hA8 : Aw (fun k => k = w2.heap.size) We (We.putObj w2.heap.size (.deferred none)) := (Aw.refl _ _).put _ rfl
        have q1 := below_awG o1 hA8 (fun k hk => by omega) o1.size
        have q4 := own_aw o4 hA8 (fun k hk hu => (i5 k hk).2.1 hu)
        refine ⟨_, results_tmp (fn := Try.f23) Try.results23 _ _ _, A2, c2, n2, rfl, own_mono q4 (by omega), q1⟩
    · simp only [Ord.lst, List.filterMap_cons, List.filterMap_nil, List.getElem?_toArray, List.getElem?_cons_succ, List.getElem?_cons_zero]
      refine OrdY.e_x rfl (by kernel_rfl) ?_
      go_wp2
      have hbx : Below x0.heap.size x0 (x0.alloc (.cells #[.slice none 0 0] 26)) := (Below.refl _ _).alloc (Nat.le_refl _) _
      have hgo := heap_alloc_new x0 (.cells #[.slice none 0 0] 26)
      have hgS : W.heap.size ≤ x0.heap.size := hS.size
      replace hS := hS.trans (hbx.mono hS.size)
      clear hbx
      refine OrdY.Seg.go hS (fun h => by cases h) ?_
      (try simp only [Act.put, List.setIfInBounds_toArray, List.set_cons_zero, List.set_cons_succ])
      generalize (x0.alloc (.cells #[.slice none 0 0] 26)) = x1 at *
      generalize x0.heap.size = go at *
      ((with_reducible refine OrdY.e_p (v := ?_) ?_ ?_ ?_ ?_); rotate_left; (· exact rfl); (· kernel_rfl); (· intro w2; go_simp; try with_reducible rfl))
      (try simp only [Act.put, List.setIfInBounds_toArray, List.set_cons_zero, List.set_cons_succ])
      refine OrdY.e_loadS Try.underlying22 rfl (fun w' hS => ((show Below _ W w' from hS).cell (p := ⟨w.heap.size + 1, 0, none⟩) (by show w.heap.size + 1 < _; omega)).trans c1) hS rfl (by kernel_rfl) ?_
      (try simp only [Act.put, List.setIfInBounds_toArray, List.set_cons_zero, List.set_cons_succ])
      ((with_reducible refine OrdY.e_p (v := ?_) ?_ ?_ ?_ ?_); rotate_left; (· exact rfl); (· kernel_rfl); (· intro w2; go_simp; try with_reducible rfl))
      (try simp only [Act.put, List.setIfInBounds_toArray, List.set_cons_zero, List.set_cons_succ])
      refine OrdY.e_loadS Try.underlying22 rfl (fun w' hS => ((show Below _ W w' from hS).cell (p := ⟨w.heap.size, 0, none⟩) (by show w.heap.size < _; omega)).trans c0) hS rfl (by kernel_rfl) ?_
      (try simp only [Act.put, List.setIfInBounds_toArray, List.set_cons_zero, List.set_cons_succ])
      ((with_reducible refine OrdY.e_p (v := ?_) ?_ ?_ ?_ ?_); rotate_left; (· exact rfl); (· kernel_rfl); (· intro w2; go_simp; try with_reducible rfl))
      (try simp only [Act.put, List.setIfInBounds_toArray, List.set_cons_zero, List.set_cons_succ])
      ((with_reducible refine OrdY.e_p (v := ?_) ?_ ?_ ?_ ?_); rotate_left; (· exact rfl); (· kernel_rfl); (· intro w2; go_simp; try with_reducible rfl))
      (try simp only [Act.put, List.setIfInBounds_toArray, List.set_cons_zero, List.set_cons_succ])
      refine OrdY.e_x rfl (by kernel_rfl) ?_
      go_wp2_with fail
      go_fit (varyPut_any L x1 (by omega))
      rintro e x2 ⟨A25, c25, n25, rfl, own25, hbx⟩
      have hw25 := own_len own25
      have hv25 : (varB L).length ≤ 10 := (varN_len 9 L).2
      have hne25 : ∀ k, (Value.slice A25 n25 c25).ownBlock = some k → k ≠ go := fun k hk => by have := (own_blk own25 hk).1; have := blk_lt hgo; omega
      replace own25 := own_mono own25 (base' := W.heap.size) hS.size
      replace hgo := blk_old hgo hbx (blk_lt hgo)
      replace hS := hS.trans (hbx.mono hS.size)
      clear hbx
      go_wp2_with fail
      refine OrdY.Seg.go hS (fun h => by cases h) ?_
      (try simp only [Act.put, List.setIfInBounds_toArray, List.set_cons_zero, List.set_cons_succ])
      refine OrdY.e_loadS Try.underlying107 rfl (fun w' hS => ((show Below _ W w' from hS).cell (p := ⟨w.heap.size + 2, 0, none⟩) hg2).trans c2) hS rfl (by kernel_rfl) ?_
      (try simp only [Act.put, List.setIfInBounds_toArray, List.set_cons_zero, List.set_cons_succ])
      refine OrdY.e_x rfl (by kernel_rfl) ?_
      go_wp2_with fail
      go_fit (varyPut_any M x2 (by omega))
      rintro e x3 ⟨A27, c27, n27, rfl, own27, hbx⟩
      have hw27 := own_len own27
      have hv27 : (varB M).length ≤ 10 := (varN_len 9 M).2
      have hne27 : ∀ k, (Value.slice A27 n27 c27).ownBlock = some k → k ≠ go := fun k hk => by have := (own_blk own27 hk).1; have := blk_lt hgo; omega
      replace own27 := own_mono own27 (base' := W.heap.size) hS.size
      replace hgo := blk_old hgo hbx (blk_lt hgo)
      replace own25 := own_up own25 hbx (Nat.le_refl _)
      replace hS := hS.trans (hbx.mono hS.size)
      clear hbx
      go_wp2_with fail
      refine OrdY.Seg.go hS (fun h => by cases h) ?_
      (try simp only [Act.put, List.setIfInBounds_toArray, List.set_cons_zero, List.set_cons_succ])
      refine OrdY.e_x rfl (by kernel_rfl) ?_
      refine wpList_appG (base := W.heap.size) (n := n25) Try.underlying26 Hi.out rfl (by omega) own25 rfl (Rd.own own27) rfl (bv_one _) (k := n25 + n27) rfl (bv_app _ _).symm (by unfold maxLen; omega) (by omega) hS.size ?_
      intro A28 c28 x4 own28 hgr hob
      have hne28 : ∀ k, (Value.slice A28 (n25 + n27) c28).ownBlock = some k → k ≠ go := fun k hk => by
        rcases hob with hob | hob
        · exact hne25 k (by rw [← hob]; exact hk)
        · rw [hk] at hob; injection hob with hob; have := blk_lt hgo; omega
      replace hgo := (hgr.block _ (blk_lt hgo) (fun e => by have := hne25 _ e.symm; omega)).trans hgo
      obtain ⟨n28, hn28⟩ : ∃ m, m = n25 + n27 := ⟨_, rfl⟩
      rw [← hn28] at own28 ⊢
      rw [← hn28] at hne28
      have HN28 := Lib.hid hn28
      clear hn28
      replace hS := Below.grown hS hgr hS.size (fun j hj => (own_blk own25 hj).1)
      clear hgr hob own25 own27
      go_wp2_with fail
      refine OrdY.Seg.go hS (fun h => by cases h) ?_
      (try simp only [Act.put, List.setIfInBounds_toArray, List.set_cons_zero, List.set_cons_succ])
      have s1 : x4.cell? ⟨go, 0, none⟩ = some (.slice none 0 0) := blk_cell hgo rfl
      have s2 : x4.frozen? ⟨go, 0, none⟩ = false := blk_free (i := 0) hgo
      refine OrdY.e_x rfl (by kernel_rfl) ?_
      go_wp2
      have ha : Aw (fun j => j = go) x4 (x4.setCell ⟨go, 0, none⟩ (.slice A28 n28 c28)) := (Aw.refl _ _).set _ rfl
      replace hgo := blk_set (i := 0) hgo (.slice A28 n28 c28)
      replace own28 := own_aw own28 ha (fun j hj hu => hne28 j hj hu)
      replace hS := below_awG hS ha (fun j hj => by rw [hj]; exact hgS) hS.size
      refine OrdY.Seg.go hS (fun h => by cases h) ?_
      (try simp only [Act.put, List.setIfInBounds_toArray, List.set_cons_zero, List.set_cons_succ])
      refine OrdY.e_nil ?_
      clear s1 s2 ha
      generalize (x4.setCell ⟨go, 0, none⟩ (.slice A28 n28 c28)) = y at *
      clear c0 c1 c2 x0
      have hyW : W.heap.size ≤ y.heap.size := hS.size
      have b0 : RcB y w.heap.size t V := (hS.block _ (by omega)).trans i1
      have b1 : RcB y (w.heap.size + 1) t' V' := (hS.block _ (by omega)).trans i2
      have hdl := blk_lt hd
      have hdy := (hS.block _ hdl).trans hd
      have hby := i4.trans (hS.mono (by omega))
      replace hgo : y.heap[go]? = some (.cells #[.slice A28 n28 c28] 26) := hgo
      have hlgo := blk_lt hgo
      have hn20 : n28 ≤ 20 := by rw [HN28.out]; omega
      have hWq : ∀ k, (Value.slice A28 n28 c28).ownBlock = some k → W.heap.size ≤ k ∧ k < y.heap.size := fun k hk => own_blk own28 hk
      clear i1 i2 i3 i4 hd hS
      gi_wp2_with (with_reducible refine stop_loadI 25 ?_)
      refine go_ (wideList_load_mid w.heap.size 0 rfl _ _ b0.all Try.underlying25 rfl (by rw [rcC_size t V HV.out]; kernel_rfl) ?_)
      gi_wp2_with (with_reducible refine stop_loadI 25 ?_)
      refine go_ (wideList_load_mid (w.heap.size + 1) 0 rfl _ _ b1.all Try.underlying25 rfl (by rw [rcC_size t' V' HV'.out]; kernel_rfl) ?_)
      gi_wp2_with fail
      refine ⟨trivial, (callsIn_wide.2 (changed_any (rcC t V) (rcC t' V') y)).mono ?_⟩
      rintro x z ⟨rfl, rfl⟩
      obtain ⟨d0, d1, hs3, hb3⟩ := al2 y (.cells (rcC t V).toArray 25) (.cells (rcC t' V').toArray 25)
      have ownz := own_up own28 hb3 (Nat.le_refl _)
      have hdz := (hb3.block _ (Nat.lt_of_lt_of_le hdl hyW)).trans hdy
      have hgz := (hb3.block _ hlgo).trans hgo
      have hbz := hby.trans (hb3.mono hby.size)
      obtain ⟨m, hm⟩ : ∃ m, m = y.heap.size := ⟨_, rfl⟩
      rw [← hm] at d0 d1 hs3 hlgo hWq hyW ⊢
      generalize ((y.alloc (.cells (rcC t V).toArray 25)).alloc (.cells (rcC t' V').toArray 25)) = z at *
      replace d0 : RcB z m t V := d0
      replace d1 : RcB z (m + 1) t' V' := d1
      clear hb3 hdy hgo hby b0 b1 own28 hm
      gi_wp2_with fail
      refine rangeFunc_R rfl (enters_of Try.func106 (by kernel_rfl) rfl) (changed_seq m (m + 1) t t' V V' _ HV.out HV'.out H32.out H32'.out)
        (fun W hW hsz => ⟨hW.keep d0 (fun hk => hk), hW.keep d1 (fun hk => hk)⟩)
        (fun x vs W hE => by rw [show vs = _ from hE]; rfl) (fun x vs A' B' hE hab => hE) (fun k hk => hk.elim)
        (fun k hk => by rw [hs3]; omega)
        (D2 w.heap.size go W.heap.size m w2.heap.size w (varB L ++ varB M)) (fun _ _ _ => False) ?hI2 (fun _ _ _ _ h _ => h) ?h02
        (fun vs => { tmps := #[.agg (rcC t V).toArray, .agg (rcC t' V').toArray, .pointer (some ⟨w.heap.size, 0, none⟩), .pointer (some ⟨w.heap.size + 1, 0, none⟩), .slice none 0 0, .pointer (some ⟨w.heap.size + 2, 0, none⟩), undef, .pointer (some ⟨go, 0, none⟩), undef, vs.getD 1 undef, .agg (rcC t V).toArray, .agg (rcC t' V').toArray, .func (.func 106) #[] #[.pointer (some ⟨w.heap.size + 3, 0, none⟩), .pointer (some ⟨w.heap.size + 4, 0, none⟩)], undef, undef, undef, undef, undef, undef, .pointer (some ⟨w.heap.size + 1, 0, none⟩), .int .u32 t', .pointer (some ⟨w.heap.size, 0, none⟩), .int .u32 t, .int .u32 L, .int .u64 L, .slice A25 n25 c25, .int .u64 M, .slice A27 n27 c27, .slice A28 n28 c28, .agg (rcC t V).toArray, .agg (rcC t' V').toArray, .func (.func 106) #[] #[.pointer (some ⟨m, 0, none⟩), .pointer (some ⟨m + 1, 0, none⟩)], vs.getD 0 undef, vs.getD 1 undef, undef, undef, undef, undef, undef, undef], defers := [] }) ?assign2 ?body2 ?done2 (fun _ _ _ _ h => h.elim)
      case hI2 =>
        rintro pre A' B' ⟨i1, i2, A2, n2, c2, i3, i4, i5, i6⟩ hab
        have hn : ∀ k, (False ∨ k = z.heap.size ∨ k = z.heap.size + 1) → m + 2 ≤ k ∧ k ≤ m + 3 := fun k hk => hk.elim (fun h => h.elim) (fun hk => by rw [hs3] at hk; omega)
        have hA := blk_lt i3
        have hA2 := blk_lt i2
        exact ⟨below_awG i1 hab (fun k hk => by have := hn k hk; omega) i1.size, hab.keep i2 (fun hk => by have := hn _ hk; omega), A2, n2, c2, hab.keep i3 (fun hk => by have := hn _ hk; omega), own_aw i4 hab (fun k hk hu => by have := hn _ hu; have := i5 k hk; omega), i5, i6⟩
      case h02 => exact ⟨hbz, hdz, A28, n28, c28, hgz, by simpa using ownz, fun k hk => ⟨hne28 k hk, by have := hWq k hk; omega, .inl (hWq k hk).2⟩, by simpa using hn20⟩
      case assign2 =>
        rintro ll x vs W K hE hK
        obtain rfl : vs = _ := hE
        gi_wp2
        exact hK
      case body2 =>
        rintro pre x vs Wb ⟨i1, i2, A2, n2, c2, i3, i4, i5, i6⟩ hE hpre hge
        obtain rfl : vs = _ := hE
        rw [hs3] at hge
        obtain ⟨xi, xd⟩ := x
        have hlen := Nat.le_trans hpre.length_le (chP_len (V.zip V') 0)
        rw [Hzl.out, List.length_append, List.length_singleton] at hlen
        have hxd : -9223372036854775808 ≤ xd ∧ xd ≤ 9223372036854775807 := by
          refine chL_rng (V.zip V') (fun p hp => ⟨H32.out _ (List.of_mem_zip hp).1, H32'.out _ (List.of_mem_zip hp).2⟩) xd ?_
          rw [← chP_snd (V.zip V') 0]
          exact List.mem_map.2 ⟨(xi, xd), hpre.subset (by simp), rfl⟩
        have Hpre := Lib.hid hpre
        clear hpre
        gi_wp2_with fail
        refine Ord.regionIn_ (fun _ => True) true [34] (by kernel_rfl) (by kernel_rfl) (by kernel_rfl) (fun ⟨_, _, h⟩ => h) trivial ?_
        have hKW : Aw (fun _ => False) Wb Wb.drew := (Aw.refl _ Wb).drew
        have j1 := i1.drew
        have j2 : Wb.drew.heap[w2.heap.size]? = _ := i2
        have j3 : Wb.drew.heap[go]? = _ := i3
        have j4 := own_up i4 (w' := Wb.drew) (Below.refl _ _).drew (Nat.le_refl _)
        have hge1 : m + 2 + 2 ≤ Wb.drew.heap.size := hge
        generalize Wb.drew = W1 at *
        clear i1 i2 i3 i4 hge
        have cg := blk_cell (i := 0) (v := .slice A2 n2 c2) j3 rfl
        refine Ord.e_load Try.underlying26 rfl cg rfl (by rfl) (by kernel_rfl) ?_
        (try simp only [Act.put, List.setIfInBounds_toArray, List.set_cons_zero, List.set_cons_succ])
        ((with_reducible refine Ord.e_p (v := ?_) ?_ ?_ ?_ ?_); rotate_left; (· exact rfl); (· kernel_rfl); (· intro w2; go_simp; try with_reducible rfl))
        (try simp only [Act.put, List.setIfInBounds_toArray, List.set_cons_zero, List.set_cons_succ])
        refine Ord.e_x rfl (by kernel_rfl) ?_
        go_wp2
        have hrn : Rd (W1.alloc (.cells #[.int .i64 xd] 2)) (W1.heap.size + 1) 1 (some ⟨W1.heap.size, 0, none⟩) 1 1 ([xd].map (Value.int .i64)) := rd_litG W1 2 [.int .i64 xd] (by simp [maxLen])
        have hbn : Below W1.heap.size W1 (W1.alloc (.cells #[.int .i64 xd] 2)) := (Below.refl _ _).alloc (Nat.le_refl _) _
        have hsn : (W1.alloc (.cells #[.int .i64 xd] 2)).heap.size = W1.heap.size + 1 := World.size_alloc _ _
        refine Ord.Seg.go trivial (fun _ => hbn) ?_
        (try simp only [Act.put, List.setIfInBounds_toArray, List.set_cons_zero, List.set_cons_succ])
        generalize (W1.alloc (.cells #[.int .i64 xd] 2)) = W3 at *
        have hA3 : Aw (fun _ => False) W1 W3 := Aw.of_below' hbn
        have Hsn := Lib.hid hsn
        clear hsn
        refine Ord.e_x rfl (by kernel_rfl) ?_
        go_wp2_with fail
        go_fit (varyInts_any (some ⟨W1.heap.size, 0, none⟩) 1 1 (W1.heap.size + 1) [xd] W3 hrn (by rw [Hsn.out]; exact Nat.le_refl _) (by intro x hx; simp at hx; rw [hx]; exact hxd) (by omega))
        rintro e W4 ⟨A4, c4, n4, rfl, hown4, hb34⟩
        go_wp2_with fail
        refine Ord.Seg.go trivial (fun _ => hb34) ?_
        (try simp only [Act.put, List.setIfInBounds_toArray, List.set_cons_zero, List.set_cons_succ])
        have hw4 := own_len hown4
        have hv4 : (varB (zigV xd)).length ≤ 10 := (varN_len 9 (zigV xd)).2
        have hfm : ([xd].flatMap fun d => varB (zigV d)) = varB (zigV xd) := by simp
        rw [hfm] at hw4 hown4
        have hA4 : Aw (fun _ => False) W1 W4 := hA3.trans (Aw.of_below' hb34)
        have k4 := own_aw j4 hA4 (fun k hk hu => hu)
        have k3 := hA4.keep j3 (fun h => h)
        have k2 := hA4.keep j2 (fun h => h)
        have k1 := below_awG j1 hA4 (fun k h => h.elim) j1.size
        have hsz4 := hA4.size
        clear cg hrn hbn hb34 hA3 hfm
        refine Ord.e_x rfl (by kernel_rfl) ?_
        refine wpList_appG (base := W.heap.size) (n := n2) Try.underlying26 Hi.out rfl (by omega) k4 rfl (Rd.own hown4) rfl (bv_one _) (k := n2 + n4) rfl (bv_app _ _).symm (by unfold maxLen; omega) (by omega) (by omega) ?_
        intro A5 c5 W5 own5 hgr hob
        have hobk : ∀ k, (Value.slice A2 n2 c2).ownBlock = some k → k < W1.heap.size := fun k hk => (own_blk j4 hk).2
        have hA5 := Aw.of_grown hgr
        have l3 := hA5.keep k3 (fun hu => (i5 _ hu).1 rfl)
        have l2 := hA5.keep k2 (fun hu => (i5 _ hu).2.1 rfl)
        have l1 := below_awG k1 hA5 (fun k hu => by have := (own_blk k4 hu).1; omega) k1.size
        have l5 : ∀ k, (Value.slice A5 (n2 + n4) c5).ownBlock = some k → k ≠ go ∧ k ≠ w2.heap.size ∧ (k < m ∨ m + 4 ≤ k) := fun k hk => by
          rcases hob with hob | hob
          · exact i5 k (by rw [← hob]; exact hk)
          · rw [hk] at hob
            injection hob with hob
            have h1 := blk_lt k3
            have h2 := blk_lt k2
            omega
        obtain ⟨n5, hn5⟩ : ∃ k, k = n2 + n4 := ⟨_, rfl⟩
        rw [← hn5] at own5 l5 ⊢
        have Hn5 := Lib.hid hn5
        clear hn5 hgr
        go_wp2_with fail
        refine Ord.Seg.go trivial (fun h => by cases h) ?_
        (try simp only [Act.put, List.setIfInBounds_toArray, List.set_cons_zero, List.set_cons_succ])
        have s1 := blk_cell (i := 0) (v := .slice A2 n2 c2) l3 rfl
        have s2 := blk_free (i := 0) l3
        refine Ord.e_x rfl (by kernel_rfl) ?_
        go_wp2
        refine Ord.Seg.go trivial (fun h => by cases h) ?_
        (try simp only [Act.put, List.setIfInBounds_toArray, List.set_cons_zero, List.set_cons_succ])
        refine Ord.e_nil ?_
        have hA6 : Aw (fun k => k = go) W5 (W5.setCell ⟨go, 0, none⟩ (.slice A5 n5 c5)) := (Aw.refl _ _).set _ rfl
        have m3 := blk_set (i := 0) l3 (.slice A5 n5 c5)
        have m2 := hA6.keep l2 (fun e => by omega)
        have m1 := below_awG l1 hA6 (fun k hk => by omega) l1.size
        have m4 := own_aw own5 hA6 (fun k hk hu => (l5 k hk).1 hu)
        have hAll : Aw (fun k => (Value.slice A2 n2 c2).ownBlock = some k ∨ k = go) Wb (W5.setCell ⟨go, 0, none⟩ (.slice A5 n5 c5)) := (((hKW.trans hA4).mono (U' := fun k => (Value.slice A2 n2 c2).ownBlock = some k ∨ k = go) (fun _ h => h.elim)).trans (hA5.mono fun k h => .inl h)).trans (hA6.mono fun k h => .inr h)
        refine ⟨hAll.keeps fun k hk hu => ?_, m1, m2, A5, n5, c5, m3, ?_, l5, ?_⟩
        · rcases hu with hu | hu
          · have := (i5 k hu).2.2
            rcases hk with (rfl | rfl) | rfl | rfl <;> (try rw [hs3] at *) <;> omega
          · rcases hk with (rfl | rfl) | rfl | rfl <;> (try rw [hs3] at *) <;> omega
        · rw [List.map_append, List.flatMap_append, ← List.append_assoc]
          simpa using m4
        · rw [Hn5.out, List.length_append, List.length_singleton]
          omega
      case done2 =>
        rintro Wd ⟨i1, i2, A2, n2, c2, i3, i4, i5, i6⟩ hd2
        rw [chP_snd, List.append_assoc, HL.out, HM.out] at i4
        replace i4 : Wd.ownsRow W.heap.size 5 1 (.slice A2 n2 c2) n2 (bv (recD t V t' V')) := i4
        have cg := blk_cell (i := 0) (v := .slice A2 n2 c2) i3 rfl
        gi_wp2
        refine ⟨by simp, .inl ⟨_, _, rfl, run_takeDeferred hd2, ?_⟩⟩
        have hA7 : Aw (fun k => k = z.heap.size) Wd (Wd.putObj z.heap.size (.deferred none)) := (Aw.refl _ _).put _ rfl
        have o2 := hA7.keep i2 (by rw [hs3]; omega)
        have o1 := below_awG i1 hA7 (fun k hk => by rw [hs3] at hk; omega) i1.size
        have o4 := own_aw i4 hA7 (fun k hk hu => by rw [hs3] at hu; have := (i5 k hk).2.2; omega)
        generalize Wd.putObj z.heap.size (.deferred none) = We at *
        refine ⟨by simp, .inl ⟨_, _, rfl, run_takeDeferred o2, ?_⟩⟩
        have hA8 : Aw (fun k => k = w2.heap.size) We (We.putObj w2.heap.size (.deferred none)) := (Aw.refl _ _).put _ rfl
        have q1 := below_awG o1 hA8 (fun k hk => by omega) o1.size
        have q4 := own_aw o4 hA8 (fun k hk hu => (i5 k hk).2.1 hu)
        refine ⟨_, results_tmp (fn := Try.f23) Try.results23 _ _ _, A2, c2, n2, rfl, own_mono q4 (by omega), q1⟩

end Go.Proofs.Ytplgcfjcdjlnbaa
