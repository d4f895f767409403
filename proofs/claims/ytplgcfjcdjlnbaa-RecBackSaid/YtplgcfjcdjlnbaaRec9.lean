/-
  rec.TakeDelta walked (printed by gen_rec9.py).
-/
import Derived.Test.YtplgcfjcdjlnbaaRec8
import Derived.Test.YtplgcfjcdjlnbaaRecGo
import Derived.Test.YtplgcfjcdjlnbaaOrders
set_option linter.unusedSimpArgs false
set_option linter.unusedVariables false
namespace Go.Proofs.Ytplgcfjcdjlnbaa
open Go.RowKit NumLaw
attribute [local go_sem] Addr.add_mid

theorem byF_eq : byF = byE := rfl
/-- What next leaves: the number, the place, the error. -/
def nuU (b : List UInt8) (k e : Nat) : Nat := if e = 0 then (varT (b.drop k)).1 else 0
def nuK (b : List UInt8) (k e : Nat) : Nat := if e = 0 then k + (varT (b.drop k)).2.1 else k
def nuE (b : List UInt8) (k e most : Nat) : Nat := if e = 0 then nxE (varT (b.drop k)) most else e
theorem varT_lt (b : List UInt8) : (varT b).1 < 18446744073709551616 := by
  by_cases hz : (varT b).2.2 = 0
  · exact (varT_back hz).2.2.2
  · have := (varTL_none b 0 hz).1
    unfold varT
    omega
theorem nuU_lt (b : List UInt8) (k e : Nat) : nuU b k e < 18446744073709551616 := by
  unfold nuU
  split
  · exact varT_lt _
  · omega
theorem next_all (g : Nat) (A : Option Addr) (n c k e B most : Nat) (b : List UInt8) (w : World) (hE : EyeB w g A n c k e) (h : Rd w B 1 A n c (bv b)) (hB : B ≤ w.heap.size) (hk : e = 0 → k ≤ n) (hn : n ≤ 1000000) (hm : most < 18446744073709551616) :
    Calls Try.prog 83 #[.pointer (some ⟨g, 0, none⟩), .int .u64 (most : Int)] w fun x w' =>
      x = .returned (.int .u64 (nuU b k e : Int)) ∧ EyeB w' g A n c (nuK b k e) (nuE b k e most) ∧ Aw (fun j => j = g) w w' := by
  by_cases he : e = 0
  · subst he
    exact next34_any g A n c k B most b w hE h hB (hk rfl) hn hm
  · refine (nextBad_any g A n c k e most w hE he).mono ?_
    rintro x w' ⟨rfl, rfl⟩
    unfold nuU nuK nuE
    rw [if_neg he, if_neg he, if_neg he]
    exact ⟨rfl, hE, Aw.refl _ _⟩
/-- The first two numbers, and where the taking stands behind them. -/
theorem tk_two {t : Nat} {V : List Int} {b : List UInt8} :
    (nuE b (nuK b 0 0) (nuE b 0 0 4294967295) 4095 = 0 → nuU b (nuK b 0 0) (nuE b 0 0 4294967295) = tkM b ∧ TkG t V b 0 [] (nuK b (nuK b 0 0) (nuE b 0 0 4294967295))) ∧
    (nuE b (nuK b 0 0) (nuE b 0 0 4294967295) 4095 ≠ 0 → recTE V b = nuE b (nuK b 0 0) (nuE b 0 0 4294967295) 4095) := by
  have e1 : nuK b 0 0 = (varT b).2.1 := by unfold nuK; rw [if_pos rfl, List.drop_zero, Nat.zero_add]
  have e2 : nuE b 0 0 4294967295 = nxE (varT b) 4294967295 := by unfold nuE; rw [if_pos rfl, List.drop_zero]
  rw [e1, e2]
  by_cases h1 : (varT b).2.2 = 0
  · by_cases h2 : 4294967295 < (varT b).1
    · have e3 : nxE (varT b) 4294967295 = 5 := by unfold nxE; rw [if_pos h1, if_pos h2]
      rw [e3]
      have e4 : nuE b (varT b).2.1 5 4095 = 5 := by unfold nuE; rw [if_neg (by omega)]
      rw [e4]
      exact ⟨fun h => by omega, fun _ => recTE_2 h1 h2⟩
    · have e3 : nxE (varT b) 4294967295 = 0 := by unfold nxE; rw [if_pos h1, if_neg h2]
      rw [e3]
      have e4 : nuE b (varT b).2.1 0 4095 = nxE (varT (b.drop (varT b).2.1)) 4095 := by unfold nuE; rw [if_pos rfl]
      have e5 : nuU b (varT b).2.1 0 = tkM b := by unfold nuU; rw [if_pos rfl]; rfl
      have e6 : nuK b (varT b).2.1 0 = tkK b := by unfold nuK; rw [if_pos rfl]; rfl
      rw [e4, e5, e6]
      by_cases h3 : (varT (b.drop (varT b).2.1)).2.2 = 0
      · by_cases h4 : 4095 < tkM b
        · have e7 : nxE (varT (b.drop (varT b).2.1)) 4095 = 5 := by
            unfold nxE; rw [if_pos h3]; unfold tkM at h4; rw [if_pos h4]
          rw [e7]
          exact ⟨fun h => by omega, fun _ => recTE_4 h1 h2 h3 h4⟩
        · have e7 : nxE (varT (b.drop (varT b).2.1)) 4095 = 0 := by
            unfold nxE; rw [if_pos h3]; unfold tkM at h4; rw [if_neg h4]
          rw [e7]
          exact ⟨fun _ => ⟨rfl, tk_start h1 h2 h3 h4⟩, fun h => absurd rfl h⟩
      · have e7 : nxE (varT (b.drop (varT b).2.1)) 4095 = (varT (b.drop (varT b).2.1)).2.2 := by unfold nxE; rw [if_neg h3]
        rw [e7]
        exact ⟨fun h => absurd h h3, fun _ => recTE_3 h1 h2 h3⟩
  · have e3 : nxE (varT b) 4294967295 = (varT b).2.2 := by unfold nxE; rw [if_neg h1]
    rw [e3]
    have e4 : nuE b (varT b).2.1 (varT b).2.2 4095 = (varT b).2.2 := by unfold nuE; rw [if_neg h1]
    rw [e4]
    exact ⟨fun h => absurd h h1, fun _ => recTE_1 h1⟩
theorem and_one {a : Nat} (h : a < 18446744073709551616) : bits BinOp.and IntKind.u64 (a : Int) 1 = ((a % 2 : Nat) : Int) := by
  have := u64_and_nat a 1 h (by omega)
  rw [Nat.and_one_is_mod] at this
  exact this
theorem eye_aw {U : Nat → Prop} {w w' : World} {g : Nat} {A : Option Addr} {n c k e : Nat} (h : Aw U w w') (hE : EyeB w g A n c k e) (hu : ¬ U g) : EyeB w' g A n c k e := h.keep hE hu
theorem rcC_set0 (t t' : Nat) (V : List Int) : (rcC t V).toArray.setIfInBounds 0 (.int .u32 (t' : Int)) = (rcC t' V).toArray := by
  unfold rcC
  simp

set_option maxRecDepth 10000 in
set_option maxHeartbeats 8000000 in
theorem recTakeDelta_any (t : Nat) (V : List Int) (A : Option Addr) (n c B : Nat) (b : List UInt8) (w : World) (ht : t < 4294967296) (hV : V.length = 12) (h32 : ∀ x ∈ V, in32 x) (h : Rd w B 1 A n c (bv b)) (hB : B ≤ w.heap.size) (hn : n ≤ 1000000) :
    Calls Try.prog 28 #[.agg (rcC t V).toArray, .slice A n c] w (RetRec (recTt t V b) (recTV V b) (recTn V b) (recTE V b) w) := by
  have hlb := h.blen
  have Hlb := Lib.hid hlb
  have HV := Lib.hid hV
  have H32 := Lib.hid h32
  obtain ⟨x0, x1, x2, xs, xb⟩ := al3 w (.cells (rcC t V).toArray 25) (.cells #[.int .u32 0, .int .i32 0, .int .i32 0, .int .i32 0, .int .i32 0, .int .i32 0, .int .i32 0, .int .i32 0, .int .i32 0, .int .i32 0, .int .i32 0, .int .i32 0, .int .i32 0] 25) (.cells #[.slice A n c, .int .i64 0, .int .i64 0] 125)
  have Two := Lib.hid (tk_two (t := t) (V := V) (b := b))
  obtain ⟨u, hu⟩ : ∃ u, u = nuU b 0 0 := ⟨_, rfl⟩
  have hul := nuU_lt b 0 0
  rw [← hu] at hul
  obtain ⟨m, hm⟩ : ∃ m, m = nuU b (nuK b 0 0) (nuE b 0 0 4294967295) := ⟨_, rfl⟩
  have hml := nuU_lt b (nuK b 0 0) (nuE b 0 0 4294967295)
  rw [← hm] at hml
  have hk1 : nuE b 0 0 4294967295 = 0 → nuK b 0 0 ≤ n := fun h0 => by
    unfold nuE at h0
    rw [if_pos rfl, List.drop_zero] at h0
    unfold nuK
    rw [if_pos rfl, List.drop_zero, Nat.zero_add, ← hlb]
    unfold nxE at h0
    split at h0
    · rename_i h1; exact (varT_back h1).2.1
    · rename_i h1; exact absurd h0 h1
  obtain ⟨uu, huu⟩ : ∃ uu, uu = u % 4294967296 := ⟨_, rfl⟩
  have hcv : IntKind.u32.wrap (u : Int) = (uu : Int) := by rw [IntKind.wrap_u32]; omega
  obtain ⟨T, hT⟩ : ∃ T, T = (t + u) % 4294967296 := ⟨_, rfl⟩
  have hsum : IntKind.u32.wrap ((t : Int) + (uu : Int)) = (T : Int) := by rw [IntKind.wrap_u32]; omega
  have HT : Hid (T = (t + (varT b).1) % 4294967296) := Lib.hid (by rw [hT, hu]; unfold nuU; rw [if_pos rfl, List.drop_zero])
  have Hu := Lib.hid hu
  have Hm := Lib.hid hm
  clear hlb hV h32 hu hm hT huu
  go_enter Try.func28, Try.ntmps28
  go_wp2_with (first | (with_reducible refine stop_loadT 25 ?_) | (with_reducible refine stop_storeT 25 ?_))
  rw [show w.heap.size + 1 + 1 = w.heap.size + 2 by omega]
  generalize (((w.alloc (.cells (rcC t V).toArray 25)).alloc (.cells #[.int .u32 0, .int .i32 0, .int .i32 0, .int .i32 0, .int .i32 0, .int .i32 0, .int .i32 0, .int .i32 0, .int .i32 0, .int .i32 0, .int .i32 0, .int .i32 0, .int .i32 0] 25)).alloc (.cells #[.slice A n c, .int .i64 0, .int .i64 0] 125)) = w1 at *
  replace x0 : RcB w1 w.heap.size t V := x0
  replace x1 : RcB w1 (w.heap.size + 1) 0 z12 := x1
  replace x2 : EyeB w1 (w.heap.size + 2) A n c 0 0 := x2
  refine go_ (wpList_load_mid rfl _ _ rfl w.heap.size 0 rfl _ _ x0.all Try.underlying25 rfl (by rw [rcC_size t V HV.out]; kernel_rfl) ?_)
  go_wp2_with (first | (with_reducible refine stop_loadT 25 ?_) | (with_reducible refine stop_storeT 25 ?_) | (with_reducible refine stop_loadG 25 ?_))
  (try rw [xs])
  have hbx : Below w1.heap.size w1 (w1.alloc (.cells #[.int .u32 0, .int .i32 0, .int .i32 0, .int .i32 0, .int .i32 0, .int .i32 0, .int .i32 0, .int .i32 0, .int .i32 0, .int .i32 0, .int .i32 0, .int .i32 0, .int .i32 0] 25)) := (Below.refl _ _).alloc (Nat.le_refl _) _
  have hbox := heap_alloc_new w1 (.cells #[.int .u32 0, .int .i32 0, .int .i32 0, .int .i32 0, .int .i32 0, .int .i32 0, .int .i32 0, .int .i32 0, .int .i32 0, .int .i32 0, .int .i32 0, .int .i32 0, .int .i32 0] 25)
  rw [xs] at hbox
  have y0 : RcB _ w.heap.size t V := blk_old x0 hbx (blk_lt x0)
  have y1 : RcB _ (w.heap.size + 1) 0 z12 := blk_old x1 hbx (blk_lt x1)
  have y2 : EyeB _ (w.heap.size + 2) A n c 0 0 := blk_old x2 hbx (blk_lt x2)
  have yb := xb.trans (hbx.mono (by omega))
  generalize (w1.alloc (.cells #[.int .u32 0, .int .i32 0, .int .i32 0, .int .i32 0, .int .i32 0, .int .i32 0, .int .i32 0, .int .i32 0, .int .i32 0, .int .i32 0, .int .i32 0, .int .i32 0, .int .i32 0] 25)) = w2 at *
  clear x0 x1 x2 xb hbx xs w1
  replace hbox : RcB w2 (w.heap.size + 3) 0 z12 := hbox
  refine go_ (wpList_store_row rfl _ _ _ rfl (w.heap.size + 3) (rcC t V).toArray rfl rfl _ _ hbox (by rw [List.size_toArray, rcC_size t V HV.out]; kernel_rfl) (by rw [List.size_toArray, List.size_toArray, rcC_size t V HV.out]; rfl) (all_oneCell_toArray (rcC_one t V)) ?_)
  obtain ⟨hR8, hAz⟩ := rc_store t V HV.out w2 (w.heap.size + 3) hbox
  have hR2 : RcB _ w.heap.size t V := hAz.keep y0 (by omega)
  have hR4 : RcB _ (w.heap.size + 1) 0 z12 := hAz.keep y1 (by omega)
  have hEy := eye_aw hAz y2 (by omega)
  have hb3 := below_awG yb hAz (fun k hk => by omega) yb.size
  generalize (w2.setRow (w.heap.size + 3) (rcC t V).toArray) = w3 at *
  clear y0 y1 y2 yb hAz hbox w2
  go_wp2_with fail
  refine Ord.region_m [1, 3] [[0, 1, 2, 3, 4, 5, 6, 7], [0, 2, 3, 1, 4, 5, 6, 7]] (fun _ => True) false [16] (by kernel_rfl) (by kernel_rfl) trivial ?_
  have hR8 : RcB w3.drew (w.heap.size + 3) t V := hR8
  have hR2 : RcB w3.drew w.heap.size t V := hR2
  have hR4 : RcB w3.drew (w.heap.size + 1) 0 z12 := hR4
  have hEy : EyeB w3.drew (w.heap.size + 2) A n c 0 0 := hEy
  have hbd := hb3.drew
  clear hb3
  generalize w3.drew = wd at *
  intro LL hLL
  simp only [List.mem_cons, List.not_mem_nil, or_false] at hLL
  rcases hLL with rfl | rfl
  · simp only [Ord.lst, List.filterMap_cons, List.filterMap_nil, List.getElem?_toArray, List.getElem?_cons_succ, List.getElem?_cons_zero]
    have e16 := hR8.time
    ((with_reducible refine Ord.e_p (v := ?_) ?_ ?_ ?_ ?_); rotate_left; (· exact rfl); (· kernel_rfl); (· intro w2; go_simp; try with_reducible rfl))
    (try simp only [Act.put, List.setIfInBounds_toArray, List.set_cons_zero, List.set_cons_succ])
    refine Ord.e_load Try.underlying22 rfl e16 rfl (by rfl) (by kernel_rfl) ?_
    (try simp only [Act.put, List.setIfInBounds_toArray, List.set_cons_zero, List.set_cons_succ])
    ((with_reducible refine Ord.e_p (v := ?_) ?_ ?_ ?_ ?_); rotate_left; (· exact rfl); (· kernel_rfl); (· intro w2; go_simp; try with_reducible rfl))
    (try simp only [Act.put, List.setIfInBounds_toArray, List.set_cons_zero, List.set_cons_succ])
    refine Ord.e_x rfl (by kernel_rfl) ?_
    go_wp2_with fail
    go_fit (next_all (w.heap.size + 2) A n c 0 0 B 4294967295 b wd hEy (h.up (hbd.mono hB)) (Nat.le_trans hB hbd.size) (fun _ => Nat.zero_le _) hn (by omega))
    rintro e w5 ⟨rfl, hEy5, hA5⟩
    rw [← Hu.out]
    have hR8' : RcB w5 (w.heap.size + 3) t V := hA5.keep hR8 (by omega)
    have hR2' : RcB w5 w.heap.size t V := hA5.keep hR2 (by omega)
    have hR4' : RcB w5 (w.heap.size + 1) 0 z12 := hA5.keep hR4 (by omega)
    have hb5 := below_awG hbd hA5 (fun k hk => by omega) hbd.size
    clear hR8 hR2 hR4 hbd hA5 hEy e16
    go_wp2_with fail
    refine Ord.Seg.go trivial (fun h => by cases h) ?_
    (try simp only [Act.put, List.setIfInBounds_toArray, List.set_cons_zero, List.set_cons_succ])
    ((with_reducible refine Ord.e_p (v := ?_) ?_ ?_ ?_ ?_); rotate_left; (· exact rfl); (· kernel_rfl); (· intro w2; go_simp; try with_reducible rfl))
    (try simp only [Act.put, List.setIfInBounds_toArray, List.set_cons_zero, List.set_cons_succ])
    ((with_reducible refine Ord.e_p (v := ?_) ?_ ?_ ?_ ?_); rotate_left; (· exact rfl); (· kernel_rfl); (· intro w2; go_simp; try with_reducible rfl))
    (try simp only [Act.put, List.setIfInBounds_toArray, List.set_cons_zero, List.set_cons_succ])
    ((with_reducible refine Ord.e_p (v := ?_) ?_ ?_ ?_ ?_); rotate_left; (· exact rfl); (· kernel_rfl); (· intro w2; go_simp; try with_reducible rfl))
    (try simp only [Act.put, List.setIfInBounds_toArray, List.set_cons_zero, List.set_cons_succ])
    have s1 := hR8'.time
    have s2 : w5.frozen? ⟨w.heap.size + 3, 0, none⟩ = false := blk_free (i := 0) hR8'
    have hA : Aw (fun j => j = w.heap.size + 3) w5 (w5.setCell ⟨w.heap.size + 3, 0, none⟩ (.int .u32 (T : Int))) := (Aw.refl _ _).set _ rfl
    have hR8 := blk_set (i := 0) hR8' (.int .u32 (T : Int))
    rw [rcC_set0] at hR8
    have hR2 : RcB (w5.setCell ⟨w.heap.size + 3, 0, none⟩ (.int .u32 (T : Int))) w.heap.size t V := hA.keep hR2' (by omega)
    have hR4 : RcB (w5.setCell ⟨w.heap.size + 3, 0, none⟩ (.int .u32 (T : Int))) (w.heap.size + 1) 0 z12 := hA.keep hR4' (by omega)
    have hEy := eye_aw hA hEy5 (by omega)
    have hb6 := below_awG hb5 hA (fun k hk => by omega) hb5.size
    refine Ord.e_x rfl (by kernel_rfl) ?_
    go_wp2
    generalize (w5.setCell ⟨w.heap.size + 3, 0, none⟩ (.int .u32 (T : Int))) = w6 at *
    refine Ord.Seg.go trivial (fun h => by cases h) ?_
    (try simp only [Act.put, List.setIfInBounds_toArray, List.set_cons_zero, List.set_cons_succ])
    refine Ord.e_nil ?_
    clear hR8' hR2' hR4' hEy5 hb5 s1 s2 hA w5
    go_wp2_with fail
    go_fit (next_all (w.heap.size + 2) A n c (nuK b 0 0) (nuE b 0 0 4294967295) B 4095 b w6 hEy (h.up (hb6.mono hB)) (Nat.le_trans hB hb6.size) hk1 hn (by omega))
    rintro e w7 ⟨rfl, hEy7, hA7⟩
    rw [← Hm.out]
    have hR8 : RcB w7 (w.heap.size + 3) T V := hA7.keep hR8 (by omega)
    have hR2 : RcB w7 w.heap.size t V := hA7.keep hR2 (by omega)
    have hR4 : RcB w7 (w.heap.size + 1) 0 z12 := hA7.keep hR4 (by omega)
    have hb7 := below_awG hb6 hA7 (fun k hk => by omega) hb6.size
    clear hb6 hA7 hEy
    have hrel0 : ∃ kk ee : Nat, EyeB w7 (w.heap.size + 2) A n c kk ee ∧ (ee = 0 → Hid (m = tkM b ∧ ∃ pre, V = pre ++ V.drop 0 ∧ TkG t V b 0 pre kk)) ∧ (ee ≠ 0 → Hid (recTE V b = ee)) :=
      ⟨_, _, hEy7, fun he => Lib.hid ⟨by rw [Hm.out]; exact (Two.out.1 he).1, [], rfl, (Two.out.1 he).2⟩, fun he => Lib.hid (Two.out.2 he)⟩
    clear hEy7
    go_wp2_with fail
    go_loopw [24] (fun i wr => ∃ (k kk ee : Nat) (V' : List Int), k ≤ 12 ∧ i = .int .i64 k ∧ RcB wr w.heap.size t V ∧ RcB wr (w.heap.size + 1) 0 z12 ∧ RcB wr (w.heap.size + 3) T V' ∧ V'.length = 12 ∧ Below w.heap.size w wr ∧ EyeB wr (w.heap.size + 2) A n c kk ee ∧ (ee = 0 → Hid (m = tkM b ∧ ∃ pre, V' = pre ++ V.drop k ∧ TkG t V b k pre kk)) ∧ (ee ≠ 0 → Hid (recTE V b = ee))) (fun i _ => 12 - (intOf i).toNat)
    case atStart =>
      obtain ⟨kk, ee, r1, r2, r3⟩ := hrel0
      exact ⟨0, kk, ee, V, by omega, rfl, hR2, hR4, hR8, HV.out, hb7, r1, r2, r3⟩
    case round =>
      clear hR8 hR2 hR4 hb7 hrel0 w7
      obtain ⟨k, kk, ee, V', hk, rfl, hR2, hR4, hR8, hV', hb, hEy, hG, hBad⟩ := hrel
      by_cases hlt : k < 12
      · obtain ⟨x, hx⟩ : ∃ x, V[k]? = some x := ⟨V[k]'(by rw [HV.out]; exact hlt), List.getElem?_eq_getElem _⟩
        have hxi := H32.out x (List.mem_of_getElem? hx)
        obtain ⟨sh, hsh⟩ : ∃ sh, sh = m / 2 ^ k := ⟨_, rfl⟩
        have hdiv : (m : Int) / 2 ^ k = (sh : Int) := by rw [hsh]; simp
        have hshl : sh < 18446744073709551616 := by rw [hsh]; exact Nat.lt_of_le_of_lt (Nat.div_le_self _ _) hml
        have q0 := hR2.at_ hx
        have hVd : V.drop k = x :: V.drop (k + 1) := by
          rw [List.drop_eq_getElem_cons (by rw [HV.out]; exact hlt), (List.getElem?_eq_some_iff.1 hx).2]
        have c2 := blk_cell (i := 2) (v := .int .i64 (ee : Int)) hEy rfl
        have Hsh := Lib.hid hsh
        have Hx := Lib.hid hx
        have HVd := Lib.hid hVd
        clear hx hsh hVd
        by_cases hbit : sh % 2 = 1
        · have hbit' : bits BinOp.and IntKind.u64 (sh : Int) 1 = 1 := by rw [and_one hshl, hbit]; rfl
          have Hbit := Lib.hid hbit
          clear hbit
          by_cases he : ee = 0
          · subst he
            have Hg := hG rfl
            have c2 : wr.cell? ⟨w.heap.size + 2, 2, none⟩ = some (.int .i64 0) := c2
            have hkn : kk ≤ n := by
              obtain ⟨_, pre, _, hT⟩ := Hg.out
              have := hT.1
              rw [Hlb.out] at this
              exact this
            clear hG hBad
            have hby := by34_any (w.heap.size + 2) A n c kk B x b wr hEy (h.up (hb.mono hB)) (Nat.le_trans hB hb.size) hkn hn hxi
            have Hby := Lib.hid hby
            clear hby hxi
            go_wp2_with fail
            go_fit Hby.out
            rintro e w8 ⟨z, rfl, hz, hEy8, hA8, hzz⟩
            have HZ := Lib.hid hzz
            have hR8 : RcB w8 (w.heap.size + 3) T V' := hA8.keep hR8 (by omega)
            have hR2 : RcB w8 w.heap.size t V := hA8.keep hR2 (by omega)
            have hR4 : RcB w8 (w.heap.size + 1) 0 z12 := hA8.keep hR4 (by omega)
            have hb8 := below_awG hb hA8 (fun k hk => by omega) hb.size
            obtain ⟨y, hy⟩ : ∃ y, V'[k]? = some y := ⟨_, List.getElem?_eq_getElem (by omega)⟩
            have s1 := hR8.at_ hy
            have s2 : w8.frozen? ⟨w.heap.size + 3, 1 + k, none⟩ = false := blk_free (i := 1 + k) hR8
            have hA : Aw (fun j => j = w.heap.size + 3) w8 (w8.setCell ⟨w.heap.size + 3, 1 + k, none⟩ (.int .i32 z)) := (Aw.refl _ _).set _ rfl
            have hR8' := blk_set (i := 1 + k) hR8 (.int .i32 z)
            rw [rcC_setV] at hR8'
            have hR2' : RcB (w8.setCell ⟨w.heap.size + 3, 1 + k, none⟩ (.int .i32 z)) w.heap.size t V := hA.keep hR2 (by omega)
            have hR4' : RcB (w8.setCell ⟨w.heap.size + 3, 1 + k, none⟩ (.int .i32 z)) (w.heap.size + 1) 0 z12 := hA.keep hR4 (by omega)
            have hEy9 := eye_aw hA hEy8 (by omega)
            have hb9 := below_awG hb8 hA (fun k hk => by omega) hb8.size
            clear hb hA8 hEy hEy8 hR2 hR4 hR8 hb8 hA c2 q0 hzz hy
            go_wp2
            go_roundw
            case rel =>
              refine ⟨k + 1, _, _, V'.set k z, by omega, by go_num, hR2', hR4', hR8', by rw [List.length_set]; exact hV', hb9, hEy9, fun he => ?_, fun he => ?_⟩
              · obtain ⟨hm, pre, hpre, hT⟩ := Hg.out
                refine Lib.hid ⟨hm, pre ++ [z], ?_, ?_⟩
                · have hpl : pre.length = k := hT.2.1
                  rw [hpre, HVd.out, List.set_append, if_neg (by omega), hpl, Nat.sub_self, List.set_cons_zero]
                  simp
                · rw [HZ.out he]
                  exact tk_one hT Hx.out (by rw [← hm, ← Hsh.out]; exact Hbit.out) he
              · obtain ⟨hm, pre, hpre, hT⟩ := Hg.out
                exact Lib.hid (tk_bad hT Hx.out (by rw [← hm, ← Hsh.out]; exact Hbit.out) he)
            case measure => simp [intOf]; omega
          · have he' : ¬ (ee : Int) = 0 := by omega
            have Hbd := hBad he
            have He := Lib.hid he
            clear hG hBad he hxi
            go_wp2
            go_roundw
            case rel => exact ⟨k + 1, kk, ee, V', by omega, by go_num, hR2, hR4, hR8, hV', hb, hEy, fun h0 => absurd h0 He.out, fun _ => Hbd⟩
            case measure => simp [intOf]; omega
        · have hbit' : bits BinOp.and IntKind.u64 (sh : Int) 1 = 0 := by rw [and_one hshl, show sh % 2 = 0 by omega]; rfl
          have Hbit := Lib.hid hbit
          have HX := Lib.hid hxi
          clear hbit hxi
          have hG' : ee = 0 → Hid (m = tkM b ∧ ∃ pre, V' = pre ++ V.drop (k + 1) ∧ TkG t V b (k + 1) pre kk) := fun he => by
            obtain ⟨hm, pre, hpre, hT⟩ := (hG he).out
            exact Lib.hid ⟨hm, pre ++ [x], by rw [hpre, HVd.out]; simp, tk_skip hT Hx.out HX.out (by rw [← hm, ← Hsh.out]; exact Hbit.out)⟩
          have HG := Lib.hid hG'
          have HB := Lib.hid hBad
          clear hG hG' hBad
          go_wp2
          go_roundw
          case rel => exact ⟨k + 1, kk, ee, V', by omega, by go_num, hR2, hR4, hR8, hV', hb, hEy, HG.out, HB.out⟩
          case measure => simp [intOf]; omega
      · obtain rfl : k = 12 := by omega
        have c2 := blk_cell (i := 2) (v := .int .i64 (ee : Int)) hEy rfl
        by_cases he : ee = 0
        · subst he
          have c2 : wr.cell? ⟨w.heap.size + 2, 2, none⟩ = some (.int .i64 0) := c2
          obtain ⟨hm, pre, hpre, hT⟩ := (hG rfl).out
          rw [List.drop_eq_nil_of_le (by rw [HV.out]; omega), List.append_nil] at hpre
          subst hpre
          obtain ⟨d1, d2, d3, d4⟩ := tk_done hT HV.out
          have HD := Lib.hid (show recTE V b = 0 ∧ recTt t V b = T ∧ recTV V b = V' ∧ recTn V b = kk from ⟨d1, by rw [d2, HT.out], d3, d4⟩)
          clear hG hBad hm hT d1 d2 d3 d4
          go_wp2_with fail
          refine Ord.region_ (fun w' => EyeB w' (w.heap.size + 2) A n c kk 0 ∧ RcB w' (w.heap.size + 3) T V') false [] (by kernel_rfl) (by kernel_rfl) ⟨hEy, hR8⟩ ?_
          have hEy : EyeB wr.drew (w.heap.size + 2) A n c kk 0 := hEy
          have hR8 : RcB wr.drew (w.heap.size + 3) T V' := hR8
          have hR4 : RcB wr.drew (w.heap.size + 1) 0 z12 := hR4
          have hb := hb.drew
          clear c2 hR2
          generalize wr.drew = wd at *
          refine Ord.e_rowS Try.underlying25 rfl (by rw [rcC_size T V' hV']; kernel_rfl) rfl (by unfold rcC; simp) (fun w' hS => (show RcB w' _ T V' from hS.2).all) ⟨hEy, hR8⟩ (by kernel_rfl) ?_
          (try simp only [Act.put, List.setIfInBounds_toArray, List.set_cons_zero, List.set_cons_succ])
          ((with_reducible refine Ord.e_p (v := ?_) ?_ ?_ ?_ ?_); rotate_left; (· exact rfl); (· kernel_rfl); (· intro w2; go_simp; try with_reducible rfl))
          (try simp only [Act.put, List.setIfInBounds_toArray, List.set_cons_zero, List.set_cons_succ])
          ((with_reducible refine Ord.e_p (v := ?_) ?_ ?_ ?_ ?_); rotate_left; (· exact rfl); (· kernel_rfl); (· intro w2; go_simp; try with_reducible rfl))
          (try simp only [Act.put, List.setIfInBounds_toArray, List.set_cons_zero, List.set_cons_succ])
          ((with_reducible refine Ord.e_p (v := ?_) ?_ ?_ ?_ ?_); rotate_left; (· exact rfl); (· kernel_rfl); (· intro w2; go_simp; try with_reducible rfl))
          (try simp only [Act.put, List.setIfInBounds_toArray, List.set_cons_zero, List.set_cons_succ])
          refine Ord.e_loadS Try.underlying3 rfl (fun w' hS => blk_cell (i := 1) (v := .int .i64 (kk : Int)) (show EyeB w' _ A n c kk 0 from hS.1) rfl) ⟨hEy, hR8⟩ rfl (by kernel_rfl) ?_
          (try simp only [Act.put, List.setIfInBounds_toArray, List.set_cons_zero, List.set_cons_succ])
          refine Ord.e_x rfl (by kernel_rfl) ?_
          refine wpList_store_row rfl _ _ _ rfl (w.heap.size + 1) (rcC T V').toArray rfl rfl _ _ hR4 (by rw [List.size_toArray, rcC_size T V' hV']; kernel_rfl) (by rw [List.size_toArray, List.size_toArray, rcC_size T V' hV']; rfl) (all_oneCell_toArray (rcC_one T V')) ?_
          obtain ⟨hz, hAz⟩ := rc_store T V' hV' wd (w.heap.size + 1) hR4
          have hbz := below_awG hb hAz (fun k hk => by omega) hb.size
          have hE9 := eye_aw hAz hEy (by omega)
          have hR9 : RcB _ (w.heap.size + 3) T V' := hAz.keep hR8 (by omega)
          generalize (wd.setRow (w.heap.size + 1) (rcC T V').toArray) = w5 at *
          go_wp2_with fail
          refine Ord.Seg.go ⟨hE9, hR9⟩ (fun h => by cases h) ?_
          (try simp only [Act.put, List.setIfInBounds_toArray, List.set_cons_zero, List.set_cons_succ])
          ((with_reducible refine Ord.e_p (v := ?_) ?_ ?_ ?_ ?_); rotate_left; (· exact rfl); (· kernel_rfl); (· intro w2; go_simp; try with_reducible rfl))
          (try simp only [Act.put, List.setIfInBounds_toArray, List.set_cons_zero, List.set_cons_succ])
          ((with_reducible refine Ord.e_p (v := ?_) ?_ ?_ ?_ ?_); rotate_left; (· exact rfl); (· kernel_rfl); (· intro w2; go_simp; try with_reducible rfl))
          (try simp only [Act.put, List.setIfInBounds_toArray, List.set_cons_zero, List.set_cons_succ])
          refine Ord.e_nil ?_
          clear hR4 hb hEy hR8 hAz hE9 hR9
          go_wp2
          exact bodyPost_ret (results_cell3 (fn := Try.f28) Try.results28 _ _ (w.heap.size + 1) _ _ _ _ rfl hz Try.underlying25 rfl (by rw [List.size_toArray, rcC_size T V' hV']; kernel_rfl)) rfl ⟨by rw [HD.out.1, HD.out.2.1, HD.out.2.2.1, HD.out.2.2.2]; rfl, hbz⟩
        · have he' : ¬ (ee : Int) = 0 := by omega
          have hte : recTE V b = ee := (hBad he).out
          obtain ⟨d2, d3, d4⟩ := recT_bad (t := t) (V := V) (b := b) (by rw [hte]; exact he)
          have HD := Lib.hid (show recTE V b = ee ∧ recTt t V b = 0 ∧ recTV V b = z12 ∧ recTn V b = 0 from ⟨hte, d2, d3, d4⟩)
          clear hG hBad he hte d2 d3 d4
          go_wp2_with fail
          refine Ord.region_ (fun w' => EyeB w' (w.heap.size + 2) A n c kk ee) false [] (by kernel_rfl) (by kernel_rfl) hEy ?_
          have hEy : EyeB wr.drew (w.heap.size + 2) A n c kk ee := hEy
          have hR4 : RcB wr.drew (w.heap.size + 1) 0 z12 := hR4
          have hb := hb.drew
          clear c2 hR2 hR8
          generalize wr.drew = wd at *
          (with_reducible refine Ord.e_p (v := .agg (rcC 0 z12).toArray) ?_ ?_ ?_ ?_)
          · exact rfl
          · kernel_rfl
          · intro w2; kernel_rfl
          (try simp only [Act.put, List.setIfInBounds_toArray, List.set_cons_zero, List.set_cons_succ])
          ((with_reducible refine Ord.e_p (v := ?_) ?_ ?_ ?_ ?_); rotate_left; (· exact rfl); (· kernel_rfl); (· intro w2; go_simp; try with_reducible rfl))
          (try simp only [Act.put, List.setIfInBounds_toArray, List.set_cons_zero, List.set_cons_succ])
          ((with_reducible refine Ord.e_p (v := ?_) ?_ ?_ ?_ ?_); rotate_left; (· exact rfl); (· kernel_rfl); (· intro w2; go_simp; try with_reducible rfl))
          (try simp only [Act.put, List.setIfInBounds_toArray, List.set_cons_zero, List.set_cons_succ])
          ((with_reducible refine Ord.e_p (v := ?_) ?_ ?_ ?_ ?_); rotate_left; (· exact rfl); (· kernel_rfl); (· intro w2; go_simp; try with_reducible rfl))
          (try simp only [Act.put, List.setIfInBounds_toArray, List.set_cons_zero, List.set_cons_succ])
          refine Ord.e_loadS Try.underlying32 rfl (fun w' hS => blk_cell (i := 2) (v := .int .i64 (ee : Int)) (show EyeB w' _ A n c kk ee from hS) rfl) hEy rfl (by kernel_rfl) ?_
          (try simp only [Act.put, List.setIfInBounds_toArray, List.set_cons_zero, List.set_cons_succ])
          refine Ord.e_x rfl (by kernel_rfl) ?_
          refine wpList_store_row rfl _ _ _ rfl (w.heap.size + 1) (rcC 0 z12).toArray rfl rfl _ _ hR4 (by kernel_rfl) (by kernel_rfl) (by kernel_rfl) ?_
          obtain ⟨hz, hAz⟩ := rc_store 0 z12 rfl wd (w.heap.size + 1) hR4
          have hbz := below_awG hb hAz (fun k hk => by omega) hb.size
          have hE9 := eye_aw hAz hEy (by omega)
          generalize (wd.setRow (w.heap.size + 1) (rcC 0 z12).toArray) = w5 at *
          go_wp2_with fail
          refine Ord.Seg.go hE9 (fun h => by cases h) ?_
          (try simp only [Act.put, List.setIfInBounds_toArray, List.set_cons_zero, List.set_cons_succ])
          ((with_reducible refine Ord.e_p (v := ?_) ?_ ?_ ?_ ?_); rotate_left; (· exact rfl); (· kernel_rfl); (· intro w2; go_simp; try with_reducible rfl))
          (try simp only [Act.put, List.setIfInBounds_toArray, List.set_cons_zero, List.set_cons_succ])
          ((with_reducible refine Ord.e_p (v := ?_) ?_ ?_ ?_ ?_); rotate_left; (· exact rfl); (· kernel_rfl); (· intro w2; go_simp; try with_reducible rfl))
          (try simp only [Act.put, List.setIfInBounds_toArray, List.set_cons_zero, List.set_cons_succ])
          refine Ord.e_nil ?_
          clear hR4 hb hEy hAz hE9
          go_wp2
          exact bodyPost_ret (results_cell3 (fn := Try.f28) Try.results28 _ _ (w.heap.size + 1) _ _ _ _ rfl hz Try.underlying25 rfl (by kernel_rfl)) rfl ⟨by rw [HD.out.1, HD.out.2.1, HD.out.2.2.1, HD.out.2.2.2]; rfl, hbz⟩
  · simp only [Ord.lst, List.filterMap_cons, List.filterMap_nil, List.getElem?_toArray, List.getElem?_cons_succ, List.getElem?_cons_zero]
    ((with_reducible refine Ord.e_p (v := ?_) ?_ ?_ ?_ ?_); rotate_left; (· exact rfl); (· kernel_rfl); (· intro w2; go_simp; try with_reducible rfl))
    (try simp only [Act.put, List.setIfInBounds_toArray, List.set_cons_zero, List.set_cons_succ])
    ((with_reducible refine Ord.e_p (v := ?_) ?_ ?_ ?_ ?_); rotate_left; (· exact rfl); (· kernel_rfl); (· intro w2; go_simp; try with_reducible rfl))
    (try simp only [Act.put, List.setIfInBounds_toArray, List.set_cons_zero, List.set_cons_succ])
    refine Ord.e_x rfl (by kernel_rfl) ?_
    go_wp2_with fail
    go_fit (next_all (w.heap.size + 2) A n c 0 0 B 4294967295 b wd hEy (h.up (hbd.mono hB)) (Nat.le_trans hB hbd.size) (fun _ => Nat.zero_le _) hn (by omega))
    rintro e w5 ⟨rfl, hEy5, hA5⟩
    rw [← Hu.out]
    have hR8' : RcB w5 (w.heap.size + 3) t V := hA5.keep hR8 (by omega)
    have hR2' : RcB w5 w.heap.size t V := hA5.keep hR2 (by omega)
    have hR4' : RcB w5 (w.heap.size + 1) 0 z12 := hA5.keep hR4 (by omega)
    have hb5 := below_awG hbd hA5 (fun k hk => by omega) hbd.size
    clear hR8 hR2 hR4 hbd hA5 hEy
    have e16 := hR8'.time
    go_wp2_with fail
    refine Ord.Seg.go trivial (fun h => by cases h) ?_
    (try simp only [Act.put, List.setIfInBounds_toArray, List.set_cons_zero, List.set_cons_succ])
    refine Ord.e_load Try.underlying22 rfl e16 rfl (by rfl) (by kernel_rfl) ?_
    (try simp only [Act.put, List.setIfInBounds_toArray, List.set_cons_zero, List.set_cons_succ])
    clear e16
    ((with_reducible refine Ord.e_p (v := ?_) ?_ ?_ ?_ ?_); rotate_left; (· exact rfl); (· kernel_rfl); (· intro w2; go_simp; try with_reducible rfl))
    (try simp only [Act.put, List.setIfInBounds_toArray, List.set_cons_zero, List.set_cons_succ])
    ((with_reducible refine Ord.e_p (v := ?_) ?_ ?_ ?_ ?_); rotate_left; (· exact rfl); (· kernel_rfl); (· intro w2; go_simp; try with_reducible rfl))
    (try simp only [Act.put, List.setIfInBounds_toArray, List.set_cons_zero, List.set_cons_succ])
    ((with_reducible refine Ord.e_p (v := ?_) ?_ ?_ ?_ ?_); rotate_left; (· exact rfl); (· kernel_rfl); (· intro w2; go_simp; try with_reducible rfl))
    (try simp only [Act.put, List.setIfInBounds_toArray, List.set_cons_zero, List.set_cons_succ])
    have s1 := hR8'.time
    have s2 : w5.frozen? ⟨w.heap.size + 3, 0, none⟩ = false := blk_free (i := 0) hR8'
    have hA : Aw (fun j => j = w.heap.size + 3) w5 (w5.setCell ⟨w.heap.size + 3, 0, none⟩ (.int .u32 (T : Int))) := (Aw.refl _ _).set _ rfl
    have hR8 := blk_set (i := 0) hR8' (.int .u32 (T : Int))
    rw [rcC_set0] at hR8
    have hR2 : RcB (w5.setCell ⟨w.heap.size + 3, 0, none⟩ (.int .u32 (T : Int))) w.heap.size t V := hA.keep hR2' (by omega)
    have hR4 : RcB (w5.setCell ⟨w.heap.size + 3, 0, none⟩ (.int .u32 (T : Int))) (w.heap.size + 1) 0 z12 := hA.keep hR4' (by omega)
    have hEy := eye_aw hA hEy5 (by omega)
    have hb6 := below_awG hb5 hA (fun k hk => by omega) hb5.size
    refine Ord.e_x rfl (by kernel_rfl) ?_
    go_wp2
    generalize (w5.setCell ⟨w.heap.size + 3, 0, none⟩ (.int .u32 (T : Int))) = w6 at *
    refine Ord.Seg.go trivial (fun h => by cases h) ?_
    (try simp only [Act.put, List.setIfInBounds_toArray, List.set_cons_zero, List.set_cons_succ])
    refine Ord.e_nil ?_
    clear hR8' hR2' hR4' hEy5 hb5 s1 s2 hA w5
    go_wp2_with fail
    go_fit (next_all (w.heap.size + 2) A n c (nuK b 0 0) (nuE b 0 0 4294967295) B 4095 b w6 hEy (h.up (hb6.mono hB)) (Nat.le_trans hB hb6.size) hk1 hn (by omega))
    rintro e w7 ⟨rfl, hEy7, hA7⟩
    rw [← Hm.out]
    have hR8 : RcB w7 (w.heap.size + 3) T V := hA7.keep hR8 (by omega)
    have hR2 : RcB w7 w.heap.size t V := hA7.keep hR2 (by omega)
    have hR4 : RcB w7 (w.heap.size + 1) 0 z12 := hA7.keep hR4 (by omega)
    have hb7 := below_awG hb6 hA7 (fun k hk => by omega) hb6.size
    clear hb6 hA7 hEy
    have hrel0 : ∃ kk ee : Nat, EyeB w7 (w.heap.size + 2) A n c kk ee ∧ (ee = 0 → Hid (m = tkM b ∧ ∃ pre, V = pre ++ V.drop 0 ∧ TkG t V b 0 pre kk)) ∧ (ee ≠ 0 → Hid (recTE V b = ee)) :=
      ⟨_, _, hEy7, fun he => Lib.hid ⟨by rw [Hm.out]; exact (Two.out.1 he).1, [], rfl, (Two.out.1 he).2⟩, fun he => Lib.hid (Two.out.2 he)⟩
    clear hEy7
    go_wp2_with fail
    go_loopw [24] (fun i wr => ∃ (k kk ee : Nat) (V' : List Int), k ≤ 12 ∧ i = .int .i64 k ∧ RcB wr w.heap.size t V ∧ RcB wr (w.heap.size + 1) 0 z12 ∧ RcB wr (w.heap.size + 3) T V' ∧ V'.length = 12 ∧ Below w.heap.size w wr ∧ EyeB wr (w.heap.size + 2) A n c kk ee ∧ (ee = 0 → Hid (m = tkM b ∧ ∃ pre, V' = pre ++ V.drop k ∧ TkG t V b k pre kk)) ∧ (ee ≠ 0 → Hid (recTE V b = ee))) (fun i _ => 12 - (intOf i).toNat)
    case atStart =>
      obtain ⟨kk, ee, r1, r2, r3⟩ := hrel0
      exact ⟨0, kk, ee, V, by omega, rfl, hR2, hR4, hR8, HV.out, hb7, r1, r2, r3⟩
    case round =>
      clear hR8 hR2 hR4 hb7 hrel0 w7
      obtain ⟨k, kk, ee, V', hk, rfl, hR2, hR4, hR8, hV', hb, hEy, hG, hBad⟩ := hrel
      by_cases hlt : k < 12
      · obtain ⟨x, hx⟩ : ∃ x, V[k]? = some x := ⟨V[k]'(by rw [HV.out]; exact hlt), List.getElem?_eq_getElem _⟩
        have hxi := H32.out x (List.mem_of_getElem? hx)
        obtain ⟨sh, hsh⟩ : ∃ sh, sh = m / 2 ^ k := ⟨_, rfl⟩
        have hdiv : (m : Int) / 2 ^ k = (sh : Int) := by rw [hsh]; simp
        have hshl : sh < 18446744073709551616 := by rw [hsh]; exact Nat.lt_of_le_of_lt (Nat.div_le_self _ _) hml
        have q0 := hR2.at_ hx
        have hVd : V.drop k = x :: V.drop (k + 1) := by
          rw [List.drop_eq_getElem_cons (by rw [HV.out]; exact hlt), (List.getElem?_eq_some_iff.1 hx).2]
        have c2 := blk_cell (i := 2) (v := .int .i64 (ee : Int)) hEy rfl
        have Hsh := Lib.hid hsh
        have Hx := Lib.hid hx
        have HVd := Lib.hid hVd
        clear hx hsh hVd
        by_cases hbit : sh % 2 = 1
        · have hbit' : bits BinOp.and IntKind.u64 (sh : Int) 1 = 1 := by rw [and_one hshl, hbit]; rfl
          have Hbit := Lib.hid hbit
          clear hbit
          by_cases he : ee = 0
          · subst he
            have Hg := hG rfl
            have c2 : wr.cell? ⟨w.heap.size + 2, 2, none⟩ = some (.int .i64 0) := c2
            have hkn : kk ≤ n := by
              obtain ⟨_, pre, _, hT⟩ := Hg.out
              have := hT.1
              rw [Hlb.out] at this
              exact this
            clear hG hBad
            have hby := by34_any (w.heap.size + 2) A n c kk B x b wr hEy (h.up (hb.mono hB)) (Nat.le_trans hB hb.size) hkn hn hxi
            have Hby := Lib.hid hby
            clear hby hxi
            go_wp2_with fail
            go_fit Hby.out
            rintro e w8 ⟨z, rfl, hz, hEy8, hA8, hzz⟩
            have HZ := Lib.hid hzz
            have hR8 : RcB w8 (w.heap.size + 3) T V' := hA8.keep hR8 (by omega)
            have hR2 : RcB w8 w.heap.size t V := hA8.keep hR2 (by omega)
            have hR4 : RcB w8 (w.heap.size + 1) 0 z12 := hA8.keep hR4 (by omega)
            have hb8 := below_awG hb hA8 (fun k hk => by omega) hb.size
            obtain ⟨y, hy⟩ : ∃ y, V'[k]? = some y := ⟨_, List.getElem?_eq_getElem (by omega)⟩
            have s1 := hR8.at_ hy
            have s2 : w8.frozen? ⟨w.heap.size + 3, 1 + k, none⟩ = false := blk_free (i := 1 + k) hR8
            have hA : Aw (fun j => j = w.heap.size + 3) w8 (w8.setCell ⟨w.heap.size + 3, 1 + k, none⟩ (.int .i32 z)) := (Aw.refl _ _).set _ rfl
            have hR8' := blk_set (i := 1 + k) hR8 (.int .i32 z)
            rw [rcC_setV] at hR8'
            have hR2' : RcB (w8.setCell ⟨w.heap.size + 3, 1 + k, none⟩ (.int .i32 z)) w.heap.size t V := hA.keep hR2 (by omega)
            have hR4' : RcB (w8.setCell ⟨w.heap.size + 3, 1 + k, none⟩ (.int .i32 z)) (w.heap.size + 1) 0 z12 := hA.keep hR4 (by omega)
            have hEy9 := eye_aw hA hEy8 (by omega)
            have hb9 := below_awG hb8 hA (fun k hk => by omega) hb8.size
            clear hb hA8 hEy hEy8 hR2 hR4 hR8 hb8 hA c2 q0 hzz hy
            go_wp2
            go_roundw
            case rel =>
              refine ⟨k + 1, _, _, V'.set k z, by omega, by go_num, hR2', hR4', hR8', by rw [List.length_set]; exact hV', hb9, hEy9, fun he => ?_, fun he => ?_⟩
              · obtain ⟨hm, pre, hpre, hT⟩ := Hg.out
                refine Lib.hid ⟨hm, pre ++ [z], ?_, ?_⟩
                · have hpl : pre.length = k := hT.2.1
                  rw [hpre, HVd.out, List.set_append, if_neg (by omega), hpl, Nat.sub_self, List.set_cons_zero]
                  simp
                · rw [HZ.out he]
                  exact tk_one hT Hx.out (by rw [← hm, ← Hsh.out]; exact Hbit.out) he
              · obtain ⟨hm, pre, hpre, hT⟩ := Hg.out
                exact Lib.hid (tk_bad hT Hx.out (by rw [← hm, ← Hsh.out]; exact Hbit.out) he)
            case measure => simp [intOf]; omega
          · have he' : ¬ (ee : Int) = 0 := by omega
            have Hbd := hBad he
            have He := Lib.hid he
            clear hG hBad he hxi
            go_wp2
            go_roundw
            case rel => exact ⟨k + 1, kk, ee, V', by omega, by go_num, hR2, hR4, hR8, hV', hb, hEy, fun h0 => absurd h0 He.out, fun _ => Hbd⟩
            case measure => simp [intOf]; omega
        · have hbit' : bits BinOp.and IntKind.u64 (sh : Int) 1 = 0 := by rw [and_one hshl, show sh % 2 = 0 by omega]; rfl
          have Hbit := Lib.hid hbit
          have HX := Lib.hid hxi
          clear hbit hxi
          have hG' : ee = 0 → Hid (m = tkM b ∧ ∃ pre, V' = pre ++ V.drop (k + 1) ∧ TkG t V b (k + 1) pre kk) := fun he => by
            obtain ⟨hm, pre, hpre, hT⟩ := (hG he).out
            exact Lib.hid ⟨hm, pre ++ [x], by rw [hpre, HVd.out]; simp, tk_skip hT Hx.out HX.out (by rw [← hm, ← Hsh.out]; exact Hbit.out)⟩
          have HG := Lib.hid hG'
          have HB := Lib.hid hBad
          clear hG hG' hBad
          go_wp2
          go_roundw
          case rel => exact ⟨k + 1, kk, ee, V', by omega, by go_num, hR2, hR4, hR8, hV', hb, hEy, HG.out, HB.out⟩
          case measure => simp [intOf]; omega
      · obtain rfl : k = 12 := by omega
        have c2 := blk_cell (i := 2) (v := .int .i64 (ee : Int)) hEy rfl
        by_cases he : ee = 0
        · subst he
          have c2 : wr.cell? ⟨w.heap.size + 2, 2, none⟩ = some (.int .i64 0) := c2
          obtain ⟨hm, pre, hpre, hT⟩ := (hG rfl).out
          rw [List.drop_eq_nil_of_le (by rw [HV.out]; omega), List.append_nil] at hpre
          subst hpre
          obtain ⟨d1, d2, d3, d4⟩ := tk_done hT HV.out
          have HD := Lib.hid (show recTE V b = 0 ∧ recTt t V b = T ∧ recTV V b = V' ∧ recTn V b = kk from ⟨d1, by rw [d2, HT.out], d3, d4⟩)
          clear hG hBad hm hT d1 d2 d3 d4
          go_wp2_with fail
          refine Ord.region_ (fun w' => EyeB w' (w.heap.size + 2) A n c kk 0 ∧ RcB w' (w.heap.size + 3) T V') false [] (by kernel_rfl) (by kernel_rfl) ⟨hEy, hR8⟩ ?_
          have hEy : EyeB wr.drew (w.heap.size + 2) A n c kk 0 := hEy
          have hR8 : RcB wr.drew (w.heap.size + 3) T V' := hR8
          have hR4 : RcB wr.drew (w.heap.size + 1) 0 z12 := hR4
          have hb := hb.drew
          clear c2 hR2
          generalize wr.drew = wd at *
          refine Ord.e_rowS Try.underlying25 rfl (by rw [rcC_size T V' hV']; kernel_rfl) rfl (by unfold rcC; simp) (fun w' hS => (show RcB w' _ T V' from hS.2).all) ⟨hEy, hR8⟩ (by kernel_rfl) ?_
          (try simp only [Act.put, List.setIfInBounds_toArray, List.set_cons_zero, List.set_cons_succ])
          ((with_reducible refine Ord.e_p (v := ?_) ?_ ?_ ?_ ?_); rotate_left; (· exact rfl); (· kernel_rfl); (· intro w2; go_simp; try with_reducible rfl))
          (try simp only [Act.put, List.setIfInBounds_toArray, List.set_cons_zero, List.set_cons_succ])
          ((with_reducible refine Ord.e_p (v := ?_) ?_ ?_ ?_ ?_); rotate_left; (· exact rfl); (· kernel_rfl); (· intro w2; go_simp; try with_reducible rfl))
          (try simp only [Act.put, List.setIfInBounds_toArray, List.set_cons_zero, List.set_cons_succ])
          ((with_reducible refine Ord.e_p (v := ?_) ?_ ?_ ?_ ?_); rotate_left; (· exact rfl); (· kernel_rfl); (· intro w2; go_simp; try with_reducible rfl))
          (try simp only [Act.put, List.setIfInBounds_toArray, List.set_cons_zero, List.set_cons_succ])
          refine Ord.e_loadS Try.underlying3 rfl (fun w' hS => blk_cell (i := 1) (v := .int .i64 (kk : Int)) (show EyeB w' _ A n c kk 0 from hS.1) rfl) ⟨hEy, hR8⟩ rfl (by kernel_rfl) ?_
          (try simp only [Act.put, List.setIfInBounds_toArray, List.set_cons_zero, List.set_cons_succ])
          refine Ord.e_x rfl (by kernel_rfl) ?_
          refine wpList_store_row rfl _ _ _ rfl (w.heap.size + 1) (rcC T V').toArray rfl rfl _ _ hR4 (by rw [List.size_toArray, rcC_size T V' hV']; kernel_rfl) (by rw [List.size_toArray, List.size_toArray, rcC_size T V' hV']; rfl) (all_oneCell_toArray (rcC_one T V')) ?_
          obtain ⟨hz, hAz⟩ := rc_store T V' hV' wd (w.heap.size + 1) hR4
          have hbz := below_awG hb hAz (fun k hk => by omega) hb.size
          have hE9 := eye_aw hAz hEy (by omega)
          have hR9 : RcB _ (w.heap.size + 3) T V' := hAz.keep hR8 (by omega)
          generalize (wd.setRow (w.heap.size + 1) (rcC T V').toArray) = w5 at *
          go_wp2_with fail
          refine Ord.Seg.go ⟨hE9, hR9⟩ (fun h => by cases h) ?_
          (try simp only [Act.put, List.setIfInBounds_toArray, List.set_cons_zero, List.set_cons_succ])
          ((with_reducible refine Ord.e_p (v := ?_) ?_ ?_ ?_ ?_); rotate_left; (· exact rfl); (· kernel_rfl); (· intro w2; go_simp; try with_reducible rfl))
          (try simp only [Act.put, List.setIfInBounds_toArray, List.set_cons_zero, List.set_cons_succ])
          ((with_reducible refine Ord.e_p (v := ?_) ?_ ?_ ?_ ?_); rotate_left; (· exact rfl); (· kernel_rfl); (· intro w2; go_simp; try with_reducible rfl))
          (try simp only [Act.put, List.setIfInBounds_toArray, List.set_cons_zero, List.set_cons_succ])
          refine Ord.e_nil ?_
          clear hR4 hb hEy hR8 hAz hE9 hR9
          go_wp2
          exact bodyPost_ret (results_cell3 (fn := Try.f28) Try.results28 _ _ (w.heap.size + 1) _ _ _ _ rfl hz Try.underlying25 rfl (by rw [List.size_toArray, rcC_size T V' hV']; kernel_rfl)) rfl ⟨by rw [HD.out.1, HD.out.2.1, HD.out.2.2.1, HD.out.2.2.2]; rfl, hbz⟩
        · have he' : ¬ (ee : Int) = 0 := by omega
          have hte : recTE V b = ee := (hBad he).out
          obtain ⟨d2, d3, d4⟩ := recT_bad (t := t) (V := V) (b := b) (by rw [hte]; exact he)
          have HD := Lib.hid (show recTE V b = ee ∧ recTt t V b = 0 ∧ recTV V b = z12 ∧ recTn V b = 0 from ⟨hte, d2, d3, d4⟩)
          clear hG hBad he hte d2 d3 d4
          go_wp2_with fail
          refine Ord.region_ (fun w' => EyeB w' (w.heap.size + 2) A n c kk ee) false [] (by kernel_rfl) (by kernel_rfl) hEy ?_
          have hEy : EyeB wr.drew (w.heap.size + 2) A n c kk ee := hEy
          have hR4 : RcB wr.drew (w.heap.size + 1) 0 z12 := hR4
          have hb := hb.drew
          clear c2 hR2 hR8
          generalize wr.drew = wd at *
          (with_reducible refine Ord.e_p (v := .agg (rcC 0 z12).toArray) ?_ ?_ ?_ ?_)
          · exact rfl
          · kernel_rfl
          · intro w2; kernel_rfl
          (try simp only [Act.put, List.setIfInBounds_toArray, List.set_cons_zero, List.set_cons_succ])
          ((with_reducible refine Ord.e_p (v := ?_) ?_ ?_ ?_ ?_); rotate_left; (· exact rfl); (· kernel_rfl); (· intro w2; go_simp; try with_reducible rfl))
          (try simp only [Act.put, List.setIfInBounds_toArray, List.set_cons_zero, List.set_cons_succ])
          ((with_reducible refine Ord.e_p (v := ?_) ?_ ?_ ?_ ?_); rotate_left; (· exact rfl); (· kernel_rfl); (· intro w2; go_simp; try with_reducible rfl))
          (try simp only [Act.put, List.setIfInBounds_toArray, List.set_cons_zero, List.set_cons_succ])
          ((with_reducible refine Ord.e_p (v := ?_) ?_ ?_ ?_ ?_); rotate_left; (· exact rfl); (· kernel_rfl); (· intro w2; go_simp; try with_reducible rfl))
          (try simp only [Act.put, List.setIfInBounds_toArray, List.set_cons_zero, List.set_cons_succ])
          refine Ord.e_loadS Try.underlying32 rfl (fun w' hS => blk_cell (i := 2) (v := .int .i64 (ee : Int)) (show EyeB w' _ A n c kk ee from hS) rfl) hEy rfl (by kernel_rfl) ?_
          (try simp only [Act.put, List.setIfInBounds_toArray, List.set_cons_zero, List.set_cons_succ])
          refine Ord.e_x rfl (by kernel_rfl) ?_
          refine wpList_store_row rfl _ _ _ rfl (w.heap.size + 1) (rcC 0 z12).toArray rfl rfl _ _ hR4 (by kernel_rfl) (by kernel_rfl) (by kernel_rfl) ?_
          obtain ⟨hz, hAz⟩ := rc_store 0 z12 rfl wd (w.heap.size + 1) hR4
          have hbz := below_awG hb hAz (fun k hk => by omega) hb.size
          have hE9 := eye_aw hAz hEy (by omega)
          generalize (wd.setRow (w.heap.size + 1) (rcC 0 z12).toArray) = w5 at *
          go_wp2_with fail
          refine Ord.Seg.go hE9 (fun h => by cases h) ?_
          (try simp only [Act.put, List.setIfInBounds_toArray, List.set_cons_zero, List.set_cons_succ])
          ((with_reducible refine Ord.e_p (v := ?_) ?_ ?_ ?_ ?_); rotate_left; (· exact rfl); (· kernel_rfl); (· intro w2; go_simp; try with_reducible rfl))
          (try simp only [Act.put, List.setIfInBounds_toArray, List.set_cons_zero, List.set_cons_succ])
          ((with_reducible refine Ord.e_p (v := ?_) ?_ ?_ ?_ ?_); rotate_left; (· exact rfl); (· kernel_rfl); (· intro w2; go_simp; try with_reducible rfl))
          (try simp only [Act.put, List.setIfInBounds_toArray, List.set_cons_zero, List.set_cons_succ])
          refine Ord.e_nil ?_
          clear hR4 hb hEy hAz hE9
          go_wp2
          exact bodyPost_ret (results_cell3 (fn := Try.f28) Try.results28 _ _ (w.heap.size + 1) _ _ _ _ rfl hz Try.underlying25 rfl (by kernel_rfl)) rfl ⟨by rw [HD.out.1, HD.out.2.1, HD.out.2.2.1, HD.out.2.2.2]; rfl, hbz⟩


end Go.Proofs.Ytplgcfjcdjlnbaa
