/-
  Several texts in one: Blk3 Blk4 Blk5 BlkBd.
-/
import Derived.Test.YtplgcfjcdjlnbaaKGP
import Derived.Test.YtplgcfjcdjlnbaaKGA
import Derived.Test.YtplgcfjcdjlnbaaKGE
import Derived.Test.YtplgcfjcdjlnbaaKGC
/-
  block.Put walked.
-/
set_option linter.unusedSimpArgs false
set_option linter.unusedVariables false
namespace Go.Proofs.Ytplgcfjcdjlnbaa
open Go.RowKit NumLaw
attribute [local go_sem] Addr.add_mid

theorem stop_copy35 {P : Program} {w : World} {ops : Array Oper} {rest : List Oper} {a : Act} {Q : Exit → Act → World → Prop} {d : Option Tmp} {ar : Array Operand} {ts : Array TypeId} {ty : TypeId} {pos : String} {af : Array Edge} {g : Option (Nat × Bool)}
    (h : Stop (wpList P ops Q (⟨d, .call { callee := .builtin .copy, args := ar, argTypes := ts }, ty, pos, af, g⟩ :: rest) a w)) : wpList P ops Q (⟨d, .call { callee := .builtin .copy, args := ar, argTypes := ts }, ty, pos, af, g⟩ :: rest) a w := h
set_option maxRecDepth 10000 in
set_option maxHeartbeats 8000000 in
theorem blkPut_any (no : Nat) (A : Option Addr) (n c B : Nat) (L : List En) (w : World) (hno : no < 4294967296) (h : RdE w B A n c L) (hB : B ≤ w.heap.size) (hq : ∀ x ∈ L, EnQ x) (hn : n ≤ 100000) :
    Calls Try.prog 32 #[.agg #[.int .u32 (no : Int), .slice A n c]] w (RetBk w (putB no L) (putE L)) := by
  have hll := h.len
  obtain ⟨i0, hi⟩ := info_parts u8_info
  have Hi := Lib.hid hi
  have hb1 : Below w.heap.size w (w.alloc (.cells #[.int .u32 (no : Int), .slice A n c] 41)) := (Below.refl _ _).alloc (Nat.le_refl _) _
  have hbox := heap_alloc_new w (.cells #[.int .u32 (no : Int), .slice A n c] 41)
  have Hll := Lib.hid hll
  by_cases n0 : n = 0
  · subst n0
    obtain rfl : L = [] := List.eq_nil_of_length_eq_zero hll
    clear hll hi
    go_enter Try.func32, Try.ntmps32
    go_wp2
    go_ret2
    exact retBk_none hb1 _ rfl
  obtain ⟨gL, off, x, hA, hgB, hx, hr⟩ := h.at_ (k := 0) (by omega)
  subst hA
  rw [Nat.zero_mul, Nat.add_zero] at hr
  have hpE := putE_first hx
  have k0 : w.cell? ⟨gL, off, none⟩ = some (.bool x.key) := range_key hr
  have k1 : (w.alloc (.cells #[.int .u32 (no : Int), .slice (some ⟨gL, off, none⟩) n c] 41)).cell? ⟨gL, off, none⟩ = some (.bool x.key) := (hb1.cell (p := ⟨gL, off, none⟩) (by show gL < _; omega)).trans k0
  have hn0 : (0 : Int) < (n : Int) := by omega
  have hn1 : ¬ (n : Int) = 0 := by omega
  have hx0 := Lib.hid hx
  have HE := Lib.hid hpE
  clear hpE k0 hx hll hi n0 hr
  by_cases hk : x.key = false
  · rw [hk] at k1
    have hE : putE L = 1 := by rw [HE.out, if_pos hk]
    have HE1 := Lib.hid hE
    clear hE
    go_enter Try.func32, Try.ntmps32
    go_wp2_with fail
    generalize (w.alloc (.cells #[.int .u32 (no : Int), .slice (some ⟨gL, off, none⟩) n c] 41)) = w1 at *
    have c1 := blk_cell (i := 1) (v := .slice (some ⟨gL, off, none⟩) n c) hbox rfl
    go_wp2
    go_ret2
    rw [putB_none (by rw [HE1.out]; omega), HE1.out]
    exact retBk_none hb1 _ rfl
  replace hk : x.key = true := by simpa using hk
  rw [hk] at k1
  have HE2 : Hid (putE L = if 248 < (entB L).length then 8 else 0) := Lib.hid (by rw [HE.out, if_neg (by rw [hk]; simp)])
  have Hl := Lib.hid (fun w1 (h1 : RdE w1 B (some ⟨gL, off, none⟩) n c L) hB1 => lays_any (some ⟨gL, off, none⟩) n c B L w1 h1 hB1 hq hn)
  have Hen := Lib.hid (ent_len35 hq)
  clear HE hk hq
  go_enter Try.func32, Try.ntmps32
  go_wp2_with fail
  generalize (w.alloc (.cells #[.int .u32 (no : Int), .slice (some ⟨gL, off, none⟩) n c] 41)) = w1 at *
  have c0 := blk_cell (i := 0) (v := .int .u32 (no : Int)) hbox rfl
  have c1 := blk_cell (i := 1) (v := .slice (some ⟨gL, off, none⟩) n c) hbox rfl
  have hg : w.heap.size < w1.heap.size := blk_lt hbox
  go_wp2_with fail
  go_fit (Hl.out w1 (h.up (hb1.mono hB)) (Nat.le_trans hB hb1.size))
  rintro e w2 ⟨A2, c2, n2, rfl, own2, hb12⟩
  have hl2 := own_len own2
  have hr2 := Rd.own own2
  have hb2 := bnx hb1 hb12
  replace c0 := (hb12.cell (p := ⟨w.heap.size, 0, none⟩) hg).trans c0
  replace c1 := (hb12.cell (p := ⟨w.heap.size, 1, none⟩) hg).trans c1
  replace hg : w.heap.size < w2.heap.size := Nat.lt_of_lt_of_le hg hb12.size
  have Hl2 := Lib.hid hl2
  have hen := Hen.out
  rw [hl2, Hll.out] at hen
  obtain ⟨hen1, hen2⟩ := hen
  clear k1 hbox hb1 hb12 own2 hl2 w1
  by_cases hf : 248 < n2
  · have hf' : (248 : Int) < (n2 : Int) := by omega
    have hE : putE L = 8 := by rw [HE2.out, if_pos (by rw [Hl2.out]; exact hf)]
    have HE1 := Lib.hid hE
    clear hE hf
    go_wp2
    go_ret2
    rw [putB_none (by rw [HE1.out]; omega), HE1.out]
    exact retBk_none hb2 _ rfl
  have hf' : ¬ (248 : Int) < (n2 : Int) := by omega
  have hn82 : n ≤ 82 := by omega
  have hE : putE L = 0 := by rw [HE2.out, if_neg (by rw [Hl2.out]; exact hf)]
  have HE1 := Lib.hid hE
  have hf0 : fU 1 76 = true := by decide
  have hf1 : fU 1 n = true := by
    unfold fU
    refine decide_eq_true ⟨by omega, by omega, ?_⟩
    show n < 256
    omega
  have hf4 : fU 4 no = true := by
    unfold fU
    refine decide_eq_true ⟨by omega, by omega, ?_⟩
    show no < 4294967296
    omega
  have Hf0 := Lib.hid hf0
  have Hf1 := Lib.hid hf1
  have Hf4 := Lib.hid hf4
  have hwn : IntKind.u64.wrap (n : Int) = n := IntWalk.u64_in _ (by omega)
  have hwo : IntKind.u64.wrap (no : Int) = no := IntWalk.u64_in _ (by omega)
  have hP : putB no L = pageB no L ++ tailN (pageB no L) := by unfold putB; rw [if_pos hE]
  have HP := Lib.hid hP
  clear hE hf0 hf1 hf4 hf hP
  go_wp2_with fail
  go_fit (wMake_any w2)
  rintro e w3 ⟨rfl, hw3, hb23⟩
  have hb3 := bnx hb2 hb23
  have hr3 := hr2.up hb23
  replace c0 := (hb23.cell (p := ⟨w.heap.size, 0, none⟩) hg).trans c0
  replace c1 := (hb23.cell (p := ⟨w.heap.size, 1, none⟩) hg).trans c1
  have hgw : w.heap.size ≤ w2.heap.size := Nat.le_of_lt hg
  generalize w2.heap.size = g at *
  clear hb2 hb23 w2 hr2
  have hU := wU_any g _ [] false 1 76 w3 hw3 (by omega) (by simp)
  rw [Hf0.out, show ((76 : Nat) : Int) = 76 from rfl] at hU
  go_wp2_with fail
  go_fit hU
  rintro e w4 ⟨rfl, v4, hw4, ha4, hu4⟩
  replace hw4 : Wtr w4 g v4 (bytesN 1 76) false := hw4
  have hbx := wtr_belowG hw3 ha4
  have hb4 := hb3.trans (hbx.mono hgw)
  have hr4 := hr3.up hbx
  replace c0 := (hbx.cell (p := ⟨w.heap.size, 0, none⟩) hg).trans c0
  replace c1 := (hbx.cell (p := ⟨w.heap.size, 1, none⟩) hg).trans c1
  clear hw3 ha4 hu4 hb3 hr3 hbx w3 hU
  have hU := wU_any g v4 (bytesN 1 76) false 1 n w4 hw4 (by omega) (by rw [bytesN_len]; omega)
  rw [Hf1.out] at hU
  go_wp2_with fail
  go_fit hU
  rintro e w5 ⟨rfl, v5, hw5, ha5, hu5⟩
  replace hw5 : Wtr w5 g v5 (bytesN 1 76 ++ bytesN 1 n) false := hw5
  have hbx := wtr_belowG hw4 ha5
  have hb5 := hb4.trans (hbx.mono hgw)
  have hr5 := hr4.up hbx
  replace c0 := (hbx.cell (p := ⟨w.heap.size, 0, none⟩) hg).trans c0
  clear hw4 ha5 hu5 hb4 hr4 hbx c1 w4 hU
  have hU := wU_any g v5 (bytesN 1 76 ++ bytesN 1 n) false 4 no w5 hw5 (by omega) (by rw [List.length_append, bytesN_len, bytesN_len]; omega)
  rw [Hf4.out] at hU
  go_wp2_with fail
  go_fit hU
  rintro e w6 ⟨rfl, v6, hw6, ha6, hu6⟩
  replace hw6 : Wtr w6 g v6 ((bytesN 1 76 ++ bytesN 1 n) ++ bytesN 4 no) false := hw6
  have hbx := wtr_belowG hw5 ha6
  have hb6 := hb5.trans (hbx.mono hgw)
  have hr6 := hr5.up hbx
  clear hw5 ha6 hu6 hb5 hr5 hbx c0 w5 hU
  have hU := wRaw_any g v6 ((bytesN 1 76 ++ bytesN 1 n) ++ bytesN 4 no) false A2 n2 c2 g (entB L) w6 hw6 hr6 (by rw [List.length_append, List.length_append, bytesN_len, bytesN_len, bytesN_len]; omega)
  go_wp2_with fail
  go_fit hU
  rintro e w7 ⟨rfl, v7, hw7, ha7, hu7⟩
  have hhd : ((bytesN 1 76 ++ bytesN 1 n) ++ bytesN 4 no) ++ entB L = hdB no L := by unfold hdB; rw [Hll.out]
  replace hw7 : Wtr w7 g v7 (((bytesN 1 76 ++ bytesN 1 n) ++ bytesN 4 no) ++ entB L) false := hw7
  rw [hhd] at hw7
  have hbx := wtr_belowG hw6 ha7
  have hb7 := hb6.trans (hbx.mono hgw)
  have hhl : (hdB no L).length = 6 + n2 := by rw [hdB_len, Hl2.out]
  have Hhl := Lib.hid hhl
  clear hw6 ha7 hu7 hb6 hr6 hbx w6 hU hhd hhl
  go_wp2_with (with_reducible refine stop_allocT 133 ?_)
  refine go_ (wpList_allocZ page_info ?_)
  have hbx : Below w7.heap.size w7 (w7.alloc (.cells (List.replicate 254 (Value.int .u8 0)).toArray 133)) := (Below.refl _ _).alloc (Nat.le_refl _) _
  have hpg := heap_alloc_new w7 (.cells (List.replicate 254 (Value.int .u8 0)).toArray 133)
  have hw8 := hw7.keep (Aw.of_below' (U := fun _ => False) hbx) (fun _ _ hk => hk)
  have hb8 := bnx hb7 hbx
  have hlt8 := hb7.size
  generalize (w7.alloc (.cells (List.replicate 254 (Value.int .u8 0)).toArray 133)) = w8 at *
  generalize w7.heap.size = gp at *
  clear hbx hw7 hb7 w7
  go_wp2_with fail
  refine Ord.region_ (fun _ => True) false [] (by kernel_rfl) (by kernel_rfl) trivial ?_
  replace hb8 := hb8.drew
  replace hpg : w8.drew.heap[gp]? = _ := hpg
  replace hw8 := hw8.keep (w' := w8.drew) ((Aw.refl (fun _ => False) w8).drew) (fun _ _ h => h)
  generalize w8.drew = w9 at *
  clear w8
  ((with_reducible refine Ord.e_p (v := ?_) ?_ ?_ ?_ ?_); rotate_left; (· exact rfl); (· kernel_rfl); (· intro w2; go_simp; try with_reducible rfl))
  (try simp only [Act.put, List.setIfInBounds_toArray, List.set_cons_zero, List.set_cons_succ])
  ((with_reducible refine Ord.e_p (v := ?_) ?_ ?_ ?_ ?_); rotate_left; (· exact rfl); (· kernel_rfl); (· intro w2; go_simp; try with_reducible rfl))
  (try simp only [Act.put, List.setIfInBounds_toArray, List.set_cons_zero, List.set_cons_succ])
  refine Ord.e_x rfl (by kernel_rfl) ?_
  go_wp2_with fail
  go_fit (wBytes_any g v7 (hdB no L) false w9 hw8 (by rw [Hhl.out]; omega))
  rintro e wa ⟨Aa, ca, na, rfl, owna, hba⟩
  have hla := own_len owna
  rw [Hhl.out] at hla
  subst hla
  have hra := Rd.own owna
  replace hb8 := bnx hb8 hba
  replace hpg := blk_old hpg hba (blk_lt hpg)
  go_wp2_with fail
  refine Ord.Seg.go trivial (fun h => by cases h) ?_
  (try simp only [Act.put, List.setIfInBounds_toArray, List.set_cons_zero, List.set_cons_succ])
  refine Ord.e_x rfl (by kernel_rfl) ?_
  have hbl : (bv (hdB no L)).length = 6 + n2 := by rw [bv_len, Hhl.out]
  have Hbl := Lib.hid hbl
  clear hbl owna hba hw8 w9
  refine wpList_copy_splice rfl (.tmp 43) (.tmp 45) 26 26 rfl 5 Try.underlying26 (by rw [Hi.out.1]; exact congrArg some Hi.out.2.2.1) (some ⟨gp, 0, none⟩) Aa _ _ _ ca rfl rfl gp 0 (List.replicate 254 (Value.int .u8 0)) 133 hpg (bv (hdB no L)) (by rw [Hbl.out]; exact (Nat.min_eq_left (by omega)).symm) (fun hp => ⟨rfl, ?_⟩) (by rw [Hbl.out]; simp <;> omega) (bv_one _) gp wa (Below.refl _ _) (Nat.le_refl _) ?_
  · rw [Hbl.out] at hp
    obtain ⟨ad, e, _, hc⟩ := hra.at_ hp
    exact ⟨ad, e, hc⟩
  intro wb hg2 hbb
  have hsp : splice (List.replicate 254 (Value.int .u8 0)) 0 (bv (hdB no L)) = bv (hdB no L) ++ List.replicate (248 - n2) (Value.int .u8 0) := by
    unfold splice
    rw [Hbl.out, List.take_zero, List.nil_append, List.drop_replicate, show 254 - (0 + (6 + n2)) = 248 - n2 by omega]
  rw [hsp] at hg2
  have hgb := hg2.out
  have hb9 := hb8.trans (hbb.mono hlt8)
  clear hg2 hsp hbb hra hpg hb8
  rw [Hbl.out]
  go_wp2_with fail
  refine Ord.Seg.go trivial (fun h => by cases h) ?_
  (try simp only [Act.put, List.setIfInBounds_toArray, List.set_cons_zero, List.set_cons_succ])
  ((with_reducible refine Ord.e_p (v := ?_) ?_ ?_ ?_ ?_); rotate_left; (· exact rfl); (· kernel_rfl); (· intro w2; go_simp; try with_reducible rfl))
  (try simp only [Act.put, List.setIfInBounds_toArray, List.set_cons_zero, List.set_cons_succ])
  refine Ord.e_nil ?_
  have hcut := cut_page gp (6 + n2) (by omega) (6 + (n2 : Int)) (by omega)
  obtain ⟨wc, hcl, hcc, hgc, hbc⟩ := run_clear_zeros (P := Try.prog) (t := 26) (ty := 0) (w := wb) (c := 254) Try.underlying26 Hi.out.1 Hi.out.2.1 hgb Hhl.out _ rfl (by omega)
  obtain ⟨Ac, hAc⟩ : ∃ v, v = (if 254 = 6 + n2 then some (⟨gp, 0, none⟩ : Addr) else some ⟨gp, 6 + n2, none⟩) := ⟨_, rfl⟩
  obtain ⟨m, hm⟩ : ∃ v, v = 248 - n2 := ⟨_, rfl⟩
  rw [← hAc, show 254 - (6 + n2) = m by omega] at hcut hcl
  rw [← hm] at hcl
  have Hcl := Lib.hid hcl
  have hpq : ∀ (j : Nat) (u : Value), (bv (pageB no L))[j]? = some u → wc.cell? ⟨gp, j, none⟩ = some u := by
    rw [pageB_hd, bv_app, bv_rep, Hl2.out]
    exact hcc
  have hplen : (pageB no L).length = 254 := pageB_len (by rw [Hl2.out]; omega)
  have hrp := rd_page (B := gp + 1) hpq (by omega) (by rw [hplen]; unfold maxLen; omega)
  rw [hplen] at hrp
  have hbd := hb9.trans (hbc.mono hlt8)
  have Hs := Lib.hid (seal_any (some ⟨gp, 0, none⟩) 254 254 (gp + 1) (pageB no L) wc hrp (by omega) (by omega))
  clear hAc hm hcl hcc hpq hplen hrp hbc hgb hb9 hgc
  go_wp2_with (with_reducible refine stop_clear ?_)
  refine go_ (wpList_clear rfl Hcl.out ?_)
  clear hcut Hcl wb
  go_wp2_with fail
  go_fit Hs.out
  rintro e wd ⟨Ad, cd, nd, rfl, ownd, hbx⟩
  go_wp2
  go_ret2
  rw [HP.out, HE1.out]
  exact ⟨Ad, cd, nd, rfl, own_mono ownd hbd.size, bnx hbd hbx⟩

end Go.Proofs.Ytplgcfjcdjlnbaa

/-
  The document's Put of layer 35 walked.
-/
set_option linter.unusedSimpArgs false
set_option linter.unusedVariables false
namespace Go.Proofs.Ytplgcfjcdjlnbaa
open Go.RowKit NumLaw
attribute [local go_sem] Addr.add_mid

set_option maxRecDepth 10000 in
set_option maxHeartbeats 8000000 in
theorem qblkPut_any (no : Nat) (A : Option Addr) (n c B : Nat) (L : List En) (w : World) (hno : no < 4294967296) (h : RdE w B A n c L) (hB : B ≤ w.heap.size) (hq : ∀ x ∈ L, EnQ x) (hn : n ≤ 100000) :
    Calls Try.prog 33 #[.agg #[.int .u32 (no : Int), .slice A n c]] w (RetBk w (putB no L) (putE L)) := by
  have hll := h.len
  obtain ⟨i0, hi⟩ := info_parts u8_info
  have Hi := Lib.hid hi
  have hb1 : Below w.heap.size w (w.alloc (.cells #[.int .u32 (no : Int), .slice A n c] 41)) := (Below.refl _ _).alloc (Nat.le_refl _) _
  have hbox := heap_alloc_new w (.cells #[.int .u32 (no : Int), .slice A n c] 41)
  have Hll := Lib.hid hll
  by_cases n0 : n = 0
  · subst n0
    obtain rfl : L = [] := List.eq_nil_of_length_eq_zero hll
    clear hll hi
    go_enter Try.func33, Try.ntmps33
    go_wp2
    go_ret2
    exact retBk_none hb1 _ rfl
  obtain ⟨gL, off, x, hA, hgB, hx, hr⟩ := h.at_ (k := 0) (by omega)
  subst hA
  rw [Nat.zero_mul, Nat.add_zero] at hr
  have hpE := putE_first hx
  have k0 : w.cell? ⟨gL, off, none⟩ = some (.bool x.key) := range_key hr
  have k1 : (w.alloc (.cells #[.int .u32 (no : Int), .slice (some ⟨gL, off, none⟩) n c] 41)).cell? ⟨gL, off, none⟩ = some (.bool x.key) := (hb1.cell (p := ⟨gL, off, none⟩) (by show gL < _; omega)).trans k0
  have hn0 : (0 : Int) < (n : Int) := by omega
  have hn1 : ¬ (n : Int) = 0 := by omega
  have hx0 := Lib.hid hx
  have HE := Lib.hid hpE
  clear hpE k0 hx hll hi n0 hr
  by_cases hk : x.key = false
  · rw [hk] at k1
    have hE : putE L = 1 := by rw [HE.out, if_pos hk]
    have HE1 := Lib.hid hE
    clear hE
    go_enter Try.func33, Try.ntmps33
    go_wp2_with fail
    generalize (w.alloc (.cells #[.int .u32 (no : Int), .slice (some ⟨gL, off, none⟩) n c] 41)) = w1 at *
    have c1 := blk_cell (i := 1) (v := .slice (some ⟨gL, off, none⟩) n c) hbox rfl
    go_wp2
    go_ret2
    rw [putB_none (by rw [HE1.out]; omega), HE1.out]
    exact retBk_none hb1 _ rfl
  replace hk : x.key = true := by simpa using hk
  rw [hk] at k1
  have HE2 : Hid (putE L = if 248 < (entB L).length then 8 else 0) := Lib.hid (by rw [HE.out, if_neg (by rw [hk]; simp)])
  have Hl := Lib.hid (fun w1 (h1 : RdE w1 B (some ⟨gL, off, none⟩) n c L) hB1 => qlays_any (some ⟨gL, off, none⟩) n c B L w1 h1 hB1 hq hn)
  have Hen := Lib.hid (ent_len35 hq)
  clear HE hk hq
  go_enter Try.func33, Try.ntmps33
  go_wp2_with fail
  generalize (w.alloc (.cells #[.int .u32 (no : Int), .slice (some ⟨gL, off, none⟩) n c] 41)) = w1 at *
  have c0 := blk_cell (i := 0) (v := .int .u32 (no : Int)) hbox rfl
  have c1 := blk_cell (i := 1) (v := .slice (some ⟨gL, off, none⟩) n c) hbox rfl
  have hg : w.heap.size < w1.heap.size := blk_lt hbox
  go_wp2_with fail
  go_fit (Hl.out w1 (h.up (hb1.mono hB)) (Nat.le_trans hB hb1.size))
  rintro e w2 ⟨A2, c2, n2, rfl, own2, hb12⟩
  have hl2 := own_len own2
  have hr2 := Rd.own own2
  have hb2 := bnx hb1 hb12
  replace c0 := (hb12.cell (p := ⟨w.heap.size, 0, none⟩) hg).trans c0
  replace c1 := (hb12.cell (p := ⟨w.heap.size, 1, none⟩) hg).trans c1
  replace hg : w.heap.size < w2.heap.size := Nat.lt_of_lt_of_le hg hb12.size
  have Hl2 := Lib.hid hl2
  have hen := Hen.out
  rw [hl2, Hll.out] at hen
  obtain ⟨hen1, hen2⟩ := hen
  clear k1 hbox hb1 hb12 own2 hl2 w1
  by_cases hf : 248 < n2
  · have hf' : (248 : Int) < (n2 : Int) := by omega
    have hE : putE L = 8 := by rw [HE2.out, if_pos (by rw [Hl2.out]; exact hf)]
    have HE1 := Lib.hid hE
    clear hE hf
    go_wp2
    go_ret2
    rw [putB_none (by rw [HE1.out]; omega), HE1.out]
    exact retBk_none hb2 _ rfl
  have hf' : ¬ (248 : Int) < (n2 : Int) := by omega
  have hn82 : n ≤ 82 := by omega
  have hE : putE L = 0 := by rw [HE2.out, if_neg (by rw [Hl2.out]; exact hf)]
  have HE1 := Lib.hid hE
  have hwn : IntKind.u8.wrap (n : Int) = n := IntWalk.u8_in _ (by omega)
  have hwo : IntKind.u64.wrap (no : Int) = no := IntWalk.u64_in _ (by omega)
  have hP : putB no L = pageB no L ++ tailN (pageB no L) := by unfold putB; rw [if_pos hE]
  have HP := Lib.hid hP
  have hby := fun w => qBytes_any 4 no w (by omega) (by omega)
  rw [show ((4 : Nat) : Int) = 4 from rfl] at hby
  clear hE hf hP
  go_wp2_with fail
  refine Ord.region_m [4, 8, 9] [[0, 1, 2, 3, 4, 5, 6, 7, 8, 9, 10], [0, 1, 2, 3, 5, 6, 7, 8, 4, 9, 10]] (fun w' => Below w2.heap.size w2 w') false [] (by kernel_rfl) (by kernel_rfl) ((Below.refl _ _).drew) ?_
  have hS : Below w2.heap.size w2 w2.drew := (Below.refl _ _).drew
  generalize w2.drew = x0 at *
  intro LL hLL
  simp only [List.mem_cons, List.not_mem_nil, or_false] at hLL
  rcases hLL with rfl | rfl
  · simp only [Ord.lst, List.filterMap_cons, List.filterMap_nil, List.getElem?_toArray, List.getElem?_cons_succ, List.getElem?_cons_zero]
    ((with_reducible refine Ord.e_p (v := ?_) ?_ ?_ ?_ ?_); rotate_left; (· exact rfl); (· kernel_rfl); (· intro w2; go_simp; try with_reducible rfl))
    (try simp only [Act.put, List.setIfInBounds_toArray, List.set_cons_zero, List.set_cons_succ])
    refine Ord.e_loadS Try.underlying39 rfl (fun w' hS => ((show Below _ w2 w' from hS).cell (p := ⟨w.heap.size, 1, none⟩) hg).trans c1) hS rfl (by kernel_rfl) ?_
    (try simp only [Act.put, List.setIfInBounds_toArray, List.set_cons_zero, List.set_cons_succ])
    ((with_reducible refine Ord.e_p (v := ?_) ?_ ?_ ?_ ?_); rotate_left; (· exact rfl); (· kernel_rfl); (· intro w2; go_simp; try with_reducible rfl))
    (try simp only [Act.put, List.setIfInBounds_toArray, List.set_cons_zero, List.set_cons_succ])
    ((with_reducible refine Ord.e_p (v := ?_) ?_ ?_ ?_ ?_); rotate_left; (· exact rfl); (· kernel_rfl); (· intro w2; go_simp; try with_reducible rfl))
    (try simp only [Act.put, List.setIfInBounds_toArray, List.set_cons_zero, List.set_cons_succ])
    refine Ord.e_x rfl (by kernel_rfl) ?_
    go_wp2_with fail
    have ownA : (x0.alloc (.cells #[.int .u8 76, .int .u8 (n : Int)] 5)).ownsRow w2.heap.size 5 1 (.slice (some ⟨x0.heap.size, 0, none⟩) 2 2) 2 (bv [76, UInt8.ofNat n]) := own_two x0 _ _ 76 (UInt8.ofNat n) 76 (n : Int) rfl (u8_of (by omega)) hS.size
    have hbx : Below x0.heap.size x0 (x0.alloc (.cells #[.int .u8 76, .int .u8 (n : Int)] 5)) := (Below.refl _ _).alloc (Nat.le_refl _) _
    replace hS := bnx hS hbx
    refine Ord.Seg.go hS (fun h => by cases h) ?_
    (try simp only [Act.put, List.setIfInBounds_toArray, List.set_cons_zero, List.set_cons_succ])
    generalize (x0.alloc (.cells #[.int .u8 76, .int .u8 (n : Int)] 5)) = x1 at *
    generalize x0.heap.size = gb at *
    clear hbx
    ((with_reducible refine Ord.e_p (v := ?_) ?_ ?_ ?_ ?_); rotate_left; (· exact rfl); (· kernel_rfl); (· intro w2; go_simp; try with_reducible rfl))
    (try simp only [Act.put, List.setIfInBounds_toArray, List.set_cons_zero, List.set_cons_succ])
    refine Ord.e_loadS Try.underlying22 rfl (fun w' hS => ((show Below _ w2 w' from hS).cell (p := ⟨w.heap.size, 0, none⟩) hg).trans c0) hS rfl (by kernel_rfl) ?_
    (try simp only [Act.put, List.setIfInBounds_toArray, List.set_cons_zero, List.set_cons_succ])
    ((with_reducible refine Ord.e_p (v := ?_) ?_ ?_ ?_ ?_); rotate_left; (· exact rfl); (· kernel_rfl); (· intro w2; go_simp; try with_reducible rfl))
    (try simp only [Act.put, List.setIfInBounds_toArray, List.set_cons_zero, List.set_cons_succ])
    refine Ord.e_x rfl (by kernel_rfl) ?_
    go_wp2_with fail
    go_fit (hby x1)
    rintro e x2 ⟨A4, c4, n4, rfl, own4, hbx⟩
    have hl4 := own_len own4
    rw [bytesN_len] at hl4
    subst hl4
    replace ownA := own_up ownA hbx (Nat.le_refl _)
    replace hS := bnx hS hbx
    clear hbx
    go_wp2_with fail
    refine Ord.Seg.go hS (fun h => by cases h) ?_
    (try simp only [Act.put, List.setIfInBounds_toArray, List.set_cons_zero, List.set_cons_succ])
    refine Ord.e_x rfl (by kernel_rfl) ?_
    refine wpList_appG (base := w2.heap.size) Try.underlying26 Hi.out rfl (by omega) ownA rfl (Rd.own own4) rfl (bv_one _) (k := 6) (ys := bv ([76, UInt8.ofNat n] ++ bytesN 4 no)) rfl (bv_app _ _).symm (by unfold maxLen; omega) (by omega) hS.size ?_
    intro A5 c5 x3 own5 hgr hob
    replace hS := Below.grown hS hgr hS.size (fun j hj => (own_blk ownA hj).1)
    clear hgr hob ownA own4
    go_wp2_with fail
    refine Ord.Seg.go hS (fun h => by cases h) ?_
    (try simp only [Act.put, List.setIfInBounds_toArray, List.set_cons_zero, List.set_cons_succ])
    ((with_reducible refine Ord.e_p (v := ?_) ?_ ?_ ?_ ?_); rotate_left; (· exact rfl); (· kernel_rfl); (· intro w2; go_simp; try with_reducible rfl))
    (try simp only [Act.put, List.setIfInBounds_toArray, List.set_cons_zero, List.set_cons_succ])
    refine Ord.e_nil ?_
    have hr5 := hr2.up hS
    go_wp2_with (at_builtin; refine stop_ ?_)
    refine go_ (wpList_appG (base := w2.heap.size) Try.underlying26 Hi.out rfl (by omega) own5 rfl hr5 rfl (bv_one _) (k := 6 + n2) (ys := bv (hdB no L)) rfl (by rw [← hdB_eq, Hll.out, bv_app ([76, UInt8.ofNat n] ++ bytesN 4 no)]) (by unfold maxLen; omega) (by omega) hS.size ?_)
    intro A6 c6 y1 own6 hgr hob
    replace hS := Below.grown hS hgr hS.size (fun j hj => (own_blk own5 hj).1)
    clear hgr hob own5 hr5 hr2 c0 c1
    go_wp2_with fail
    go_loopw [5] (fun s wr => ∃ (j : Nat) (A7 : Option Addr) (c7 : Nat), s = .slice A7 (6 + n2 + j) c7 ∧ j ≤ 248 - n2 ∧ wr.ownsRow w2.heap.size 5 1 (.slice A7 (6 + n2 + j) c7) (6 + n2 + j) (bv (hdB no L ++ List.replicate j 0)) ∧ Below w2.heap.size w2 wr) (fun s _ => 254 - slLenB s)
    case atStart => exact ⟨0, A6, c6, rfl, by omega, by simpa using own6, hS⟩
    case round =>
      clear own6 hS y1
      obtain ⟨j, A7, c7, rfl, hj, own7, hS⟩ := hrel
      by_cases hlt : 6 + n2 + j < 254
      · have hlt' : ((6 + n2 + j : Nat) : Int) < 254 := by omega
        go_wp2_with (at_builtin; refine stop_ ?_)
        have hbx : Below wr.heap.size wr (wr.alloc (.cells #[.int .u8 0] 5)) := (Below.refl _ _).alloc (Nat.le_refl _) _
        have hr8 : Rd (wr.alloc (.cells #[.int .u8 0] 5)) (wr.heap.size + 1) 1 (some ⟨wr.heap.size, 0, none⟩) 1 1 (bv [0]) := rd_litG wr _ (bv [0]) (by simp [maxLen, bv])
        refine go_ (wpList_appG (base := w2.heap.size) Try.underlying26 Hi.out rfl (by omega) (own_up own7 hbx (Nat.le_refl _)) rfl hr8 rfl (bv_one _) (k := 6 + n2 + (j + 1)) (ys := bv (hdB no L ++ List.replicate (j + 1) 0)) rfl (by rw [← bv_app, List.append_assoc, List.replicate_succ']) (by unfold maxLen; omega) (by omega) (bnx hS hbx).size ?_)
        intro A8 c8 w8 own8 hgr hob
        have hS8 := Below.grown (bnx hS hbx) hgr (bnx hS hbx).size (fun j hj => (own_blk own7 hj).1)
        clear hgr hob hr8 hbx own7 hS
        go_wp2
        go_roundw
        case rel => exact ⟨j + 1, A8, c8, rfl, by omega, own8, hS8⟩
        case measure => simp [slLenB]; omega
      · have hlt' : ¬ ((6 + n2 + j : Nat) : Int) < 254 := by omega
        obtain rfl : j = 248 - n2 := by omega
        have hpg : hdB no L ++ List.replicate (248 - n2) 0 = pageB no L := by rw [pageB_hd, Hl2.out]
        rw [hpg] at own7
        have hsl := rseal_any A7 (6 + n2 + (248 - n2)) c7 wr.heap.size (pageB no L) wr (Rd.own own7) (Nat.le_refl _) (by omega)
        have Hsl := Lib.hid hsl
        clear hsl hpg own7
        go_wp2_with fail
        go_fit Hsl.out
        rintro e w9 ⟨A9, c9, n9, rfl, own9, hb9⟩
        go_wp2
        go_ret2
        rw [HP.out, HE1.out]
        exact ⟨A9, c9, n9, rfl, own_mono own9 (Nat.le_trans hb2.size hS.size), bnx (hb2.trans (hS.mono hb2.size)) hb9⟩
  · simp only [Ord.lst, List.filterMap_cons, List.filterMap_nil, List.getElem?_toArray, List.getElem?_cons_succ, List.getElem?_cons_zero]
    ((with_reducible refine Ord.e_p (v := ?_) ?_ ?_ ?_ ?_); rotate_left; (· exact rfl); (· kernel_rfl); (· intro w2; go_simp; try with_reducible rfl))
    (try simp only [Act.put, List.setIfInBounds_toArray, List.set_cons_zero, List.set_cons_succ])
    refine Ord.e_loadS Try.underlying39 rfl (fun w' hS => ((show Below _ w2 w' from hS).cell (p := ⟨w.heap.size, 1, none⟩) hg).trans c1) hS rfl (by kernel_rfl) ?_
    (try simp only [Act.put, List.setIfInBounds_toArray, List.set_cons_zero, List.set_cons_succ])
    ((with_reducible refine Ord.e_p (v := ?_) ?_ ?_ ?_ ?_); rotate_left; (· exact rfl); (· kernel_rfl); (· intro w2; go_simp; try with_reducible rfl))
    (try simp only [Act.put, List.setIfInBounds_toArray, List.set_cons_zero, List.set_cons_succ])
    ((with_reducible refine Ord.e_p (v := ?_) ?_ ?_ ?_ ?_); rotate_left; (· exact rfl); (· kernel_rfl); (· intro w2; go_simp; try with_reducible rfl))
    (try simp only [Act.put, List.setIfInBounds_toArray, List.set_cons_zero, List.set_cons_succ])
    ((with_reducible refine Ord.e_p (v := ?_) ?_ ?_ ?_ ?_); rotate_left; (· exact rfl); (· kernel_rfl); (· intro w2; go_simp; try with_reducible rfl))
    (try simp only [Act.put, List.setIfInBounds_toArray, List.set_cons_zero, List.set_cons_succ])
    refine Ord.e_loadS Try.underlying22 rfl (fun w' hS => ((show Below _ w2 w' from hS).cell (p := ⟨w.heap.size, 0, none⟩) hg).trans c0) hS rfl (by kernel_rfl) ?_
    (try simp only [Act.put, List.setIfInBounds_toArray, List.set_cons_zero, List.set_cons_succ])
    ((with_reducible refine Ord.e_p (v := ?_) ?_ ?_ ?_ ?_); rotate_left; (· exact rfl); (· kernel_rfl); (· intro w2; go_simp; try with_reducible rfl))
    (try simp only [Act.put, List.setIfInBounds_toArray, List.set_cons_zero, List.set_cons_succ])
    refine Ord.e_x rfl (by kernel_rfl) ?_
    go_wp2_with fail
    go_fit (hby x0)
    rintro e x1 ⟨A4, c4, n4, rfl, own4, hbx⟩
    have hl4 := own_len own4
    rw [bytesN_len] at hl4
    subst hl4
    replace hS := bnx hS hbx
    clear hbx
    go_wp2_with fail
    refine Ord.Seg.go hS (fun h => by cases h) ?_
    (try simp only [Act.put, List.setIfInBounds_toArray, List.set_cons_zero, List.set_cons_succ])
    refine Ord.e_x rfl (by kernel_rfl) ?_
    go_wp2_with fail
    have ownA : (x1.alloc (.cells #[.int .u8 76, .int .u8 (n : Int)] 5)).ownsRow w2.heap.size 5 1 (.slice (some ⟨x1.heap.size, 0, none⟩) 2 2) 2 (bv [76, UInt8.ofNat n]) := own_two x1 _ _ 76 (UInt8.ofNat n) 76 (n : Int) rfl (u8_of (by omega)) hS.size
    have hbx : Below x1.heap.size x1 (x1.alloc (.cells #[.int .u8 76, .int .u8 (n : Int)] 5)) := (Below.refl _ _).alloc (Nat.le_refl _) _
    replace own4 := own_up own4 hbx (Nat.le_refl _)
    replace hS := bnx hS hbx
    refine Ord.Seg.go hS (fun h => by cases h) ?_
    (try simp only [Act.put, List.setIfInBounds_toArray, List.set_cons_zero, List.set_cons_succ])
    generalize (x1.alloc (.cells #[.int .u8 76, .int .u8 (n : Int)] 5)) = x2 at *
    generalize x1.heap.size = gb at *
    clear hbx
    refine Ord.e_x rfl (by kernel_rfl) ?_
    refine wpList_appG (base := w2.heap.size) Try.underlying26 Hi.out rfl (by omega) ownA rfl (Rd.own own4) rfl (bv_one _) (k := 6) (ys := bv ([76, UInt8.ofNat n] ++ bytesN 4 no)) rfl (bv_app _ _).symm (by unfold maxLen; omega) (by omega) hS.size ?_
    intro A5 c5 x3 own5 hgr hob
    replace hS := Below.grown hS hgr hS.size (fun j hj => (own_blk ownA hj).1)
    clear hgr hob ownA own4
    go_wp2_with fail
    refine Ord.Seg.go hS (fun h => by cases h) ?_
    (try simp only [Act.put, List.setIfInBounds_toArray, List.set_cons_zero, List.set_cons_succ])
    ((with_reducible refine Ord.e_p (v := ?_) ?_ ?_ ?_ ?_); rotate_left; (· exact rfl); (· kernel_rfl); (· intro w2; go_simp; try with_reducible rfl))
    (try simp only [Act.put, List.setIfInBounds_toArray, List.set_cons_zero, List.set_cons_succ])
    refine Ord.e_nil ?_
    have hr5 := hr2.up hS
    go_wp2_with (at_builtin; refine stop_ ?_)
    refine go_ (wpList_appG (base := w2.heap.size) Try.underlying26 Hi.out rfl (by omega) own5 rfl hr5 rfl (bv_one _) (k := 6 + n2) (ys := bv (hdB no L)) rfl (by rw [← hdB_eq, Hll.out, bv_app ([76, UInt8.ofNat n] ++ bytesN 4 no)]) (by unfold maxLen; omega) (by omega) hS.size ?_)
    intro A6 c6 y1 own6 hgr hob
    replace hS := Below.grown hS hgr hS.size (fun j hj => (own_blk own5 hj).1)
    clear hgr hob own5 hr5 hr2 c0 c1
    go_wp2_with fail
    go_loopw [5] (fun s wr => ∃ (j : Nat) (A7 : Option Addr) (c7 : Nat), s = .slice A7 (6 + n2 + j) c7 ∧ j ≤ 248 - n2 ∧ wr.ownsRow w2.heap.size 5 1 (.slice A7 (6 + n2 + j) c7) (6 + n2 + j) (bv (hdB no L ++ List.replicate j 0)) ∧ Below w2.heap.size w2 wr) (fun s _ => 254 - slLenB s)
    case atStart => exact ⟨0, A6, c6, rfl, by omega, by simpa using own6, hS⟩
    case round =>
      clear own6 hS y1
      obtain ⟨j, A7, c7, rfl, hj, own7, hS⟩ := hrel
      by_cases hlt : 6 + n2 + j < 254
      · have hlt' : ((6 + n2 + j : Nat) : Int) < 254 := by omega
        go_wp2_with (at_builtin; refine stop_ ?_)
        have hbx : Below wr.heap.size wr (wr.alloc (.cells #[.int .u8 0] 5)) := (Below.refl _ _).alloc (Nat.le_refl _) _
        have hr8 : Rd (wr.alloc (.cells #[.int .u8 0] 5)) (wr.heap.size + 1) 1 (some ⟨wr.heap.size, 0, none⟩) 1 1 (bv [0]) := rd_litG wr _ (bv [0]) (by simp [maxLen, bv])
        refine go_ (wpList_appG (base := w2.heap.size) Try.underlying26 Hi.out rfl (by omega) (own_up own7 hbx (Nat.le_refl _)) rfl hr8 rfl (bv_one _) (k := 6 + n2 + (j + 1)) (ys := bv (hdB no L ++ List.replicate (j + 1) 0)) rfl (by rw [← bv_app, List.append_assoc, List.replicate_succ']) (by unfold maxLen; omega) (by omega) (bnx hS hbx).size ?_)
        intro A8 c8 w8 own8 hgr hob
        have hS8 := Below.grown (bnx hS hbx) hgr (bnx hS hbx).size (fun j hj => (own_blk own7 hj).1)
        clear hgr hob hr8 hbx own7 hS
        go_wp2
        go_roundw
        case rel => exact ⟨j + 1, A8, c8, rfl, by omega, own8, hS8⟩
        case measure => simp [slLenB]; omega
      · have hlt' : ¬ ((6 + n2 + j : Nat) : Int) < 254 := by omega
        obtain rfl : j = 248 - n2 := by omega
        have hpg : hdB no L ++ List.replicate (248 - n2) 0 = pageB no L := by rw [pageB_hd, Hl2.out]
        rw [hpg] at own7
        have hsl := rseal_any A7 (6 + n2 + (248 - n2)) c7 wr.heap.size (pageB no L) wr (Rd.own own7) (Nat.le_refl _) (by omega)
        have Hsl := Lib.hid hsl
        clear hsl hpg own7
        go_wp2_with fail
        go_fit Hsl.out
        rintro e w9 ⟨A9, c9, n9, rfl, own9, hb9⟩
        go_wp2
        go_ret2
        rw [HP.out, HE1.out]
        exact ⟨A9, c9, n9, rfl, own_mono own9 (Nat.le_trans hb2.size hS.size), bnx (hb2.trans (hS.mono hb2.size)) hb9⟩

end Go.Proofs.Ytplgcfjcdjlnbaa

/-
  block.entry and noughts walked (printed by gen_blk5.py).
-/
set_option linter.unusedSimpArgs false
set_option linter.unusedVariables false
namespace Go.Proofs.Ytplgcfjcdjlnbaa
open Go.RowKit NumLaw
attribute [local go_sem] Addr.add_mid

theorem setCells_stN (g : Nat) : ∀ (vs : List Value) (k : Nat) (w : World), w.setCells g k vs = stN w g k vs
  | [], _, _ => rfl
  | v :: vs, k, w => setCells_stN g vs (k + 1) _
theorem aw_setCells (g : Nat) (a : World) : ∀ (vs : List Value) (k : Nat) (w : World), Aw (fun j => j = g) a w → Aw (fun j => j = g) a (w.setCells g k vs)
  | [], _, _, h => h
  | v :: vs, k, w, h => aw_setCells g a vs (k + 1) _ (h.set _ rfl)
/-- A record laid into an entry. -/
theorem en_rec (x : En) (t : Nat) (V : List Int) (hx : x.V.length = 12) (hV : V.length = 12) (w : World) (g : Nat) (h : EnB w g x) :
    EnB (w.setCells g 1 (rcC t V)) g ⟨x.key, t, V⟩ ∧ Aw (fun k => k = g) w (w.setCells g 1 (rcC t V)) := by
  refine ⟨?_, aw_setCells g w _ 1 w (Aw.refl _ _)⟩
  rw [setCells_stN]
  have h' : w.heap[g]? = some (.cells ([Value.bool x.key] ++ rcC x.t x.V).toArray 46) := h
  exact stN_heap (g := g) (rcC t V) [Value.bool x.key] (rcC x.t x.V) w h' (by rw [rcC_size _ _ hV, rcC_size _ _ hx])
theorem en_there {w : World} {g : Nat} {x : En} (h : EnB w g x) (hx : x.V.length = 12) (m : Nat) (hm : m = 13) : w.there g 1 m := fun j hj => by
  subst hm
  refine ⟨?_, blk_free (i := 1 + j) h⟩
  have hj2 : j < (rcC x.t x.V).length := by rw [rcC_size _ _ hx]; exact hj
  rw [h.rec_ j _ (List.getElem?_eq_getElem hj2)]
  rfl
theorem en_key (x : En) (b : Bool) (w : World) (g : Nat) (h : EnB w g x) : EnB (w.setCell ⟨g, 0, none⟩ (.bool b)) g ⟨b, x.t, x.V⟩ := blk_set (i := 0) h (.bool b)
/-- What entry hands back. -/
def RetEn (x : En) (n : Nat) (w : World) (e : Ending) (w' : World) : Prop := e = .returned (.tuple #[.agg (enC x).toArray, .int .i64 (n : Int)]) ∧ Below w.heap.size w w'

theorem recTV_len35 {V : List Int} {b : List UInt8} {t : Nat} (ht : t < 4294967296) (hV : V.length = 12) (h32 : ∀ x ∈ V, in32 x) : (recTV V b).length = 12 := by
  by_cases h : recTE V b = 0
  · exact (rec_back (t := t) ht hV h32 h).2.2.2.1
  · rw [(recT_bad (t := t) h).2.1]; rfl

set_option maxRecDepth 10000 in
set_option maxHeartbeats 8000000 in
theorem entry_any (t : Nat) (V : List Int) (A : Option Addr) (n c B : Nat) (R : List UInt8) (bg : Bool) (w : World) (ht : t < 4294967296) (hV : V.length = 12) (h32 : ∀ z ∈ V, in32 z) (h : Rd w B 1 A n c (bv R)) (hB : B ≤ w.heap.size) (hn : n ≤ 1000000) :
    Calls Try.prog 93 #[.agg (rcC t V).toArray, .slice A n c, .bool bg] w (RetEn (entX t V bg R) (entN V bg R) w) := by
  have hlb := h.blen
  have Hlb := Lib.hid hlb
  have HV := Lib.hid hV
  obtain ⟨i0, hi⟩ := info_parts u8_info
  obtain ⟨x0, x1, x2, xs, xb⟩ := al3 w (.cells (rcC t V).toArray 25) (.cells #[.bool false, .int .u32 0, .int .i32 0, .int .i32 0, .int .i32 0, .int .i32 0, .int .i32 0, .int .i32 0, .int .i32 0, .int .i32 0, .int .i32 0, .int .i32 0, .int .i32 0, .int .i32 0] 46) (.cells #[.bool false, .int .u32 0, .int .i32 0, .int .i32 0, .int .i32 0, .int .i32 0, .int .i32 0, .int .i32 0, .int .i32 0, .int .i32 0, .int .i32 0, .int .i32 0, .int .i32 0, .int .i32 0] 46)
  have hle := h.le
  have hmx := h.max
  unfold maxLen at hmx
  match R, h, hlb, Hlb with
  | [], h, hlb, Hlb =>
    have hlb : 0 = n := hlb
    subst hlb
    clear Hlb hi hV h32
    go_enter Try.func93, Try.ntmps93
    go_wp2_with (first | (with_reducible refine stop_loadT 46 ?_) | (with_reducible refine stop_storeT 46 ?_) | (with_reducible refine stop_loadG 46 ?_))
    rw [show w.heap.size + 1 + 1 = w.heap.size + 2 by omega]
    generalize (((w.alloc (.cells (rcC t V).toArray 25)).alloc (.cells #[.bool false, .int .u32 0, .int .i32 0, .int .i32 0, .int .i32 0, .int .i32 0, .int .i32 0, .int .i32 0, .int .i32 0, .int .i32 0, .int .i32 0, .int .i32 0, .int .i32 0, .int .i32 0] 46)).alloc (.cells #[.bool false, .int .u32 0, .int .i32 0, .int .i32 0, .int .i32 0, .int .i32 0, .int .i32 0, .int .i32 0, .int .i32 0, .int .i32 0, .int .i32 0, .int .i32 0, .int .i32 0, .int .i32 0] 46)) = w1 at *
    replace x1 : EnB w1 (w.heap.size + 1) zen := x1
    replace x2 : EnB w1 (w.heap.size + 2) zen := x2
    refine go_ (wpList_load_mid rfl _ _ rfl (w.heap.size + 2) 0 rfl _ _ x2.all Try.underlying46 rfl (by kernel_rfl) ?_)
    go_wp2_with (first | (with_reducible refine stop_loadT 46 ?_) | (with_reducible refine stop_storeT 46 ?_) | (with_reducible refine stop_loadG 46 ?_))
    refine go_ (wpList_store_row rfl _ _ _ rfl (w.heap.size + 1) (enC zen).toArray rfl rfl _ _ x1 (by kernel_rfl) (by kernel_rfl) (by kernel_rfl) ?_)
    obtain ⟨hz, hAz⟩ := en_store zen rfl w1 (w.heap.size + 1) x1
    have hbz := below_awG xb hAz (fun k hk => by omega) xb.size
    generalize (w1.setRow (w.heap.size + 1) (enC zen).toArray) = w5 at *
    go_wp2
    exact bodyPost_ret (results_cell2 (fn := Try.f93) Try.results93 _ _ (w.heap.size + 1) _ _ _ _ rfl hz Try.underlying46 rfl (by kernel_rfl)) rfl ⟨rfl, hbz⟩
  | cc :: R, h, hlb, Hlb =>
  have hlr : R.length + 1 = n := hlb
  obtain ⟨ad, cx, rfl, hcx, hcell⟩ := h.byte (k := 0) (by omega)
  obtain rfl : cc = cx := by simpa using hcx
  rw [addr_zero] at hcell
  have h1 := h.up (xb.mono hB)
  have hk1 : (((w.alloc (.cells (rcC t V).toArray 25)).alloc (.cells #[.bool false, .int .u32 0, .int .i32 0, .int .i32 0, .int .i32 0, .int .i32 0, .int .i32 0, .int .i32 0, .int .i32 0, .int .i32 0, .int .i32 0, .int .i32 0, .int .i32 0, .int .i32 0] 46)).alloc (.cells #[.bool false, .int .u32 0, .int .i32 0, .int .i32 0, .int .i32 0, .int .i32 0, .int .i32 0, .int .i32 0, .int .i32 0, .int .i32 0, .int .i32 0, .int .i32 0, .int .i32 0, .int .i32 0] 46)).cell? ad = some (.int .u8 (cc.toNat : Int)) := by
    obtain ⟨ad2, e2, hb2, _⟩ := h.at_ (by omega)
    injection e2 with e2
    subst e2
    exact (xb.cell (p := ad) (by omega)).trans hcell
  have hn1 : ¬ (n : Int) = 0 := by omega
  have hn0 : (0 : Int) < (n : Int) := by omega
  have hcut : ∀ w, (Instr.slice 26 (.slice (some ad) n c) (some (.int .i64 1)) none none).run Try.prog w = .ok (.slice (cutA (some ad) c 1 1) (n - 1) (c - 1)) w := fun w => run_cut_l (P := Try.prog) Try.underlying26 hi.1 hi.2.2.1 (some ad) n c 1 (by omega) w
  have hR := h1.bdrop (k := 1) (by omega)
  replace hR : Rd _ B 1 (cutA (some ad) c 1 1) (n - 1) (c - 1) (bv R) := hR
  have HNc := Lib.hid (entN_cons V bg cc R)
  have HXc := Lib.hid (entX_cons t V bg cc R)
  clear hcell hcx hlb Hlb hi
  by_cases h75 : cc = 75
  · subst h75
    replace hk1 : (((w.alloc (.cells (rcC t V).toArray 25)).alloc (.cells #[.bool false, .int .u32 0, .int .i32 0, .int .i32 0, .int .i32 0, .int .i32 0, .int .i32 0, .int .i32 0, .int .i32 0, .int .i32 0, .int .i32 0, .int .i32 0, .int .i32 0, .int .i32 0] 46)).alloc (.cells #[.bool false, .int .u32 0, .int .i32 0, .int .i32 0, .int .i32 0, .int .i32 0, .int .i32 0, .int .i32 0, .int .i32 0, .int .i32 0, .int .i32 0, .int .i32 0, .int .i32 0, .int .i32 0] 46)).cell? ad = some (.int .u8 75) := hk1
    have HN : Hid (entN V bg (75 :: R) = if keE R = 0 then 53 else 0) := Lib.hid (by rw [HNc.out, if_pos rfl])
    have HX : Hid (entX t V bg (75 :: R) = if keE R = 0 then ⟨true, keT R, keV R⟩ else zenE) := Lib.hid (by rw [HXc.out, if_pos rfl])
    have HVl := Lib.hid (keV_len R)
    have HK := Lib.hid (fun w1 (h1 : Rd w1 B 1 (cutA (some ad) c 1 1) (n - 1) (c - 1) (bv R)) (hB1 : B ≤ w1.heap.size) => takeKey_any (cutA (some ad) c 1 1) (n - 1) (c - 1) B R w1 h1 hB1 (by omega))
    have HnN : Hid (keE R = 0 → keN R = 52) := Lib.hid (fun h => by
      unfold keE at h; unfold keN
      split at h
      · cases h
      · rename_i h0; rw [if_neg h0])
    generalize keE R = ke at *
    generalize keT R = kt at *
    generalize keV R = kv at *
    generalize keN R = kn at *
    generalize entX t V bg (75 :: R) = EX at *
    generalize entN V bg (75 :: R) = EN at *
    clear HNc HXc hV h32 h h1
    go_enter Try.func93, Try.ntmps93
    go_wp2_with (with_reducible refine stop_storeT 4 ?_)
    (try rw [show w.heap.size + 1 + 1 = w.heap.size + 2 by omega])
    generalize (((w.alloc (.cells (rcC t V).toArray 25)).alloc (.cells #[.bool false, .int .u32 0, .int .i32 0, .int .i32 0, .int .i32 0, .int .i32 0, .int .i32 0, .int .i32 0, .int .i32 0, .int .i32 0, .int .i32 0, .int .i32 0, .int .i32 0, .int .i32 0] 46)).alloc (.cells #[.bool false, .int .u32 0, .int .i32 0, .int .i32 0, .int .i32 0, .int .i32 0, .int .i32 0, .int .i32 0, .int .i32 0, .int .i32 0, .int .i32 0, .int .i32 0, .int .i32 0, .int .i32 0] 46)) = w1 at *
    replace x1 : EnB w1 (w.heap.size + 1) zen := x1
    replace x2 : EnB w1 (w.heap.size + 2) zen := x2
    have s0 := x2.keyc
    have s1 : w1.frozen? ⟨w.heap.size + 2, 0, none⟩ = false := blk_free (i := 0) x2
    have y2 : EnB _ (w.heap.size + 2) ⟨true, 0, z12⟩ := en_key zen true w1 _ x2
    have hA2 : Aw (fun j => j = w.heap.size + 2) w1 (w1.setCell ⟨w.heap.size + 2, 0, none⟩ (.bool true)) := (Aw.refl _ _).set _ rfl
    have y1 : EnB _ (w.heap.size + 1) zen := hA2.keep x1 (by omega)
    have hR2 : Rd (w1.setCell ⟨w.heap.size + 2, 0, none⟩ (.bool true)) B 1 (cutA (some ad) c 1 1) (n - 1) (c - 1) (bv R) := hR.up ((Below.refl B w1).setCell (p := ⟨w.heap.size + 2, 0, none⟩) (by show B ≤ w.heap.size + 2; omega) _)
    have yb := below_awG xb hA2 (fun k hk => by omega) xb.size
    refine go_ ?_
    clear x0 xs hk1 hA2 xb x1 hR
    go_wp2_with fail
    generalize (w1.setCell ⟨w.heap.size + 2, 0, none⟩ (.bool true)) = w2 at *
    clear s0 s1 x2 w1
    go_fit (HK.out w2 hR2 (Nat.le_trans hB yb.size))
    rintro e w3 ⟨rfl, hbx⟩
    replace y1 : EnB w3 (w.heap.size + 1) zen := blk_old y1 hbx (blk_lt y1)
    replace y2 : EnB w3 (w.heap.size + 2) ⟨true, 0, z12⟩ := blk_old y2 hbx (blk_lt y2)
    replace yb := bnx yb hbx
    clear hbx hR2 w2
    go_wp2_with (first | (with_reducible refine stop_loadT 25 ?_) | (with_reducible refine stop_storeT 25 ?_) | (with_reducible refine stop_loadG 25 ?_))
    refine go_ (wpList_store_mid rfl _ _ _ rfl (w.heap.size + 2) 1 (rcC kt kv).toArray rfl rfl (en_there y2 rfl _ (by rw [List.size_toArray, rcC_size kt kv HVl.out])) (by rw [List.size_toArray, rcC_size kt kv HVl.out]; kernel_rfl) (all_oneCell_toArray (rcC_one kt kv)) ?_)
    obtain ⟨z2, hA2⟩ := en_rec _ kt kv rfl HVl.out w3 _ y2
    have z1 : EnB _ (w.heap.size + 1) zen := hA2.keep y1 (by omega)
    have zb := below_awG yb hA2 (fun k hk => by omega) yb.size
    (try simp only [List.toList_toArray])
    generalize (w3.setCells (w.heap.size + 2) 1 (rcC kt kv)) = w4 at *
    clear hA2 y1 y2 yb w3
    by_cases hke : ke = 0
    · have hke' : (ke : Int) = 0 := by omega
      have E1 : EN = 53 := by rw [HN.out, if_pos hke]
      have E2 : EX = ⟨true, kt, kv⟩ := by rw [HX.out, if_pos hke]
      have E3 := HnN.out hke
      subst E3
      subst E1; subst E2; subst hke
      go_wp2_with (first | (with_reducible refine stop_loadT 46 ?_) | (with_reducible refine stop_storeT 46 ?_) | (with_reducible refine stop_loadG 46 ?_))
      refine go_ (wpList_load_mid rfl _ _ rfl (w.heap.size + 2) 0 rfl _ _ z2.all Try.underlying46 rfl (by rw [enC_len _ HVl.out]; kernel_rfl) ?_)
      go_wp2_with (first | (with_reducible refine stop_loadT 46 ?_) | (with_reducible refine stop_storeT 46 ?_) | (with_reducible refine stop_loadG 46 ?_))
      refine go_ (wpList_store_row rfl _ _ _ rfl (w.heap.size + 1) (enC ⟨true, kt, kv⟩).toArray rfl rfl _ _ z1 (by rw [List.size_toArray, enC_len _ HVl.out]; kernel_rfl) (by rw [List.size_toArray, List.size_toArray, enC_len (⟨true, kt, kv⟩ : En) HVl.out]; rfl) (all_oneCell_toArray (enC_one _)) ?_)
      obtain ⟨hz, hAz⟩ := en_store ⟨true, kt, kv⟩ HVl.out w4 (w.heap.size + 1) z1
      have hbz := below_awG zb hAz (fun k hk => by omega) zb.size
      generalize (w4.setRow (w.heap.size + 1) (enC ⟨true, kt, kv⟩).toArray) = w5 at *
      go_wp2
      exact bodyPost_ret (results_cell2 (fn := Try.f93) Try.results93 _ _ (w.heap.size + 1) _ _ _ _ rfl hz Try.underlying46 rfl (by rw [List.size_toArray, enC_len _ HVl.out]; kernel_rfl)) rfl ⟨by rfl, hbz⟩
    · have hke' : ¬ (ke : Int) = 0 := by omega
      have E1 : EN = 0 := by rw [HN.out, if_neg hke]
      have E2 : EX = zenE := by rw [HX.out, if_neg hke]
      subst E1; subst E2
      go_wp2_with (first | (with_reducible refine stop_loadT 46 ?_) | (with_reducible refine stop_storeT 46 ?_) | (with_reducible refine stop_loadG 46 ?_))
      refine go_ (wpList_store_row rfl _ _ _ rfl (w.heap.size + 1) (enC zen).toArray rfl rfl _ _ z1 (by kernel_rfl) (by kernel_rfl) (by kernel_rfl) ?_)
      obtain ⟨hz, hAz⟩ := en_store zen rfl w4 (w.heap.size + 1) z1
      have hbz := below_awG zb hAz (fun k hk => by omega) zb.size
      generalize (w4.setRow (w.heap.size + 1) (enC zen).toArray) = w5 at *
      go_wp2
      exact bodyPost_ret (results_cell2 (fn := Try.f93) Try.results93 _ _ (w.heap.size + 1) _ _ _ _ rfl hz Try.underlying46 rfl (by kernel_rfl)) rfl ⟨rfl, hbz⟩
  by_cases hd : cc = 68 ∧ bg = false
  · obtain ⟨rfl, rfl⟩ := hd
    replace hk1 : (((w.alloc (.cells (rcC t V).toArray 25)).alloc (.cells #[.bool false, .int .u32 0, .int .i32 0, .int .i32 0, .int .i32 0, .int .i32 0, .int .i32 0, .int .i32 0, .int .i32 0, .int .i32 0, .int .i32 0, .int .i32 0, .int .i32 0, .int .i32 0] 46)).alloc (.cells #[.bool false, .int .u32 0, .int .i32 0, .int .i32 0, .int .i32 0, .int .i32 0, .int .i32 0, .int .i32 0, .int .i32 0, .int .i32 0, .int .i32 0, .int .i32 0, .int .i32 0, .int .i32 0] 46)).cell? ad = some (.int .u8 68) := hk1
    have HN : Hid (entN V false (68 :: R) = if recTE V R = 0 then recTn V R + 1 else 0) := Lib.hid (by rw [HNc.out, if_neg h75, if_pos ⟨rfl, rfl⟩])
    have HX : Hid (entX t V false (68 :: R) = if recTE V R = 0 then ⟨false, recTt t V R, recTV V R⟩ else zenE) := Lib.hid (by rw [HXc.out, if_neg h75, if_pos ⟨rfl, rfl⟩])
    have HVl := Lib.hid (recTV_len35 (b := R) ht hV h32)
    have HK := Lib.hid (fun w1 (h1 : Rd w1 B 1 (cutA (some ad) c 1 1) (n - 1) (c - 1) (bv R)) (hB1 : B ≤ w1.heap.size) => recTakeDelta_any t V (cutA (some ad) c 1 1) (n - 1) (c - 1) B R w1 ht hV h32 h1 hB1 (by omega))
    have HKn : Hid (recTE V R = 0 → recTn V R ≤ R.length) := Lib.hid (fun h => (rec_back (t := t) ht hV h32 h).2.1)
    generalize recTE V R = ke at *
    generalize recTt t V R = kt at *
    generalize recTV V R = kv at *
    generalize recTn V R = kn at *
    generalize entX t V false (68 :: R) = EX at *
    generalize entN V false (68 :: R) = EN at *
    clear HNc HXc hV h32 h h1 h75
    go_enter Try.func93, Try.ntmps93
    go_wp2_with fail
    (try rw [show w.heap.size + 1 + 1 = w.heap.size + 2 by omega])
    generalize (((w.alloc (.cells (rcC t V).toArray 25)).alloc (.cells #[.bool false, .int .u32 0, .int .i32 0, .int .i32 0, .int .i32 0, .int .i32 0, .int .i32 0, .int .i32 0, .int .i32 0, .int .i32 0, .int .i32 0, .int .i32 0, .int .i32 0, .int .i32 0] 46)).alloc (.cells #[.bool false, .int .u32 0, .int .i32 0, .int .i32 0, .int .i32 0, .int .i32 0, .int .i32 0, .int .i32 0, .int .i32 0, .int .i32 0, .int .i32 0, .int .i32 0, .int .i32 0, .int .i32 0] 46)) = w1 at *
    replace x0 : RcB w1 w.heap.size t V := x0
    replace x1 : EnB w1 (w.heap.size + 1) zen := x1
    replace x2 : EnB w1 (w.heap.size + 2) zen := x2
    refine Ord.region_ (fun w' => RcB w' w.heap.size t V) false [] (by kernel_rfl) (by kernel_rfl) x0 ?_
    replace x0 : RcB w1.drew w.heap.size t V := x0
    replace x1 : EnB w1.drew (w.heap.size + 1) zen := x1
    replace x2 : EnB w1.drew (w.heap.size + 2) zen := x2
    replace xb := xb.drew
    replace hR := hR.up ((Below.refl B w1).drew)
    generalize w1.drew = w2 at *
    clear hk1 xs w1
    refine Ord.e_rowS Try.underlying25 rfl (by rw [rcC_size t V HV.out]; kernel_rfl) rfl (by unfold rcC; simp) (fun w' hS => (show RcB w' w.heap.size t V from hS).all) x0 (by kernel_rfl) ?_
    (try simp only [Act.put, List.setIfInBounds_toArray, List.set_cons_zero, List.set_cons_succ])
    ((with_reducible refine Ord.e_p (v := ?_) ?_ ?_ ?_ ?_); rotate_left; (· exact rfl); (· kernel_rfl); (· intro w2; go_simp; try with_reducible rfl))
    (try simp only [Act.put, List.setIfInBounds_toArray, List.set_cons_zero, List.set_cons_succ])
    ((with_reducible refine Ord.e_p (v := ?_) ?_ ?_ ?_ ?_); rotate_left; (· exact rfl); (· kernel_rfl); (· intro w2; go_simp; try with_reducible rfl))
    (try simp only [Act.put, List.setIfInBounds_toArray, List.set_cons_zero, List.set_cons_succ])
    refine Ord.e_x rfl (by kernel_rfl) ?_
    go_wp2_with fail
    go_fit (HK.out w2 hR (Nat.le_trans hB xb.size))
    rintro e w3 ⟨rfl, hbx⟩
    replace x0 : RcB w3 w.heap.size t V := blk_old x0 hbx (blk_lt x0)
    have y1 : EnB w3 (w.heap.size + 1) zen := blk_old x1 hbx (blk_lt x1)
    have y2 : EnB w3 (w.heap.size + 2) zen := blk_old x2 hbx (blk_lt x2)
    have yb := bnx xb hbx
    clear hbx hR xb x1 x2
    go_wp2_with fail
    refine Ord.Seg.go x0 (fun h => by cases h) ?_
    (try simp only [Act.put, List.setIfInBounds_toArray, List.set_cons_zero, List.set_cons_succ])
    ((with_reducible refine Ord.e_p (v := ?_) ?_ ?_ ?_ ?_); rotate_left; (· exact rfl); (· kernel_rfl); (· intro w2; go_simp; try with_reducible rfl))
    (try simp only [Act.put, List.setIfInBounds_toArray, List.set_cons_zero, List.set_cons_succ])
    ((with_reducible refine Ord.e_p (v := ?_) ?_ ?_ ?_ ?_); rotate_left; (· exact rfl); (· kernel_rfl); (· intro w2; go_simp; try with_reducible rfl))
    (try simp only [Act.put, List.setIfInBounds_toArray, List.set_cons_zero, List.set_cons_succ])
    ((with_reducible refine Ord.e_p (v := ?_) ?_ ?_ ?_ ?_); rotate_left; (· exact rfl); (· kernel_rfl); (· intro w2; go_simp; try with_reducible rfl))
    (try simp only [Act.put, List.setIfInBounds_toArray, List.set_cons_zero, List.set_cons_succ])
    ((with_reducible refine Ord.e_p (v := ?_) ?_ ?_ ?_ ?_); rotate_left; (· exact rfl); (· kernel_rfl); (· intro w2; go_simp; try with_reducible rfl))
    (try simp only [Act.put, List.setIfInBounds_toArray, List.set_cons_zero, List.set_cons_succ])
    ((with_reducible refine Ord.e_p (v := ?_) ?_ ?_ ?_ ?_); rotate_left; (· exact rfl); (· kernel_rfl); (· intro w2; go_simp; try with_reducible rfl))
    (try simp only [Act.put, List.setIfInBounds_toArray, List.set_cons_zero, List.set_cons_succ])
    refine Ord.e_x rfl (by kernel_rfl) ?_
    refine wpList_store_mid rfl _ _ _ rfl (w.heap.size + 2) 1 (rcC kt kv).toArray rfl rfl (en_there y2 rfl _ (by rw [List.size_toArray, rcC_size kt kv HVl.out])) (by rw [List.size_toArray, rcC_size kt kv HVl.out]; kernel_rfl) (all_oneCell_toArray (rcC_one kt kv)) ?_
    obtain ⟨z2, hA2⟩ := en_rec _ kt kv rfl HVl.out w3 _ y2
    have z1 : EnB _ (w.heap.size + 1) zen := hA2.keep y1 (by omega)
    have z0 : RcB _ w.heap.size t V := hA2.keep x0 (by omega)
    have zb := below_awG yb hA2 (fun k hk => by omega) yb.size
    (try simp only [List.toList_toArray])
    generalize (w3.setCells (w.heap.size + 2) 1 (rcC kt kv)) = w4 at *
    clear hA2 y1 y2 yb
    go_wp2_with fail
    refine Ord.Seg.go z0 (fun h => by cases h) ?_
    (try simp only [Act.put, List.setIfInBounds_toArray, List.set_cons_zero, List.set_cons_succ])
    clear x0 z0 w3
    ((with_reducible refine Ord.e_p (v := ?_) ?_ ?_ ?_ ?_); rotate_left; (· exact rfl); (· kernel_rfl); (· intro w2; go_simp; try with_reducible rfl))
    (try simp only [Act.put, List.setIfInBounds_toArray, List.set_cons_zero, List.set_cons_succ])
    ((with_reducible refine Ord.e_p (v := ?_) ?_ ?_ ?_ ?_); rotate_left; (· exact rfl); (· kernel_rfl); (· intro w2; go_simp; try with_reducible rfl))
    (try simp only [Act.put, List.setIfInBounds_toArray, List.set_cons_zero, List.set_cons_succ])
    refine Ord.e_nil ?_
    by_cases hke : ke = 0
    · have hke' : (ke : Int) = 0 := by omega
      have hkn := HKn.out hke
      have E1 : EN = kn + 1 := by rw [HN.out, if_pos hke]
      have E2 : EX = ⟨false, kt, kv⟩ := by rw [HX.out, if_pos hke]
      subst E1; subst E2; subst hke
      go_wp2_with (first | (with_reducible refine stop_loadT 46 ?_) | (with_reducible refine stop_storeT 46 ?_) | (with_reducible refine stop_loadG 46 ?_))
      refine go_ (wpList_load_mid rfl _ _ rfl (w.heap.size + 2) 0 rfl _ _ z2.all Try.underlying46 rfl (by rw [enC_len _ HVl.out]; kernel_rfl) ?_)
      go_wp2_with (first | (with_reducible refine stop_loadT 46 ?_) | (with_reducible refine stop_storeT 46 ?_) | (with_reducible refine stop_loadG 46 ?_))
      refine go_ (wpList_store_row rfl _ _ _ rfl (w.heap.size + 1) (enC ⟨false, kt, kv⟩).toArray rfl rfl _ _ z1 (by rw [List.size_toArray, enC_len _ HVl.out]; kernel_rfl) (by rw [List.size_toArray, List.size_toArray, enC_len (⟨false, kt, kv⟩ : En) HVl.out]; rfl) (all_oneCell_toArray (enC_one _)) ?_)
      obtain ⟨hz, hAz⟩ := en_store ⟨false, kt, kv⟩ HVl.out w4 (w.heap.size + 1) z1
      have hbz := below_awG zb hAz (fun k hk => by omega) zb.size
      generalize (w4.setRow (w.heap.size + 1) (enC ⟨false, kt, kv⟩).toArray) = w5 at *
      go_wp2
      exact bodyPost_ret (results_cell2 (fn := Try.f93) Try.results93 _ _ (w.heap.size + 1) _ _ _ _ rfl hz Try.underlying46 rfl (by rw [List.size_toArray, enC_len _ HVl.out]; kernel_rfl)) rfl ⟨by rw [show ((kn + 1 : Nat) : Int) = (kn : Int) + 1 by omega]; rfl, hbz⟩
    · have hke' : ¬ (ke : Int) = 0 := by omega
      have E1 : EN = 0 := by rw [HN.out, if_neg hke]
      have E2 : EX = zenE := by rw [HX.out, if_neg hke]
      subst E1; subst E2
      go_wp2_with (first | (with_reducible refine stop_loadT 46 ?_) | (with_reducible refine stop_storeT 46 ?_) | (with_reducible refine stop_loadG 46 ?_))
      refine go_ (wpList_store_row rfl _ _ _ rfl (w.heap.size + 1) (enC zen).toArray rfl rfl _ _ z1 (by kernel_rfl) (by kernel_rfl) (by kernel_rfl) ?_)
      obtain ⟨hz, hAz⟩ := en_store zen rfl w4 (w.heap.size + 1) z1
      have hbz := below_awG zb hAz (fun k hk => by omega) zb.size
      generalize (w4.setRow (w.heap.size + 1) (enC zen).toArray) = w5 at *
      go_wp2
      exact bodyPost_ret (results_cell2 (fn := Try.f93) Try.results93 _ _ (w.heap.size + 1) _ _ _ _ rfl hz Try.underlying46 rfl (by kernel_rfl)) rfl ⟨rfl, hbz⟩
  have E1 : entN V bg (cc :: R) = 0 := by rw [HNc.out, if_neg h75, if_neg hd]
  have E2 : entX t V bg (cc :: R) = zenE := by rw [HXc.out, if_neg h75, if_neg hd]
  rw [E1, E2]
  have h75' : ¬ (cc.toNat : Int) = 75 := fun h => h75 (UInt8.toNat_inj.1 (show _ = (75 : UInt8).toNat from by show cc.toNat = 75; omega))
  clear HNc HXc hV h32 h h1 h75 E1 E2 hR
  by_cases h68 : cc = 68
  · obtain rfl : bg = true := by cases bg; exact absurd ⟨h68, rfl⟩ hd; rfl
    subst h68
    replace hk1 : (((w.alloc (.cells (rcC t V).toArray 25)).alloc (.cells #[.bool false, .int .u32 0, .int .i32 0, .int .i32 0, .int .i32 0, .int .i32 0, .int .i32 0, .int .i32 0, .int .i32 0, .int .i32 0, .int .i32 0, .int .i32 0, .int .i32 0, .int .i32 0] 46)).alloc (.cells #[.bool false, .int .u32 0, .int .i32 0, .int .i32 0, .int .i32 0, .int .i32 0, .int .i32 0, .int .i32 0, .int .i32 0, .int .i32 0, .int .i32 0, .int .i32 0, .int .i32 0, .int .i32 0] 46)).cell? ad = some (.int .u8 68) := hk1
    clear hd h75'
    go_enter Try.func93, Try.ntmps93
    go_wp2_with (first | (with_reducible refine stop_loadT 46 ?_) | (with_reducible refine stop_storeT 46 ?_) | (with_reducible refine stop_loadG 46 ?_))
    generalize (((w.alloc (.cells (rcC t V).toArray 25)).alloc (.cells #[.bool false, .int .u32 0, .int .i32 0, .int .i32 0, .int .i32 0, .int .i32 0, .int .i32 0, .int .i32 0, .int .i32 0, .int .i32 0, .int .i32 0, .int .i32 0, .int .i32 0, .int .i32 0] 46)).alloc (.cells #[.bool false, .int .u32 0, .int .i32 0, .int .i32 0, .int .i32 0, .int .i32 0, .int .i32 0, .int .i32 0, .int .i32 0, .int .i32 0, .int .i32 0, .int .i32 0, .int .i32 0, .int .i32 0] 46)) = w4 at *
    replace x1 : EnB w4 (w.heap.size + 1) zen := x1
    refine go_ (wpList_store_row rfl _ _ _ rfl (w.heap.size + 1) (enC zen).toArray rfl rfl _ _ x1 (by kernel_rfl) (by kernel_rfl) (by kernel_rfl) ?_)
    obtain ⟨hz, hAz⟩ := en_store zen rfl w4 (w.heap.size + 1) x1
    have hbz := below_awG xb hAz (fun k hk => by omega) xb.size
    generalize (w4.setRow (w.heap.size + 1) (enC zen).toArray) = w5 at *
    go_wp2
    exact bodyPost_ret (results_cell2 (fn := Try.f93) Try.results93 _ _ (w.heap.size + 1) _ _ _ _ rfl hz Try.underlying46 rfl (by kernel_rfl)) rfl ⟨rfl, hbz⟩
  · have h68' : ¬ (cc.toNat : Int) = 68 := fun h => h68 (UInt8.toNat_inj.1 (show _ = (68 : UInt8).toNat from by show cc.toNat = 68; omega))
    clear hd h68
    go_enter Try.func93, Try.ntmps93
    go_wp2_with (first | (with_reducible refine stop_loadT 46 ?_) | (with_reducible refine stop_storeT 46 ?_) | (with_reducible refine stop_loadG 46 ?_))
    generalize (((w.alloc (.cells (rcC t V).toArray 25)).alloc (.cells #[.bool false, .int .u32 0, .int .i32 0, .int .i32 0, .int .i32 0, .int .i32 0, .int .i32 0, .int .i32 0, .int .i32 0, .int .i32 0, .int .i32 0, .int .i32 0, .int .i32 0, .int .i32 0] 46)).alloc (.cells #[.bool false, .int .u32 0, .int .i32 0, .int .i32 0, .int .i32 0, .int .i32 0, .int .i32 0, .int .i32 0, .int .i32 0, .int .i32 0, .int .i32 0, .int .i32 0, .int .i32 0, .int .i32 0] 46)) = w4 at *
    replace x1 : EnB w4 (w.heap.size + 1) zen := x1
    refine go_ (wpList_store_row rfl _ _ _ rfl (w.heap.size + 1) (enC zen).toArray rfl rfl _ _ x1 (by kernel_rfl) (by kernel_rfl) (by kernel_rfl) ?_)
    obtain ⟨hz, hAz⟩ := en_store zen rfl w4 (w.heap.size + 1) x1
    have hbz := below_awG xb hAz (fun k hk => by omega) xb.size
    generalize (w4.setRow (w.heap.size + 1) (enC zen).toArray) = w5 at *
    go_wp2
    exact bodyPost_ret (results_cell2 (fn := Try.f93) Try.results93 _ _ (w.heap.size + 1) _ _ _ _ rfl hz Try.underlying46 rfl (by kernel_rfl)) rfl ⟨rfl, hbz⟩

theorem nought_any (A : Option Addr) (n c B : Nat) (R : List UInt8) (w : World) (h : Rd w B 1 A n c (bv R)) :
    Calls Try.prog 94 #[.slice A n c] w fun e w' => e = .returned (.bool (nullB R)) ∧ w' = w := by
  have hlb := h.blen
  have Hlb := Lib.hid hlb
  have hle := h.le
  have hmx := h.max
  unfold maxLen at hmx
  clear hlb
  go_enter Try.func94, Try.ntmps94
  go_wp2
  go_loop [7] (fun i => ∃ k : Nat, k ≤ n ∧ i = .int .i64 k ∧ Hid (nullB (R.take k) = true)) (fun i => n - (intOf i).toNat)
  case atStart => exact ⟨0, by omega, rfl, Lib.hid rfl⟩
  case round =>
    obtain ⟨k, hk, rfl, hz⟩ := hrel
    by_cases hlt : k < n
    · obtain ⟨ad, x, rfl, hx, hc⟩ := h.byte hlt
      have ht : R.take (k + 1) = R.take k ++ [x] := take_succ hx
      have hxm := List.mem_of_getElem? hx
      have hkl : (k : Int) < (n : Int) := by omega
      by_cases h0 : x = 0
      · subst h0
        have hz2 : nullB (R.take (k + 1)) = true := by
          rw [ht]; unfold nullB at *; rw [List.all_append, hz.out]; rfl
        have Hz2 := Lib.hid hz2
        replace hc : w.cell? (ad.add k) = some (.int .u8 0) := hc
        clear ht hx hxm hz2
        go_wp2
        go_round
        case rel => exact ⟨k + 1, by omega, by go_num, Hz2⟩
        case measure => simp [intOf]; omega
      · have hx0 : ¬ (x.toNat : Int) = 0 := fun h => h0 (UInt8.toNat_inj.1 (show _ = (0 : UInt8).toNat from by show x.toNat = 0; omega))
        have hf : nullB R = false := by
          unfold nullB
          rw [List.all_eq_false]
          exact ⟨x, hxm, by simpa using h0⟩
        have Hf := Lib.hid hf
        clear ht hx hxm h0 hf
        go_wp2
        go_ret
        exact ⟨by rw [Hf.out]; rfl, rfl⟩
    · obtain rfl : k = n := by omega
      have hz1 := hz.out
      rw [List.take_of_length_le (by rw [Hlb.out]; exact Nat.le_refl _)] at hz1
      have Hf := Lib.hid hz1
      clear hz1
      go_wp2
      go_ret
      exact ⟨by rw [Hf.out]; rfl, rfl⟩

end Go.Proofs.Ytplgcfjcdjlnbaa

/-
  Entries built: a slice of one, an entry of its parts; entries compared.
-/
set_option linter.unusedSimpArgs false
set_option linter.unusedVariables false
namespace Go.Proofs.Ytplgcfjcdjlnbaa
open Go.RowKit NumLaw

theorem stop_build0 (t : TypeId) {P : Program} {w : World} {ops : Array Oper} {rest : List Oper} {a : Act} {Q : Exit → Act → World → Prop} {d : Option Tmp} {ty : TypeId} {pos : String} {af : Array Edge}
    (h : Stop (wpList P ops Q (⟨d, .build t #[], ty, pos, af, none⟩ :: rest) a w)) : wpList P ops Q (⟨d, .build t #[], ty, pos, af, none⟩ :: rest) a w := h
theorem fold_set (off : Nat) : ∀ (cs pre olds post : List Value) (k : Nat), olds.length = cs.length → pre.length = off + k →
    (cs.zipIdx k).foldl (fun a (p : Value × Nat) => a.setIfInBounds (off + p.2) p.1) (pre ++ olds ++ post).toArray = (pre ++ cs ++ post).toArray
  | [], pre, olds, post, k, h, _ => by
    obtain rfl : olds = [] := List.eq_nil_of_length_eq_zero (by simpa using h)
    rfl
  | c :: cs, pre, [], post, k, h, _ => by simp at h
  | c :: cs, pre, o :: olds, post, k, h, hp => by
    have ih := fold_set off cs (pre ++ [c]) olds post (k + 1) (by simpa using h) (by simp; omega)
    rw [List.zipIdx_cons, List.foldl_cons]
    have e : ((pre ++ o :: olds ++ post).toArray).setIfInBounds (off + k) c = ((pre ++ [c]) ++ olds ++ post).toArray := by
      rw [← hp]; simp
    rw [e, ih]
    simp
theorem fill_one {place : Nat → Option (Nat × Nat)} {i off size : Nat} (hp : place i = some (off, size)) {cs pre olds post : List Value} {v : Value} (hv : v.cells = cs.toArray) (hc : cs.length = size) (ho : olds.length = size) (hpre : pre.length = off) (rest : List (Nat × Value)) :
    Instr.fill place (pre ++ olds ++ post).toArray ((i, v) :: rest) = Instr.fill place (pre ++ cs ++ post).toArray rest := by
  have h := fold_set off cs pre olds post 0 (by omega) (by omega)
  conv => lhs; rw [Instr.fill]
  rw [hp]
  simp only [hv, List.size_toArray]
  rw [if_neg (by simp; omega)]
  rw [show cs.toArray.zipIdx = (cs.zipIdx 0).toArray by simp]
  rw [List.foldl_toArray', ]
  · rw [h]
  all_goals simp
theorem run_buildSlice1 {P : Program} {t e : TypeId} {i : TypeInfo} {z : Value} {size : Nat} (ht : P.underlying t = some (.slice e)) (hi : P.info? e = some i) (hz : i.zero = some z) (hs : i.size = size) (hzs : z.cells.size = size) (h0 : 0 < size) (hm : size ≤ 16777216) (cs : List Value) (hc : cs.length = size) (w : World) :
    (Instr.buildSlice t 1 #[(0, .agg cs.toArray)]).run P w = .ok (.slice (some ⟨w.heap.size, 0, none⟩) 1 1) (w.alloc (.cells cs.toArray e)) := by
  subst hs
  have hl : ∀ X : Array Value, X = ([] ++ X.toList ++ []).toArray := fun X => by simp
  have hf : Instr.fill (fun j => some (j * i.size, i.size)) ((Array.range i.size).map (fun x => z.cells[x % z.cells.size]!)) [(0, .agg cs.toArray)] = some cs.toArray := by
    rw [hl (Array.map _ _), fill_one (off := 0) (size := i.size) (cs := cs) (by simp) rfl hc (by simp) rfl]
    simp [Instr.fill]
  have h24 : ¬ (16777216 < i.size) := by omega
  have hne : ¬ (i.size = 0) := by omega
  unfold Instr.buildSlice
  simp only [Sem.run_bind, run_underlying ht, Result.andThen_ok, sizeOf, typeInfo, hi, Sem.run_pure, zeroValue, hz]
  simp [hi, hz, hne, h24]
  rw [hf]
  simp [newRow]
theorem stop_bs {P : Program} {w : World} {ops : Array Oper} {rest : List Oper} {a : Act} {Q : Exit → Act → World → Prop} {d : Option Tmp} {t ty : TypeId} {k : Nat} {ps : Array (Nat × Operand)} {pos : String} {af : Array Edge}
    (h : Stop (wpList P ops Q (⟨d, .buildSlice t k ps, ty, pos, af, none⟩ :: rest) a w)) : wpList P ops Q (⟨d, .buildSlice t k ps, ty, pos, af, none⟩ :: rest) a w := h
theorem wpList_bs1 {P : Program} {w : World} {ops : Array Oper} {rest : List Oper} {a : Act} {Q : Exit → Act → World → Prop} {d : Option Tmp} {x : Operand} {t ty e : TypeId} {pos : String} {af : Array Edge}
    {i : TypeInfo} {z : Value} {size bytes : Nat} (ht : P.underlying t = some (.slice e)) (hi : P.info? e = some i ∧ i.zero = some z ∧ i.size = size ∧ i.bytes = bytes) (hzs : z.cells.size = size) (h0 : 0 < size) (hm : size ≤ 16777216) {cs : List Value} (hc : cs.length = size) (hx : a.eval x = .agg cs.toArray)
    (h : wpList P ops Q rest (a.put d (.slice (some ⟨w.heap.size, 0, none⟩) 1 1)) (w.alloc (.cells cs.toArray e))) :
    wpList P ops Q (⟨d, .buildSlice t 1 #[(0, x)], ty, pos, af, none⟩ :: rest) a w := by
  refine wpList_plain rfl fun _ hK => ?_
  have hrun := run_buildSlice1 (P := P) ht hi.1 hi.2.1 hi.2.2.1 hzs h0 hm cs hc w
  unfold Oper.wp execOp
  simp only [List.map_toArray, List.map_cons, List.map_nil, hx, Sem.run_bind, hrun, Result.andThen_ok, Sem.run_pure]
  exact hK _ _ h
theorem en_info : (Try.prog.info? 46).map (fun i => (i.zero, i.size, i.bytes)) = some (some (.agg (enC zen).toArray), 14, 56) := by kernel_rfl
theorem rec_infoZ : (Try.prog.info? 25).map (fun i => i.size) = some 13 := by kernel_rfl
theorem bool_infoZ : (Try.prog.info? 4).map (fun i => i.size) = some 1 := by kernel_rfl
theorem rec_eqN (d : Nat) (t t' : Nat) (V V' : List Int) (hx : V.length = 12) (hy : V'.length = 12) (w : World) : (Op.equalIn (d + 3) 25 (.agg (rcC t V).toArray) (.agg (rcC t' V').toArray)).run Try.prog w = .ok (decide (t = t' ∧ V = V')) w := by
  obtain ⟨i, hi⟩ := info_parts i32_info
  have p1 : ∀ (t : Nat) (V : List Int), (part 22 (rcC t V).toArray 0).run Try.prog w = .ok (.int .u32 (t : Int)) w := by
    intro t V
    simp [part, isAgg, run_underlying Try.underlying22, rcC]
  have p2 : ∀ (t : Nat) (V : List Int), V.length = 12 → (part 23 (rcC t V).toArray 1).run Try.prog w = .ok (.agg (V.map (Value.int .i32)).toArray) w := by
    intro t V hV
    obtain ⟨j, hj⟩ := info_parts v12_info
    simp [part, isAgg, run_underlying Try.underlying23, rcC, sizeOf, typeInfo, hj.1, hj.2.2.1]
    exact List.take_of_length_le (by simp [hV])
  have q1 : (Op.equalIn (d + 2) 22 (.int .u32 (t : Int)) (.int .u32 (t' : Int))).run Try.prog w = .ok ((t : Int) == (t' : Int)) w := run_equalIn_int w (d + 1) _ .u32 .u32 _ _ Try.underlying22
  have q2 : (Op.equalIn (d + 2) 23 (.agg (V.map (Value.int .i32)).toArray) (.agg (V'.map (Value.int .i32)).toArray)).run Try.prog w = .ok (decide (V = V')) w := run_eqI_ints Try.underlying23 hi.1 (by kernel_rfl) Try.underlying21 d V V' hx hy w
  rw [run_equalIn_agg w (d + 2) _ _ _ (by simp only [Program.fieldsOf, Try.underlying25]) rec_held]
  simp only [Program.fieldsOf, Try.underlying25, Op.eqFields]
  rw [if_pos (by decide)]
  simp only [Sem.run_bind, p1, q1, Result.andThen_ok]
  by_cases h1 : t = t'
  · subst h1
    simp only [beq_self_eq_true, Bool.not_true, Bool.false_eq_true, if_false]
    rw [if_pos (by decide)]
    simp only [Sem.run_bind, p2 _ _ hx, p2 _ _ hy, q2, Result.andThen_ok]
    by_cases h2 : V = V' <;> simp [h2]
  · have e : ((t : Int) == (t' : Int)) = false := by simp; omega
    simp [e, h1]
theorem en_held : Try.prog.stoodInHeld 46 = false := by kernel_rfl
theorem en_eqI (x y : En) (hx : x.V.length = 12) (hy : y.V.length = 12) (w : World) : (Op.equalIn 10000 46 (.agg (enC x).toArray) (.agg (enC y).toArray)).run Try.prog w = .ok (decide (x = y)) w := by
  have p1 : ∀ (x : En), (part 4 (enC x).toArray 0).run Try.prog w = .ok (.bool x.key) w := by
    intro x
    simp [part, isAgg, run_underlying Try.underlying4, enC]
  have p2 : ∀ (x : En), x.V.length = 12 → (part 25 (enC x).toArray 1).run Try.prog w = .ok (.agg (rcC x.t x.V).toArray) w := by
    intro x hV
    obtain ⟨j, hj⟩ : ∃ j, Try.prog.info? 25 = some j ∧ j.size = 13 := by
      have := rec_infoZ
      cases h0 : Try.prog.info? 25 with
      | none => rw [h0] at this; cases this
      | some j => rw [h0] at this; exact ⟨j, rfl, by simpa using this⟩
    simp [part, isAgg, run_underlying Try.underlying25, enC, sizeOf, typeInfo, hj.1, hj.2]
    exact List.take_of_length_le (by rw [rcC_size _ _ hV]; exact Nat.le_refl _)
  have q1 : (Op.equalIn 9999 4 (.bool x.key) (.bool y.key)).run Try.prog w = .ok (x.key == y.key) w := run_equalIn_bool' w 9998 _ _ _ Try.underlying4
  have q2 : (Op.equalIn 9999 25 (.agg (rcC x.t x.V).toArray) (.agg (rcC y.t y.V).toArray)).run Try.prog w = .ok (decide (x.t = y.t ∧ x.V = y.V)) w := rec_eqN 9996 x.t y.t x.V y.V hx hy w
  rw [run_equalIn_agg w 9999 _ _ _ (by simp only [Program.fieldsOf, Try.underlying46]) en_held]
  simp only [Program.fieldsOf, Try.underlying46, Op.eqFields]
  rw [if_pos (by decide)]
  simp only [Sem.run_bind, p1, q1, Result.andThen_ok]
  obtain ⟨k, t, V⟩ := x
  obtain ⟨k', t', V'⟩ := y
  by_cases h1 : k = k'
  · subst h1
    simp only [beq_self_eq_true, Bool.not_true, Bool.false_eq_true, if_false]
    rw [if_pos (by decide)]
    simp only [Sem.run_bind, p2 _ hx, p2 _ hy, q2, Result.andThen_ok]
    by_cases h2 : t = t' ∧ V = V' <;> simp [h2]
  · simp [h1]
theorem en_neq (x y : En) (hx : x.V.length = 12) (hy : y.V.length = 12) (w : World) : (binOp .neq 46 (.agg (enC x).toArray) (.agg (enC y).toArray)).run Try.prog w = .ok (.bool (!decide (x = y))) w := by
  rw [run_neq_struct, en_eqI x y hx hy]
  rfl
theorem run_buildEn (k : Bool) (t : Nat) (V : List Int) (hV : V.length = 12) (w : World) : (Instr.build 46 #[(0, .bool k), (1, .agg (rcC t V).toArray)]).run Try.prog w = .ok (.agg (enC ⟨k, t, V⟩).toArray) w := by
  obtain ⟨i, hi⟩ := info_parts en_info
  have sz : ∀ {ty : TypeId} {m : Nat}, (Try.prog.info? ty).map (fun i => i.size) = some m → (sizeOf ty).run Try.prog w = .ok m w := by
    intro ty m h
    cases h0 : Try.prog.info? ty with
    | none => rw [h0] at h; cases h
    | some j =>
      rw [h0] at h
      have h : j.size = m := by simpa using h
      simp [sizeOf, typeInfo, h0, h]
  have s1 := sz bool_infoZ
  have s2 := sz rec_infoZ
  have hf : ∀ place : Nat → Option (Nat × Nat), place 0 = some (0, 1) → place 1 = some (1, 13) → Instr.fill place (enC zen).toArray [(0, .bool k), (1, .agg (rcC t V).toArray)] = some (enC ⟨k, t, V⟩).toArray := by
    intro place h0 h1
    have e1 : (enC zen).toArray = ([] ++ [Value.bool false] ++ rcC 0 z12).toArray := rfl
    rw [e1, fill_one h0 (cs := [Value.bool k]) rfl rfl rfl rfl]
    have e2 : ([] ++ [Value.bool k] ++ rcC 0 z12).toArray = ([Value.bool k] ++ rcC 0 z12 ++ []).toArray := by simp
    rw [e2, fill_one h1 (cs := rcC t V) rfl (rcC_size t V hV) (by rfl) rfl]
    simp [Instr.fill, enC]
  unfold Instr.build
  simp only [Sem.run_bind, zeroValue, typeInfo, hi.1, hi.2.1, Sem.run_pure, Result.andThen_ok, run_underlying Try.underlying46]
  simp [s1, s2, hf, Value.cells, hi.1, hi.2.1]

end Go.Proofs.Ytplgcfjcdjlnbaa
