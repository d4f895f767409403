/-
  The document's TakeDelta of a record, walked (printed by gen_rec10.py).
-/
import Derived.Test.YtplgcfjcdjlnbaaKGE
set_option linter.unusedSimpArgs false
set_option linter.unusedVariables false
namespace Go.Proofs.Ytplgcfjcdjlnbaa
open Go.RowKit NumLaw
attribute [local go_sem] Addr.add_mid

theorem byF_5 {q : Nat × Nat × Nat} {x : Int} (h : q.2.2 = 0) (h2 : zagV q.1 = 0 ∨ x + zagV q.1 < -2147483648 ∨ 2147483647 < x + zagV q.1) : byF q x = 5 := by unfold byF; rw [if_pos h, if_pos h2]
theorem byF_0 {q : Nat × Nat × Nat} {x : Int} (h : q.2.2 = 0) (h2 : ¬ (zagV q.1 = 0 ∨ x + zagV q.1 < -2147483648 ∨ 2147483647 < x + zagV q.1)) : byF q x = 0 := by unfold byF; rw [if_pos h, if_neg h2]
theorem byF_e {q : Nat × Nat × Nat} {x : Int} (h : q.2.2 ≠ 0) : byF q x = q.2.2 := by unfold byF; rw [if_neg h]
theorem varT_le (b : List UInt8) : (varT b).2.1 ≤ b.length := by
  by_cases hz : (varT b).2.2 = 0
  · exact (varT_back hz).2.1
  · have := (varTL_none b 0 hz).2
    unfold varT
    omega

set_option maxRecDepth 10000 in
set_option maxHeartbeats 8000000 in
theorem qTakeDelta_any (t : Nat) (V : List Int) (A : Option Addr) (n c B : Nat) (b : List UInt8) (w : World) (ht : t < 4294967296) (hV : V.length = 12) (h32 : ∀ x ∈ V, in32 x) (h : Rd w B 1 A n c (bv b)) (hB : B ≤ w.heap.size) (hn : n ≤ 1000000) :
    Calls Try.prog 29 #[.agg (rcC t V).toArray, .slice A n c] w (RetRec (recTt t V b) (recTV V b) (recTn V b) (recTE V b) w) := by
  have hlb := h.blen
  have Hlb := Lib.hid hlb
  have HV := Lib.hid hV
  have H32 := Lib.hid h32
  have hle := h.le
  have hmx := h.max
  unfold maxLen at hmx
  obtain ⟨i0, hi⟩ := info_parts u8_info
  have hcut : ∀ k : Nat, k ≤ n → ∀ w, (Instr.slice 26 (.slice A n c) (some (.int .i64 (k : Int))) none none).run Try.prog w = .ok (.slice (cutA A c k 1) (n - k) (c - k)) w := fun k hk w => run_cut_l (P := Try.prog) Try.underlying26 hi.1 hi.2.2.1 A n c k hk w
  have Hcut := Lib.hid hcut
  obtain ⟨x0, x1, xs, xb⟩ := al2 w (.cells (rcC t V).toArray 25) (.cells #[.int .u32 0, .int .i32 0, .int .i32 0, .int .i32 0, .int .i32 0, .int .i32 0, .int .i32 0, .int .i32 0, .int .i32 0, .int .i32 0, .int .i32 0, .int .i32 0, .int .i32 0] 25)
  have G1 := Lib.hid (fun h1 => recTE_1 (V := V) (b := b) h1)
  have G2 := Lib.hid (fun h1 h2 => recTE_2 (V := V) (b := b) h1 h2)
  have G3 := Lib.hid (fun h1 h2 h3 => recTE_3 (V := V) (b := b) h1 h2 h3)
  have G4 := Lib.hid (fun h1 h2 h3 h4 => recTE_4 (V := V) (b := b) h1 h2 h3 h4)
  have G5 := Lib.hid (fun h1 h2 h3 h4 => tk_start (t := t) (V := V) (b := b) h1 h2 h3 h4)
  have GT := Lib.hid (fun (pre : List Int) (kk : Nat) (h : TkG t V b 12 pre kk) => tk_done h hV)
  have htk := fun (w1 : World) (hr : Rd w1 B 1 A n c (bv b)) => qTake03_any A n c B b w1 hr
  unfold RetTk at htk
  have hul := varT_lt b
  have hk1 := varT_le b
  have hkk0 : tkK b = (varT b).2.1 + (varT (b.drop (varT b).2.1)).2.1 := rfl
  have hmm : tkM b = (varT (b.drop (varT b).2.1)).1 := rfl
  rw [hlb] at hk1
  obtain ⟨k1, hk1e⟩ : ∃ k1, k1 = (varT b).2.1 := ⟨_, rfl⟩
  have htk2 := fun (w1 : World) (hr : Rd w1 B 1 (cutA A c k1 1) (n - k1) (c - k1) (bv (b.drop k1))) => qTake03_any (cutA A c k1 1) (n - k1) (c - k1) B (b.drop k1) w1 hr
  unfold RetTk at htk2
  have hml := varT_lt (b.drop k1)
  have hk2 := varT_le (b.drop k1)
  rw [List.length_drop, hlb] at hk2
  rw [← hk1e] at htk hk1 G3 G4 G5 hkk0 hmm
  clear hk1e
  obtain ⟨u, hu⟩ : ∃ u, u = (varT b).1 := ⟨_, rfl⟩
  obtain ⟨er, her⟩ : ∃ er, er = (varT b).2.2 := ⟨_, rfl⟩
  obtain ⟨k2, hk2e⟩ : ∃ k2, k2 = (varT (b.drop k1)).2.1 := ⟨_, rfl⟩
  obtain ⟨er2, her2⟩ : ∃ er2, er2 = (varT (b.drop k1)).2.2 := ⟨_, rfl⟩
  obtain ⟨m, hm⟩ : ∃ m, m = tkM b := ⟨_, rfl⟩
  obtain ⟨kk0, hkk⟩ : ∃ kk0, kk0 = tkK b := ⟨_, rfl⟩
  rw [← hm] at G4 G5 hmm
  rw [← hmm] at htk2 hml
  rw [← hkk] at G5 hkk0
  rw [← hk2e] at htk2 hk2 hkk0
  rw [← her2] at htk2 G3 G4 G5
  rw [← hu] at htk hul G2 G3 G4 G5 GT
  rw [← her] at htk G1 G2 G3 G4 G5
  have Htk := Lib.hid htk
  have Htk2 := Lib.hid htk2
  have Hm := Lib.hid hm
  clear hlb hV h32 hi hcut htk htk2 hkk hm hu her hk2e her2 hmm
  go_enter Try.func29, Try.ntmps29
  go_wp2_with fail
  generalize ((w.alloc (.cells (rcC t V).toArray 25)).alloc (.cells #[.int .u32 0, .int .i32 0, .int .i32 0, .int .i32 0, .int .i32 0, .int .i32 0, .int .i32 0, .int .i32 0, .int .i32 0, .int .i32 0, .int .i32 0, .int .i32 0, .int .i32 0] 25)) = w1 at *
  replace x0 : RcB w1 w.heap.size t V := x0
  replace x1 : RcB w1 (w.heap.size + 1) 0 z12 := x1
  go_fit (Htk.out w1 (h.up (xb.mono hB)))
  rintro e w2 ⟨rfl, rfl⟩
  by_cases he1 : er = 0
  case neg =>
    have he' : ¬ (er : Int) = 0 := by omega
    have hR4 := x1
    have hb := xb
    have hte : recTE V b = er := G1.out he1
    have hne : recTE V b ≠ 0 := by rw [hte]; first | assumption | omega
    obtain ⟨d2, d3, d4⟩ := recT_bad (t := t) hne
    have HD := Lib.hid (show recTE V b = er ∧ recTt t V b = 0 ∧ recTV V b = z12 ∧ recTn V b = 0 from ⟨hte, d2, d3, d4⟩)
    clear hte hne d2 d3 d4
    clear x0 x1 xb G1 G2 G3 G4 G5 GT Htk Htk2 Hcut
    go_wp2_with (first | (with_reducible refine stop_loadT 25 ?_) | (with_reducible refine stop_storeT 25 ?_))
    refine go_ (wpList_store_row rfl _ _ _ rfl (w.heap.size + 1) (rcC 0 z12).toArray rfl rfl _ _ hR4 (by kernel_rfl) (by kernel_rfl) (by kernel_rfl) ?_)
    obtain ⟨hz, hAz⟩ := rc_store 0 z12 rfl w1 (w.heap.size + 1) hR4
    have hbz := below_awG hb hAz (fun k hk => by omega) hb.size
    generalize (w1.setRow (w.heap.size + 1) (rcC 0 z12).toArray) = wZ at *
    clear hR4 hb hAz
    go_wp2
    exact bodyPost_ret (results_cell3 (fn := Try.f29) Try.results29 _ _ (w.heap.size + 1) _ _ _ _ rfl hz Try.underlying25 rfl (by kernel_rfl)) rfl ⟨by rw [HD.out.1, HD.out.2.1, HD.out.2.2.1, HD.out.2.2.2]; rfl, hbz⟩
  subst he1
  by_cases hu1 : 4294967295 < u
  · have hu1' : (4294967295 : Int) < (u : Int) := by omega
    have hR4 := x1
    have hb := xb
    have hte : recTE V b = 5 := G2.out (by simp) hu1
    have hne : recTE V b ≠ 0 := by rw [hte]; first | assumption | omega
    obtain ⟨d2, d3, d4⟩ := recT_bad (t := t) hne
    have HD := Lib.hid (show recTE V b = 5 ∧ recTt t V b = 0 ∧ recTV V b = z12 ∧ recTn V b = 0 from ⟨hte, d2, d3, d4⟩)
    clear hte hne d2 d3 d4
    clear x0 x1 xb G1 G2 G3 G4 G5 GT Htk Htk2 Hcut
    go_wp2_with (first | (with_reducible refine stop_loadT 25 ?_) | (with_reducible refine stop_storeT 25 ?_))
    refine go_ (wpList_store_row rfl _ _ _ rfl (w.heap.size + 1) (rcC 0 z12).toArray rfl rfl _ _ hR4 (by kernel_rfl) (by kernel_rfl) (by kernel_rfl) ?_)
    obtain ⟨hz, hAz⟩ := rc_store 0 z12 rfl w1 (w.heap.size + 1) hR4
    have hbz := below_awG hb hAz (fun k hk => by omega) hb.size
    generalize (w1.setRow (w.heap.size + 1) (rcC 0 z12).toArray) = wZ at *
    clear hR4 hb hAz
    go_wp2
    exact bodyPost_ret (results_cell3 (fn := Try.f29) Try.results29 _ _ (w.heap.size + 1) _ _ _ _ rfl hz Try.underlying25 rfl (by kernel_rfl)) rfl ⟨by rw [HD.out.1, HD.out.2.1, HD.out.2.2.1, HD.out.2.2.2]; rfl, hbz⟩
  have hu1' : ¬ (4294967295 : Int) < (u : Int) := by omega
  obtain ⟨T, hT⟩ : ∃ T, T = (t + u) % 4294967296 := ⟨_, rfl⟩
  rw [← hT] at GT
  obtain ⟨su, hsu⟩ : ∃ su, su = t + u := ⟨_, rfl⟩
  have q1 : IntKind.u64.wrap (t : Int) = (t : Int) := IntWalk.u64_in _ (by omega)
  have q2a : (t : Int) + (u : Int) = (su : Int) := by omega
  have q2 : IntKind.u64.wrap (su : Int) = (su : Int) := IntWalk.u64_in _ (by omega)
  have q3 : (su : Int) % 4294967296 = (T : Int) := by omega
  have q4 : IntKind.u32.wrap (T : Int) = (T : Int) := by rw [IntKind.wrap_u32]; omega
  have Hu1 := Lib.hid hu1
  clear hsu hT hu1
  go_wp2_with (first | (with_reducible refine stop_loadT 25 ?_) | (with_reducible refine stop_storeT 25 ?_) | (with_reducible refine stop_loadG 25 ?_))
  refine go_ (wpList_load_mid rfl _ _ rfl w.heap.size 0 rfl _ _ x0.all Try.underlying25 rfl (by rw [rcC_size t V HV.out]; kernel_rfl) ?_)
  go_wp2_with (first | (with_reducible refine stop_loadT 25 ?_) | (with_reducible refine stop_storeT 25 ?_) | (with_reducible refine stop_loadG 25 ?_))
  (try rw [xs])
  have hbx : Below w1.heap.size w1 (w1.alloc (.cells #[.int .u32 0, .int .i32 0, .int .i32 0, .int .i32 0, .int .i32 0, .int .i32 0, .int .i32 0, .int .i32 0, .int .i32 0, .int .i32 0, .int .i32 0, .int .i32 0, .int .i32 0] 25)) := (Below.refl _ _).alloc (Nat.le_refl _) _
  have hbox := heap_alloc_new w1 (.cells #[.int .u32 0, .int .i32 0, .int .i32 0, .int .i32 0, .int .i32 0, .int .i32 0, .int .i32 0, .int .i32 0, .int .i32 0, .int .i32 0, .int .i32 0, .int .i32 0, .int .i32 0] 25)
  rw [xs] at hbox
  have y0 : RcB _ w.heap.size t V := blk_old x0 hbx (blk_lt x0)
  have y1 : RcB _ (w.heap.size + 1) 0 z12 := blk_old x1 hbx (blk_lt x1)
  have yb := xb.trans (hbx.mono (by omega))
  generalize (w1.alloc (.cells #[.int .u32 0, .int .i32 0, .int .i32 0, .int .i32 0, .int .i32 0, .int .i32 0, .int .i32 0, .int .i32 0, .int .i32 0, .int .i32 0, .int .i32 0, .int .i32 0, .int .i32 0] 25)) = w2 at *
  clear x0 x1 xb hbx xs w1
  replace hbox : RcB w2 (w.heap.size + 2) 0 z12 := hbox
  refine go_ (wpList_store_row rfl _ _ _ rfl (w.heap.size + 2) (rcC t V).toArray rfl rfl _ _ hbox (by rw [List.size_toArray, rcC_size t V HV.out]; kernel_rfl) (by rw [List.size_toArray, List.size_toArray, rcC_size t V HV.out]; rfl) (all_oneCell_toArray (rcC_one t V)) ?_)
  obtain ⟨hR8, hAz⟩ := rc_store t V HV.out w2 (w.heap.size + 2) hbox
  have hR2 : RcB _ w.heap.size t V := hAz.keep y0 (by omega)
  have hR4 : RcB _ (w.heap.size + 1) 0 z12 := hAz.keep y1 (by omega)
  have hb3 := below_awG yb hAz (fun k hk => by omega) yb.size
  generalize (w2.setRow (w.heap.size + 2) (rcC t V).toArray) = w3 at *
  clear y0 y1 yb hAz hbox w2
  have c0 := hR2.time
  have s1 := hR8.time
  have s2 : w3.frozen? ⟨w.heap.size + 2, 0, none⟩ = false := blk_free (i := 0) hR8
  have hA : Aw (fun j => j = w.heap.size + 2) w3 (w3.setCell ⟨w.heap.size + 2, 0, none⟩ (.int .u32 (T : Int))) := (Aw.refl _ _).set _ rfl
  have hR8' := blk_set (i := 0) hR8 (.int .u32 (T : Int))
  rw [rcC_set0] at hR8'
  have hR2' : RcB (w3.setCell ⟨w.heap.size + 2, 0, none⟩ (.int .u32 (T : Int))) w.heap.size t V := hA.keep hR2 (by omega)
  have hR4' : RcB (w3.setCell ⟨w.heap.size + 2, 0, none⟩ (.int .u32 (T : Int))) (w.heap.size + 1) 0 z12 := hA.keep hR4 (by omega)
  have hb := below_awG hb3 hA (fun k hk => by omega) hb3.size
  have hc1 := Hcut.out k1 hk1
  clear hR2 hR4 hR8 hb3 hA
  go_wp2_with fail
  generalize (w3.setCell ⟨w.heap.size + 2, 0, none⟩ (.int .u32 (T : Int))) = w4 at *
  clear s1 s2 c0 w3
  go_fit (Htk2.out w4 ((h.up (hb.mono hB)).bdrop hk1))
  rintro e w5 ⟨rfl, rfl⟩
  clear hc1 q1 q2a q2 q3 q4
  have hR4 := hR4'
  clear hR4'
  by_cases he2 : er2 = 0
  case neg =>
    have he' : ¬ (er2 : Int) = 0 := by omega
    have hte : recTE V b = er2 := G3.out (by simp) Hu1.out he2
    have hne : recTE V b ≠ 0 := by rw [hte]; first | assumption | omega
    obtain ⟨d2, d3, d4⟩ := recT_bad (t := t) hne
    have HD := Lib.hid (show recTE V b = er2 ∧ recTt t V b = 0 ∧ recTV V b = z12 ∧ recTn V b = 0 from ⟨hte, d2, d3, d4⟩)
    clear hte hne d2 d3 d4
    clear hR8' hR2' G1 G2 G3 G4 G5 GT Htk Htk2 Hcut
    go_wp2_with (first | (with_reducible refine stop_loadT 25 ?_) | (with_reducible refine stop_storeT 25 ?_))
    refine go_ (wpList_store_row rfl _ _ _ rfl (w.heap.size + 1) (rcC 0 z12).toArray rfl rfl _ _ hR4 (by kernel_rfl) (by kernel_rfl) (by kernel_rfl) ?_)
    obtain ⟨hz, hAz⟩ := rc_store 0 z12 rfl w4 (w.heap.size + 1) hR4
    have hbz := below_awG hb hAz (fun k hk => by omega) hb.size
    generalize (w4.setRow (w.heap.size + 1) (rcC 0 z12).toArray) = wZ at *
    clear hR4 hb hAz
    go_wp2
    exact bodyPost_ret (results_cell3 (fn := Try.f29) Try.results29 _ _ (w.heap.size + 1) _ _ _ _ rfl hz Try.underlying25 rfl (by kernel_rfl)) rfl ⟨by rw [HD.out.1, HD.out.2.1, HD.out.2.2.1, HD.out.2.2.2]; rfl, hbz⟩
  subst he2
  by_cases hm1 : 4095 < m
  · have hm1' : (4095 : Int) < (m : Int) := by omega
    have hte : recTE V b = 5 := G4.out (by simp) Hu1.out (by simp) hm1
    have hne : recTE V b ≠ 0 := by rw [hte]; first | assumption | omega
    obtain ⟨d2, d3, d4⟩ := recT_bad (t := t) hne
    have HD := Lib.hid (show recTE V b = 5 ∧ recTt t V b = 0 ∧ recTV V b = z12 ∧ recTn V b = 0 from ⟨hte, d2, d3, d4⟩)
    clear hte hne d2 d3 d4
    clear hR8' hR2' G1 G2 G3 G4 G5 GT Htk Htk2 Hcut
    go_wp2_with (first | (with_reducible refine stop_loadT 25 ?_) | (with_reducible refine stop_storeT 25 ?_))
    refine go_ (wpList_store_row rfl _ _ _ rfl (w.heap.size + 1) (rcC 0 z12).toArray rfl rfl _ _ hR4 (by kernel_rfl) (by kernel_rfl) (by kernel_rfl) ?_)
    obtain ⟨hz, hAz⟩ := rc_store 0 z12 rfl w4 (w.heap.size + 1) hR4
    have hbz := below_awG hb hAz (fun k hk => by omega) hb.size
    generalize (w4.setRow (w.heap.size + 1) (rcC 0 z12).toArray) = wZ at *
    clear hR4 hb hAz
    go_wp2
    exact bodyPost_ret (results_cell3 (fn := Try.f29) Try.results29 _ _ (w.heap.size + 1) _ _ _ _ rfl hz Try.underlying25 rfl (by kernel_rfl)) rfl ⟨by rw [HD.out.1, HD.out.2.1, HD.out.2.2.1, HD.out.2.2.2]; rfl, hbz⟩
  have hm1' : ¬ (4095 : Int) < (m : Int) := by omega
  have hT0 := Lib.hid (G5.out (by simp) Hu1.out (by simp) hm1)
  have q1 : (k1 : Int) + (k2 : Int) = (kk0 : Int) := by omega
  have q2 : IntKind.i64.wrap (kk0 : Int) = (kk0 : Int) := by rw [IntKind.wrap_i64]; omega
  have Hkk0 := Lib.hid hkk0
  clear G1 G2 G3 G4 G5 Htk Htk2 hkk0
  go_wp2_with fail
  clear q1 q2
  go_loopw [8, 11, 14] (fun p q i wr => ∃ (k kk mm : Nat) (V' pre : List Int), k ≤ 12 ∧ i = .int .i64 k ∧ p = .int .i64 kk ∧ q = .int .u64 mm ∧ RcB wr w.heap.size t V ∧ RcB wr (w.heap.size + 1) 0 z12 ∧ RcB wr (w.heap.size + 2) T V' ∧ V'.length = 12 ∧ kk ≤ n ∧ mm ≤ 4095 ∧ Below w.heap.size w wr ∧ Hid (mm = m / 2 ^ k ∧ V' = pre ++ V.drop k ∧ TkG t V b k pre kk)) (fun _ _ i _ => 12 - (intOf i).toNat)
  case atStart =>
    have hT1 := hT0.out
    have hlk := hT1.1
    rw [Hlb.out] at hlk
    exact ⟨0, kk0, m, V, [], by omega, rfl, rfl, rfl, hR2', hR4, hR8', HV.out, hlk, by omega, hb, Lib.hid ⟨by simp, rfl, hT1⟩⟩
  case round =>
    clear hR8' hR2' hR4 hb w4
    obtain ⟨k, kk, mm, V', pre, hk, rfl, rfl, rfl, hR2, hR4, hR8, hV', hkn, hmm, hb, hG⟩ := hrel
    by_cases hlt : k < 12
    · obtain ⟨x, hx⟩ : ∃ x, V[k]? = some x := ⟨V[k]'(by rw [HV.out]; exact hlt), List.getElem?_eq_getElem _⟩
      have hxi := H32.out x (List.mem_of_getElem? hx)
      have q0 := hR2.at_ hx
      have hVd : V.drop k = x :: V.drop (k + 1) := by
        rw [List.drop_eq_getElem_cons (by rw [HV.out]; exact hlt), (List.getElem?_eq_some_iff.1 hx).2]
      obtain ⟨m2, hm2⟩ : ∃ m2, m2 = mm / 2 := ⟨_, rfl⟩
      have hq2 : (mm : Int) / 2 = (m2 : Int) := by omega
      have hm2l : m2 ≤ 4095 := by omega
      have Hx := Lib.hid hx
      have HVd := Lib.hid hVd
      have HX := Lib.hid hxi
      have Hm2 : Hid (m2 = m / 2 ^ (k + 1)) := Lib.hid (by rw [hm2, hG.out.1, tk_half])
      unfold in32 at hxi
      clear hx hVd hm2
      by_cases hbit : mm % 2 = 1
      · have hbit' : (mm : Int) % 2 = 1 := by omega
        have Hbit : Hid (tkM b / 2 ^ k % 2 = 1) := Lib.hid (by rw [← Hm.out, ← hG.out.1]; exact hbit)
        have hc1 := Hcut.out kk hkn
        have htk := qTake03_any (cutA A c kk 1) (n - kk) (c - kk) B (b.drop kk) wr ((h.up (hb.mono hB)).bdrop hkn)
        unfold RetTk at htk
        have hul3 := varT_lt (b.drop kk)
        have hk3 := varT_le (b.drop kk)
        rw [List.length_drop, Hlb.out] at hk3
        have B1 := Lib.hid (fun (hb : byF (varT (b.drop kk)) x ≠ 0) => tk_bad hG.out.2.2 Hx.out Hbit.out hb)
        have B2 := Lib.hid (fun (hb : byF (varT (b.drop kk)) x = 0) => tk_one hG.out.2.2 Hx.out Hbit.out hb)
        have B3 := Lib.hid (byF_e (q := varT (b.drop kk)) (x := x))
        have B4 := Lib.hid (byF_5 (q := varT (b.drop kk)) (x := x))
        have B5 := Lib.hid (byF_0 (q := varT (b.drop kk)) (x := x))
        generalize varT (b.drop kk) = q at *
        obtain ⟨u3, k3, er3⟩ := q
        simp only at htk hul3 hk3 B1 B2 B3 B4 B5
        have Htk := Lib.hid htk
        have hzg := fun w => qZag_any u3 w hul3
        have hzr := zag_in hul3
        obtain ⟨d, hd⟩ : ∃ d, d = zagV u3 := ⟨_, rfl⟩
        rw [← hd] at hzg hzr B2 B4 B5
        clear hbit htk hd
        go_wp2_with fail
        go_fit Htk.out
        rintro e w5 ⟨rfl, rfl⟩
        clear hc1 Htk
        by_cases he3 : er3 = 0
        case neg =>
          have he' : ¬ (er3 : Int) = 0 := by omega
          have hte : recTE V b = er3 := (B1.out (by rw [B3.out he3]; exact he3)).trans (B3.out he3)
          have hne : recTE V b ≠ 0 := by rw [hte]; first | assumption | omega
          obtain ⟨d2, d3, d4⟩ := recT_bad (t := t) hne
          have HD := Lib.hid (show recTE V b = er3 ∧ recTt t V b = 0 ∧ recTV V b = z12 ∧ recTn V b = 0 from ⟨hte, d2, d3, d4⟩)
          clear hte hne d2 d3 d4
          clear hR8 hR2 hG B1 B2 B3 B4 B5 GT Hcut hzg hzr q0 hbit' hq2
          go_wp2_with (first | (with_reducible refine stop_loadT 25 ?_) | (with_reducible refine stop_storeT 25 ?_))
          refine go_ (wpList_store_row rfl _ _ _ rfl (w.heap.size + 1) (rcC 0 z12).toArray rfl rfl _ _ hR4 (by kernel_rfl) (by kernel_rfl) (by kernel_rfl) ?_)
          obtain ⟨hz, hAz⟩ := rc_store 0 z12 rfl wr (w.heap.size + 1) hR4
          have hbz := below_awG hb hAz (fun k hk => by omega) hb.size
          generalize (wr.setRow (w.heap.size + 1) (rcC 0 z12).toArray) = wZ at *
          clear hR4 hb hAz
          go_wp2
          exact bodyPost_ret (results_cell3 (fn := Try.f29) Try.results29 _ _ (w.heap.size + 1) _ _ _ _ rfl hz Try.underlying25 rfl (by kernel_rfl)) rfl ⟨by rw [HD.out.1, HD.out.2.1, HD.out.2.2.1, HD.out.2.2.2]; rfl, hbz⟩
        subst he3
        go_wp2_with fail
        go_fit (hzg wr)
        rintro e w5 ⟨rfl, rfl⟩
        by_cases hd0 : d = 0
        · have h5 : byF (u3, k3, 0) x = 5 := B4.out (by simp) (.inl hd0)
          have hte : recTE V b = 5 := (B1.out (by omega)).trans h5
          have hne : recTE V b ≠ 0 := by rw [hte]; first | assumption | omega
          obtain ⟨d2, d3, d4⟩ := recT_bad (t := t) hne
          have HD := Lib.hid (show recTE V b = 5 ∧ recTt t V b = 0 ∧ recTV V b = z12 ∧ recTn V b = 0 from ⟨hte, d2, d3, d4⟩)
          clear hte hne d2 d3 d4
          clear hR8 hR2 hG B1 B2 B3 B4 B5 GT Hcut hzg hzr q0 hbit' hq2 h5
          go_wp2_with (first | (with_reducible refine stop_loadT 25 ?_) | (with_reducible refine stop_storeT 25 ?_))
          refine go_ (wpList_store_row rfl _ _ _ rfl (w.heap.size + 1) (rcC 0 z12).toArray rfl rfl _ _ hR4 (by kernel_rfl) (by kernel_rfl) (by kernel_rfl) ?_)
          obtain ⟨hz, hAz⟩ := rc_store 0 z12 rfl wr (w.heap.size + 1) hR4
          have hbz := below_awG hb hAz (fun k hk => by omega) hb.size
          generalize (wr.setRow (w.heap.size + 1) (rcC 0 z12).toArray) = wZ at *
          clear hR4 hb hAz
          go_wp2
          exact bodyPost_ret (results_cell3 (fn := Try.f29) Try.results29 _ _ (w.heap.size + 1) _ _ _ _ rfl hz Try.underlying25 rfl (by kernel_rfl)) rfl ⟨by rw [HD.out.1, HD.out.2.1, HD.out.2.2.1, HD.out.2.2.2]; rfl, hbz⟩
        by_cases hd1 : 4294967296 < d
        · have h5 : byF (u3, k3, 0) x = 5 := B4.out (by simp) (.inr (.inr (by omega)))
          have hte : recTE V b = 5 := (B1.out (by omega)).trans h5
          have hne : recTE V b ≠ 0 := by rw [hte]; first | assumption | omega
          obtain ⟨d2, d3, d4⟩ := recT_bad (t := t) hne
          have HD := Lib.hid (show recTE V b = 5 ∧ recTt t V b = 0 ∧ recTV V b = z12 ∧ recTn V b = 0 from ⟨hte, d2, d3, d4⟩)
          clear hte hne d2 d3 d4
          clear hR8 hR2 hG B1 B2 B3 B4 B5 GT Hcut hzg hzr q0 hbit' hq2 h5
          go_wp2_with (first | (with_reducible refine stop_loadT 25 ?_) | (with_reducible refine stop_storeT 25 ?_))
          refine go_ (wpList_store_row rfl _ _ _ rfl (w.heap.size + 1) (rcC 0 z12).toArray rfl rfl _ _ hR4 (by kernel_rfl) (by kernel_rfl) (by kernel_rfl) ?_)
          obtain ⟨hz, hAz⟩ := rc_store 0 z12 rfl wr (w.heap.size + 1) hR4
          have hbz := below_awG hb hAz (fun k hk => by omega) hb.size
          generalize (wr.setRow (w.heap.size + 1) (rcC 0 z12).toArray) = wZ at *
          clear hR4 hb hAz
          go_wp2
          exact bodyPost_ret (results_cell3 (fn := Try.f29) Try.results29 _ _ (w.heap.size + 1) _ _ _ _ rfl hz Try.underlying25 rfl (by kernel_rfl)) rfl ⟨by rw [HD.out.1, HD.out.2.1, HD.out.2.2.1, HD.out.2.2.2]; rfl, hbz⟩
        by_cases hd2 : d < -4294967296
        · have h5 : byF (u3, k3, 0) x = 5 := B4.out (by simp) (.inr (.inl (by omega)))
          have hte : recTE V b = 5 := (B1.out (by omega)).trans h5
          have hne : recTE V b ≠ 0 := by rw [hte]; first | assumption | omega
          obtain ⟨d2, d3, d4⟩ := recT_bad (t := t) hne
          have HD := Lib.hid (show recTE V b = 5 ∧ recTt t V b = 0 ∧ recTV V b = z12 ∧ recTn V b = 0 from ⟨hte, d2, d3, d4⟩)
          clear hte hne d2 d3 d4
          clear hR8 hR2 hG B1 B2 B3 B4 B5 GT Hcut hzg hzr q0 hbit' hq2 h5
          go_wp2_with (first | (with_reducible refine stop_loadT 25 ?_) | (with_reducible refine stop_storeT 25 ?_))
          refine go_ (wpList_store_row rfl _ _ _ rfl (w.heap.size + 1) (rcC 0 z12).toArray rfl rfl _ _ hR4 (by kernel_rfl) (by kernel_rfl) (by kernel_rfl) ?_)
          obtain ⟨hz, hAz⟩ := rc_store 0 z12 rfl wr (w.heap.size + 1) hR4
          have hbz := below_awG hb hAz (fun k hk => by omega) hb.size
          generalize (wr.setRow (w.heap.size + 1) (rcC 0 z12).toArray) = wZ at *
          clear hR4 hb hAz
          go_wp2
          exact bodyPost_ret (results_cell3 (fn := Try.f29) Try.results29 _ _ (w.heap.size + 1) _ _ _ _ rfl hz Try.underlying25 rfl (by kernel_rfl)) rfl ⟨by rw [HD.out.1, HD.out.2.1, HD.out.2.2.1, HD.out.2.2.2]; rfl, hbz⟩
        have hdb : (d == 0) = false := by simp [hd0]
        have j1 : IntKind.i64.wrap x = x := by rw [IntKind.wrap_i64]; omega
        obtain ⟨y, hy⟩ : ∃ y, y = x + d := ⟨_, rfl⟩
        have j2 : x + d = y := hy.symm
        have j3 : IntKind.i64.wrap y = y := by rw [IntKind.wrap_i64]; omega
        by_cases hy1 : 2147483647 < y
        · have h5 : byF (u3, k3, 0) x = 5 := B4.out (by simp) (.inr (.inr (by omega)))
          have hte : recTE V b = 5 := (B1.out (by omega)).trans h5
          have hne : recTE V b ≠ 0 := by rw [hte]; first | assumption | omega
          obtain ⟨d2, d3, d4⟩ := recT_bad (t := t) hne
          have HD := Lib.hid (show recTE V b = 5 ∧ recTt t V b = 0 ∧ recTV V b = z12 ∧ recTn V b = 0 from ⟨hte, d2, d3, d4⟩)
          clear hte hne d2 d3 d4
          clear hR8 hR2 hG B1 B2 B3 B4 B5 GT Hcut hzg hzr hbit' hq2 h5 hy
          go_wp2_with (first | (with_reducible refine stop_loadT 25 ?_) | (with_reducible refine stop_storeT 25 ?_))
          refine go_ (wpList_store_row rfl _ _ _ rfl (w.heap.size + 1) (rcC 0 z12).toArray rfl rfl _ _ hR4 (by kernel_rfl) (by kernel_rfl) (by kernel_rfl) ?_)
          obtain ⟨hz, hAz⟩ := rc_store 0 z12 rfl wr (w.heap.size + 1) hR4
          have hbz := below_awG hb hAz (fun k hk => by omega) hb.size
          generalize (wr.setRow (w.heap.size + 1) (rcC 0 z12).toArray) = wZ at *
          clear hR4 hb hAz q0 j1 j2 j3
          go_wp2
          exact bodyPost_ret (results_cell3 (fn := Try.f29) Try.results29 _ _ (w.heap.size + 1) _ _ _ _ rfl hz Try.underlying25 rfl (by kernel_rfl)) rfl ⟨by rw [HD.out.1, HD.out.2.1, HD.out.2.2.1, HD.out.2.2.2]; rfl, hbz⟩
        by_cases hy2 : y < -2147483648
        · have h5 : byF (u3, k3, 0) x = 5 := B4.out (by simp) (.inr (.inl (by omega)))
          have hte : recTE V b = 5 := (B1.out (by omega)).trans h5
          have hne : recTE V b ≠ 0 := by rw [hte]; first | assumption | omega
          obtain ⟨d2, d3, d4⟩ := recT_bad (t := t) hne
          have HD := Lib.hid (show recTE V b = 5 ∧ recTt t V b = 0 ∧ recTV V b = z12 ∧ recTn V b = 0 from ⟨hte, d2, d3, d4⟩)
          clear hte hne d2 d3 d4
          clear hR8 hR2 hG B1 B2 B3 B4 B5 GT Hcut hzg hzr hbit' hq2 h5 hy
          go_wp2_with (first | (with_reducible refine stop_loadT 25 ?_) | (with_reducible refine stop_storeT 25 ?_))
          refine go_ (wpList_store_row rfl _ _ _ rfl (w.heap.size + 1) (rcC 0 z12).toArray rfl rfl _ _ hR4 (by kernel_rfl) (by kernel_rfl) (by kernel_rfl) ?_)
          obtain ⟨hz, hAz⟩ := rc_store 0 z12 rfl wr (w.heap.size + 1) hR4
          have hbz := below_awG hb hAz (fun k hk => by omega) hb.size
          generalize (wr.setRow (w.heap.size + 1) (rcC 0 z12).toArray) = wZ at *
          clear hR4 hb hAz q0 j1 j2 j3
          go_wp2
          exact bodyPost_ret (results_cell3 (fn := Try.f29) Try.results29 _ _ (w.heap.size + 1) _ _ _ _ rfl hz Try.underlying25 rfl (by kernel_rfl)) rfl ⟨by rw [HD.out.1, HD.out.2.1, HD.out.2.2.1, HD.out.2.2.2]; rfl, hbz⟩
        have h0 : byF (u3, k3, 0) x = 0 := B5.out (by simp) (by omega)
        have hT1 := B2.out h0
        rw [j2] at hT1
        have HT1 := Lib.hid hT1
        obtain ⟨k4, hk4⟩ : ∃ k4, k4 = kk + k3 := ⟨_, rfl⟩
        have j4 : (kk : Int) + (k3 : Int) = (k4 : Int) := by omega
        have j5 : IntKind.i64.wrap (k4 : Int) = (k4 : Int) := by rw [IntKind.wrap_i64]; omega
        have j6 : IntKind.i32.wrap y = y := i32_wrap_in (by omega)
        have hk4n : k4 ≤ n := by omega
        obtain ⟨y0, hy0⟩ : ∃ y, V'[k]? = some y := ⟨_, List.getElem?_eq_getElem (by omega)⟩
        have s1 := hR8.at_ hy0
        have s2 : wr.frozen? ⟨w.heap.size + 2, 1 + k, none⟩ = false := blk_free (i := 1 + k) hR8
        have hA : Aw (fun j => j = w.heap.size + 2) wr (wr.setCell ⟨w.heap.size + 2, 1 + k, none⟩ (.int .i32 y)) := (Aw.refl _ _).set _ rfl
        have hR8' := blk_set (i := 1 + k) hR8 (.int .i32 y)
        rw [rcC_setV] at hR8'
        have hR2' : RcB (wr.setCell ⟨w.heap.size + 2, 1 + k, none⟩ (.int .i32 y)) w.heap.size t V := hA.keep hR2 (by omega)
        have hR4' : RcB (wr.setCell ⟨w.heap.size + 2, 1 + k, none⟩ (.int .i32 y)) (w.heap.size + 1) 0 z12 := hA.keep hR4 (by omega)
        have hb' := below_awG hb hA (fun k hk => by omega) hb.size
        have Hk4 := Lib.hid hk4
        clear hR2 hR4 hR8 hb hA B1 B2 B3 B4 B5 h0 hT1 hy hy0 hk4
        go_wp2
        go_roundw
        case rel =>
          refine ⟨k + 1, k4, m2, V'.set k y, pre ++ [y], by omega, by go_num, rfl, rfl, hR2', hR4', hR8', by rw [List.length_set]; exact hV', hk4n, hm2l, hb', ?_⟩
          obtain ⟨_, hpre, hT⟩ := hG.out
          have hpl : pre.length = k := hT.2.1
          refine Lib.hid ⟨Hm2.out, ?_, ?_⟩
          · rw [hpre, HVd.out, List.set_append, if_neg (by omega), hpl, Nat.sub_self, List.set_cons_zero]
            simp
          · rw [Hk4.out]; exact HT1.out
        case measure => simp [intOf]; omega
      · have hbit' : (mm : Int) % 2 = 0 := by omega
        have Hbit : Hid (¬ tkM b / 2 ^ k % 2 = 1) := Lib.hid (by rw [← Hm.out, ← hG.out.1]; exact hbit)
        clear hbit hxi
        go_wp2
        go_roundw
        case rel =>
          obtain ⟨_, hpre, hT⟩ := hG.out
          exact ⟨k + 1, kk, m2, V', pre ++ [x], by omega, by go_num, rfl, rfl, hR2, hR4, hR8, hV', hkn, hm2l, hb, Lib.hid ⟨Hm2.out, by rw [hpre, HVd.out]; simp, tk_skip hT Hx.out HX.out Hbit.out⟩⟩
        case measure => simp [intOf]; omega
    · obtain rfl : k = 12 := by omega
      obtain ⟨hm, hpre, hT⟩ := hG.out
      rw [List.drop_eq_nil_of_le (by rw [HV.out]; omega), List.append_nil] at hpre
      subst hpre
      have HD := Lib.hid (GT.out _ _ hT)
      clear hG hm hT hR2
      go_wp2_with (first | (with_reducible refine stop_loadT 25 ?_) | (with_reducible refine stop_storeT 25 ?_))
      refine go_ (wpList_load_mid rfl _ _ rfl (w.heap.size + 2) 0 rfl _ _ hR8.all Try.underlying25 rfl (by rw [rcC_size T V' hV']; kernel_rfl) ?_)
      go_wp2_with (first | (with_reducible refine stop_loadT 25 ?_) | (with_reducible refine stop_storeT 25 ?_))
      refine go_ (wpList_store_row rfl _ _ _ rfl (w.heap.size + 1) (rcC T V').toArray rfl rfl _ _ hR4 (by rw [List.size_toArray, rcC_size T V' hV']; kernel_rfl) (by rw [List.size_toArray, List.size_toArray, rcC_size T V' hV']; rfl) (all_oneCell_toArray (rcC_one T V')) ?_)
      obtain ⟨hz, hAz⟩ := rc_store T V' hV' wr (w.heap.size + 1) hR4
      have hbz := below_awG hb hAz (fun k hk => by omega) hb.size
      generalize (wr.setRow (w.heap.size + 1) (rcC T V').toArray) = w5 at *
      clear hR4 hR8 hb hAz
      go_wp2
      exact bodyPost_ret (results_cell3 (fn := Try.f29) Try.results29 _ _ (w.heap.size + 1) _ _ _ _ rfl hz Try.underlying25 rfl (by rw [List.size_toArray, rcC_size T V' hV']; kernel_rfl)) rfl ⟨by rw [HD.out.1, HD.out.2.1, HD.out.2.2.1, HD.out.2.2.2]; rfl, hbz⟩

end Go.Proofs.Ytplgcfjcdjlnbaa
