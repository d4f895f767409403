/-
  RescueCut walked (printed by gen_resc8.py).
-/
import Derived.Test.YtplgcfjcdjlnbaaKGU
import Derived.Test.YtplgcfjcdjlnbaaKGT
set_option linter.unusedSimpArgs false
set_option linter.unusedVariables false
namespace Go.Proofs.Ytplgcfjcdjlnbaa
open Go.RowKit NumLaw CrcLaw
attribute [local go_sem] Addr.add_mid

theorem pgR_take {l : List UInt8} {t k : Nat} (h : 256 * k + 256 ≤ t) : pgR (l.take t) k = pgR l k := by
  unfold pgR
  rw [List.drop_take, List.take_take, show min 256 (t - 256 * k) = 256 by omega]
theorem readS_take {l : List UInt8} {t : Nat} : ∀ k, 256 * k ≤ t → readS (l.take t) k = readS l k
  | 0, _ => rfl
  | k + 1, h => by
    show rdStep _ _ _ = rdStep _ _ _
    rw [readS_take k (by omega), pgR_take (by omega)]
theorem RdC.take {w : World} {B n c : Nat} {A : Option Addr} {R : List (Nat × List Int)} (h : RdC w B A n c R) {k : Nat} (hk : k ≤ n) : RdC w B A k c (R.take k) := by
  unfold RdC at h ⊢
  refine ⟨by have := RdC.len (show RdC w B A n c R from h); rw [List.length_map, List.length_take]; omega, fun r hr => ?_, Nat.le_trans hk h.2.2.1, h.2.2.2.1, fun hn => ?_⟩
  · rw [List.map_take] at hr
    exact h.2.1 r (List.mem_of_mem_take hr)
  · obtain ⟨g, off, e, hg, hr⟩ := h.2.2.2.2 (by omega)
    refine ⟨g, off, e, hg, fun j r hj => hr j r ?_⟩
    rw [List.map_take] at hj
    by_cases hjk : j < k
    · rwa [List.getElem?_take_of_lt hjk] at hj
    · rw [List.getElem?_eq_none (by rw [List.length_take]; omega)] at hj
      cases hj
set_option maxRecDepth 10000 in
set_option maxHeartbeats 8000000 in
theorem rescuecut_any (ev : Int) (A : Option Addr) (n c : Nat) (R : List (Nat × List Int)) (t : Int) (w : World) (hev : -9223372036854775808 ≤ ev ∧ ev ≤ 9223372036854775807) (h : RdC w w.heap.size A n c R) (hq : ∀ p ∈ R, RcQ p) (ht : -9223372036854775808 ≤ t ∧ t ≤ 9223372036854775807) :
    Calls Try.prog 17 #[.int .i64 ev, .slice A n c, .int .i64 t] w fun e w' => e = .returned (.bool true) ∧ Below w.heap.size w w' := by
  have hmx := h.2.2.2.1
  have hle := h.2.2.1
  unfold maxLen at hmx
  by_cases hn : 40 < n
  · have hn' : (40 : Int) < (n : Int) := by omega
    go_enter Try.func17, Try.ntmps17
    go_wp2_with fail
    go_fit (knows37 w)
    rintro e w1 ⟨rfl, hb1⟩
    go_wp2
    go_ret
    exact ⟨rfl, hb1⟩
  have hn' : ¬ (40 : Int) < (n : Int) := by omega
  by_cases hr : ev < 1 ∨ 255 < ev
  · go_enter Try.func17, Try.ntmps17
    go_wp2_with fail
    go_fit (knows37 w)
    rintro e w1 ⟨rfl, hb1⟩
    go_wp2_with fail
    go_fit (qwrite_no ev A n c w1 hr)
    rintro e w2 ⟨rfl, rfl⟩
    go_wp2
    go_ret
    exact ⟨rfl, hb1⟩
  obtain ⟨m, rfl⟩ : ∃ m : Nat, ev = m := ⟨ev.toNat, by omega⟩
  have hll := h.len
  obtain ⟨hrd, hwl⟩ := readS_wr (ev := m) hq (by omega)
  obtain ⟨Bs, e1, e2, e3, e4⟩ := wr_blocks (ev := m) hq (by omega)
  have hcl := catB_len Bs 0 0 e2 (by omega)
  have Hrc := Lib.hid (readS_cat e2 (by omega))
  have Hat := Lib.hid (fun i L (hi : Bs[i]? = some L) => catB_at Bs 0 i 0 L e2 (by omega) hi)
  have HBs := Lib.hid (fun i L (hi : Bs[i]? = some L) => BsOK_at Bs 0 i L e2 hi)
  have Hsn := Lib.hid (fun i L (hi : Bs[i]? = some L) => flat_snocL hi)
  have Hw := Lib.hid (fun w1 (h1 : RdC w1 w.heap.size A n c R) hB => qwrite_any m A n c w.heap.size R w1 (by omega) (by omega) h1 hB hq (by omega))
  have hBn : Bs.length ≤ 41 := by omega
  rw [← e1] at hcl Hrc Hat
  have Hll := Lib.hid hll
  have Hrd := Lib.hid hrd
  have HR := Lib.hid e3
  generalize wrO m R = l at *
  have Hcl := Lib.hid hcl
  clear e1 e2 e3 e4 hcl hwl hrd hll hq hr hev
  go_enter Try.func17, Try.ntmps17
  go_wp2_with fail
  go_fit (knows37 w)
  rintro e w1 ⟨rfl, hb1⟩
  go_wp2_with fail
  go_fit (Hw.out w1 (RdR.up h hb1) hb1.size)
  rintro e w2 ⟨A2, c2, n2, rfl, own2, hbx⟩
  have hl2 := own_len own2
  have hr2 := Rd.own own2
  have hb2 := bnx hb1 hbx
  clear own2 hbx hb1
  have hn2 : n2 = 256 * Bs.length := by rw [← hl2]; exact Hcl.out
  have Hn2 := Lib.hid hn2
  have hn2l : n2 ≤ 10496 := by omega
  have Hl2 := Lib.hid hl2
  clear hn2 hl2
  go_wp2_with fail
  go_fit (read37_any A2 n2 c2 w2.heap.size l w2 hr2 (Nat.le_refl _) (by omega))
  rw [← Hl2.out, Hrd.out, Hl2.out]
  unfold RetRd
  rintro e w3 ⟨A3, n3, c3, A4, n4, c4, rfl, hr3, hi4, hbx⟩
  obtain rfl : n4 = 0 := (RdI.len hi4).symm
  have hb3 := bnx hb2 hbx
  have hr23 := hr2.nx hbx
  clear hbx hi4 hb2 hr2
  go_wp2_with fail
  go_fit (recs37_any A3 n3 c3 A n c R R w3.heap.size w3 hr3 (RdR.more (RdR.up h hb3) hb3.size) (Nat.le_refl _))
  rintro e w4 ⟨rfl, hbx⟩
  rw [show decide (R = R) = true from decide_eq_true rfl]
  have hb4 := bnx hb3 hbx
  have hr24 := hr23.nx hbx
  have hr34 : RdC _ _ A3 n3 c3 R := RdR.nx hr3 hbx
  clear hbx hr23 hr3 hb3
  by_cases ht0 : t < 0 ∨ (n2 : Int) < t
  · rcases (by omega : t < 0 ∨ (¬ t < 0 ∧ (n2 : Int) < t)) with h1 | ⟨h1, h2⟩
    all_goals
      go_wp2_with fail
      go_fit (recs37_any A3 n3 c3 A n c R R w4.heap.size w4 hr34 (RdR.more (RdR.up h hb4) hb4.size) (Nat.le_refl _))
      rintro e w5 ⟨rfl, hbx⟩
      rw [show decide (R = R) = true from decide_eq_true rfl]
      have hb5 := bnx hb4 hbx
      clear hbx
      go_wp2
      go_ret
      exact ⟨rfl, hb5⟩
  obtain ⟨q, rfl⟩ : ∃ q : Nat, t = q := ⟨t.toNat, by omega⟩
  have h1 : ¬ (q : Int) < 0 := by omega
  have h2 : ¬ (n2 : Int) < (q : Int) := by omega
  have hqn : q ≤ n2 := by omega
  obtain ⟨N, hN⟩ : ∃ v, v = q / 256 := ⟨_, rfl⟩
  have hNq : 256 * N ≤ q ∧ q < 256 * N + 256 := by omega
  have hdv : IntKind.i64.wrap ((q : Int).tdiv 256) = (N : Int) := by
    rw [Int.tdiv_eq_ediv_of_nonneg (by omega), IntWalk.i64_in _ (by omega)]
    omega
  have hNB : N ≤ Bs.length := by have := Hn2.out; omega
  have hle2 := hr24.le
  have hmx2 := hr24.max
  unfold maxLen at hmx2
  obtain ⟨i0, hi⟩ := info_parts u8_info
  have Hi := Lib.hid hi
  have hcutq : ∀ w, (Instr.slice 26 (.slice A2 n2 c2) none (some (.int .i64 (q : Int))) none).run Try.prog w = .ok (.slice A2 q c2) w := run_cut_h (P := Try.prog) Try.underlying26 Hi.out.1 A2 n2 c2 q (by omega)
  have hRd := read37_any A2 q c2 w4.heap.size (l.take q) w4 (hr24.btake hqn) (Nat.le_refl _) (by omega)
  rw [← hN, readS_take N (by omega), Hrc.out N hNB] at hRd
  have HRd := Lib.hid hRd
  clear hi hN hRd ht0 ht
  go_wp2_with fail
  go_fit HRd.out
  unfold RetRd
  rintro e w5 ⟨A5, n5, c5, A6, n6, c6, rfl, hr5, hi6, hbx⟩
  obtain rfl : n6 = 0 := (RdI.len hi6).symm
  have hl5 := RdC.len hr5
  have hb5 := bnx hb4 hbx
  have hr25 := hr24.nx hbx
  have Hl5 := Lib.hid hl5
  clear hbx hi6 hb4 hr24 hr34 HRd hcutq hl5
  go_wp2_with fail
  go_loopw [13, 14] (fun a i wr => ∃ k : Nat, k ≤ N ∧ i = .int .i64 k ∧ a = .int .i64 ((Bs.take k).flatten.length : Int) ∧ Below w5.heap.size w5 wr) (fun _ i _ => N - (intOf i).toNat)
  case atStart => exact ⟨0, by omega, rfl, rfl, Below.refl _ _⟩
  case round =>
    obtain ⟨i, hi, rfl, rfl, hbr⟩ := hrel
    by_cases hlt : i < N
    · have hlt' : (i : Int) < (N : Int) := by omega
      have hB := Hn2.out
      obtain ⟨L, hL⟩ : ∃ L, Bs[i]? = some L := ⟨_, List.getElem?_eq_getElem (by omega)⟩
      have hat := Hat.out i L hL
      rw [Nat.zero_add] at hat
      obtain ⟨q1, q2, _⟩ := HBs.out i L hL
      obtain ⟨t1, t2, t3, t4⟩ := blk_there (no := i) (show i < 4294967296 by omega) q1.1 (logQ_put q1 q2)
      have hpg : Rd wr wr.heap.size 1 (cutA A2 c2 (256 * i) 1) 256 (c2 - 256 * i) (bv (putB i L)) := by
        have h2 := ((hr25.nx hbr).bdrop (k := 256 * i) (by omega)).btake (k := 256) (by omega)
        rwa [hat] at h2
      have htk := qblkTake_any (cutA A2 c2 (256 * i) 1) 256 (c2 - 256 * i) wr.heap.size (putB i L) wr hpg (Nat.le_refl _) (by omega)
      unfold RetTBk at htk
      rw [t1, t2, t3] at htk
      have Htk := Lib.hid htk
      have Hs := Lib.hid (Hsn.out i L hL)
      have hlw : (Bs.take i).flatten.length + L.length ≤ 1000000 := by
        have h6 : ∀ (k : Nat), (Bs.take k).flatten.length ≤ n := fun k => by
          have h5 : Bs.flatten = (Bs.take k).flatten ++ (Bs.drop k).flatten := by rw [← List.flatten_append, List.take_append_drop]
          have h7 := congrArg List.length HR.out
          rw [List.length_map, Hll.out, h5, List.length_append] at h7
          omega
        have := h6 (i + 1)
        rw [Hs.out] at this
        omega
      obtain ⟨wh, hwh⟩ : ∃ v, v = (Bs.take i).flatten.length := ⟨_, rfl⟩
      rw [← hwh] at hlw Hs ⊢
      have hwk : IntKind.i64.wrap (256 * (i : Int)) = 256 * (i : Int) := IntWalk.i64_in _ (by omega)
      have hwk2 : IntKind.i64.wrap (256 * (i : Int) + 256) = 256 * (i : Int) + 256 := IntWalk.i64_in _ (by omega)
      have hcut : ∀ w, (Instr.slice 26 (.slice A2 n2 c2) (some (.int .i64 (256 * (i : Int)))) (some (.int .i64 (256 * (i : Int) + 256))) none).run Try.prog w = .ok (.slice (cutA A2 c2 (256 * i) 1) 256 (c2 - 256 * i)) w := fun w => by
        have := run_cut_lh (P := Try.prog) Try.underlying26 Hi.out.1 Hi.out.2.2.1 A2 n2 c2 (256 * i) (256 * i + 256) (by omega) (by omega) w
        rwa [show ((256 * i : Nat) : Int) = 256 * (i : Int) by omega, show ((256 * i + 256 : Nat) : Int) = 256 * (i : Int) + 256 by omega, show 256 * i + 256 - 256 * i = 256 by omega] at this
      clear hB hL hat q1 q2 t1 t2 t3 t4 hpg htk hwh
      go_wp2_with fail
      go_fit Htk.out
      rintro e w6 ⟨A7, n7, c7, rfl, hr7, hbx⟩
      have hl7 := RdE.len hr7
      have hbn : Below w6.heap.size w6 (w6.alloc (.cells #[.int .u32 (i : Int), .slice A7 n7 c7] 41)) := (Below.refl _ _).alloc (Nat.le_refl _) _
      have k1 := blk_cell (i := 1) (v := .slice A7 n7 c7) (heap_alloc_new w6 (.cells #[.int .u32 (i : Int), .slice A7 n7 c7] 41)) rfl
      have hb7 := bnx (bnx hbr hbx) hbn
      have Hl7 := Lib.hid hl7
      have hn7 : wh + n7 ≤ 1000000 := by omega
      clear hcut Htk hbx hbn hr7 hl7 hlw
      go_wp2
      go_roundw
      case rel => exact ⟨i + 1, by omega, by go_num, (by rw [Hs.out, Hl7.out]; go_num), hb7⟩
      case measure => simp [intOf]; omega
    · obtain rfl : i = N := by omega
      obtain ⟨wh, hwh⟩ : ∃ v, v = (Bs.take i).flatten.length := ⟨_, rfl⟩
      rw [← hwh]
      have htk : ((Bs.take i).flatten).map recE = R.take wh := by
        have h5 : Bs.flatten = (Bs.take i).flatten ++ (Bs.drop i).flatten := by rw [← List.flatten_append, List.take_append_drop]
        rw [← HR.out, h5, List.map_append, show wh = (((Bs.take i).flatten).map recE).length by rw [List.length_map, hwh], List.take_left]
      have hwn : wh ≤ n := by
        have := congrArg List.length htk
        rw [List.length_map, List.length_take, Hll.out] at this
        omega
      have hwn' : (wh : Int) ≤ (n : Int) := by omega
      rw [htk] at hr5
      have hbf := bnx hb5 hbr
      have hr6 : RdC _ _ A5 n5 c5 _ := RdR.nx hr5 hbr
      have hrh : RdC wr wr.heap.size A wh c (R.take wh) := RdC.take (RdR.more (RdR.up h hbf) hbf.size) hwn
      obtain ⟨i1, hi1⟩ := info_parts rec_info37
      have hcuth : ∀ w, (Instr.slice 58 (.slice A n c) none (some (.int .i64 (wh : Int))) none).run Try.prog w = .ok (.slice A wh c) w := run_cut_h (P := Try.prog) Try.underlying58 hi1.1 A n c wh (by omega)
      clear hi1 hwh htk hr5 hbr
      go_wp2_with fail
      go_fit (recs37_any A5 n5 c5 A wh c (R.take wh) (R.take wh) wr.heap.size wr hr6 hrh (Nat.le_refl _))
      rintro e w6 ⟨rfl, hbx⟩
      rw [show decide (R.take wh = R.take wh) = true from decide_eq_true rfl]
      have hbg := bnx hbf hbx
      clear hbx
      go_wp2
      go_ret
      exact ⟨rfl, hbg⟩

end Go.Proofs.Ytplgcfjcdjlnbaa
