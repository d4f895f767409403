/-
  RescueFound walked (printed by gen_resc14.py).
-/
import Derived.Test.YtplgcfjcdjlnbaaKResc14
import Derived.Test.YtplgcfjcdjlnbaaKRescTo
set_option linter.unusedSimpArgs false
set_option linter.unusedVariables false
namespace Go.Proofs.Ytplgcfjcdjlnbaa
open Go.RowKit NumLaw CrcLaw
attribute [local go_sem] Addr.add_mid

/-- What is found behind such bytes: each block of the log, at its place. -/
theorem fnd_at {ev : Nat} {Bs : List (List En)} {b : List UInt8} (hb : ∀ x ∈ b, x ≠ 76) (h : BsOK ev 0 Bs) (hn : Bs.length < 4294967296) {i : Nat} {L : List En} (hi : Bs[i]? = some L) :
    (fndS (b ++ catB 0 Bs) (scnAll (b ++ catB 0 Bs)))[i]? = some (b.length + 256 * i, i, L) := by
  have hib : i < Bs.length := (List.getElem?_eq_some_iff.1 hi).1
  have hat := catB_at Bs 0 i 0 L h (by omega) hi
  rw [Nat.zero_add] at hat
  obtain ⟨q1, q2, _⟩ := BsOK_at Bs 0 i L h hi
  obtain ⟨t1, t2, t3, _⟩ := blk_there (no := i) (show i < 4294967296 by omega) q1.1 (logQ_put q1 q2)
  have hpg : pgP (b ++ catB 0 Bs) (b.length + 256 * i) = putB i L := by rw [pgP_pre]; exact hat
  unfold fndS
  rw [scn_all hb h hn, List.map_map, List.getElem?_map, List.getElem?_range' hib]
  show some _ = _
  simp only [Function.comp, Nat.one_mul, Nat.zero_add, hpg, t2, t3]
theorem fnd_len {ev : Nat} {Bs : List (List En)} {b : List UInt8} (hb : ∀ x ∈ b, x ≠ 76) (h : BsOK ev 0 Bs) (hn : Bs.length < 4294967296) : (scnAll (b ++ catB 0 Bs)).length = Bs.length := by
  rw [scn_all hb h hn, List.length_map, List.length_range']
def no76 (b : List UInt8) : List UInt8 := b.filter (fun x => x != 76)
theorem no76_ne (b : List UInt8) : ∀ x ∈ no76 b, x ≠ 76 := fun x hx => by
  have := (List.mem_filter.1 hx).2
  simpa using this
theorem no76_snoc (b : List UInt8) (x : UInt8) : no76 (b ++ [x]) = if x = 76 then no76 b else no76 b ++ [x] := by
  unfold no76
  rw [List.filter_append]
  by_cases h : x = 76
  · rw [if_pos h, List.filter_cons_of_neg (by simp [h])]; simp
  · rw [if_neg h, List.filter_cons_of_pos (by simp [h])]; rfl
theorem no76_len (b : List UInt8) : (no76 b).length ≤ b.length := List.length_filter_le _ _
set_option maxRecDepth 10000 in
set_option maxHeartbeats 8000000 in
theorem rescuefound_any (A1 : Option Addr) (n1 c1 : Nat) (b : List UInt8) (ev : Int) (A : Option Addr) (n c : Nat) (R : List (Nat × List Int)) (w : World) (hb0 : Rd w w.heap.size 1 A1 n1 c1 (bv b)) (hev : -9223372036854775808 ≤ ev ∧ ev ≤ 9223372036854775807) (h : RdC w w.heap.size A n c R) (hq : ∀ p ∈ R, RcQ p) :
    Calls Try.prog 20 #[.slice A1 n1 c1, .int .i64 ev, .slice A n c] w fun e w' => e = .returned (.bool true) ∧ Below w.heap.size w w' := by
  have hmx := h.2.2.2.1
  have hle := h.2.2.1
  have hmx1 := hb0.max
  have hle1 := hb0.le
  unfold maxLen at hmx hmx1
  by_cases hk : 200 < n1
  · have hk' : (200 : Int) < (n1 : Int) := by omega
    go_enter Try.func20, Try.ntmps20
    go_wp2_with fail
    go_fit (knows37 w)
    rintro e w1 ⟨rfl, hb1⟩
    go_wp2
    go_ret
    exact ⟨rfl, hb1⟩
  have hk' : ¬ (200 : Int) < (n1 : Int) := by omega
  by_cases hn : 20 < n
  · have hn' : (20 : Int) < (n : Int) := by omega
    go_enter Try.func20, Try.ntmps20
    go_wp2_with fail
    go_fit (knows37 w)
    rintro e w1 ⟨rfl, hb1⟩
    go_wp2
    go_ret
    exact ⟨rfl, hb1⟩
  have hn' : ¬ (20 : Int) < (n : Int) := by omega
  by_cases hr : ev < 1 ∨ 255 < ev
  · go_enter Try.func20, Try.ntmps20
    go_wp2_with fail
    go_fit (knows37 w)
    rintro e w1 ⟨rfl, hb1⟩
    go_wp2_with fail
    go_fit (qwrite_no ev A n c w1 hr)
    rintro e w2 ⟨rfl, rfl⟩
    go_wp2
    go_ret
    exact ⟨rfl, hb1⟩
  obtain ⟨m, rfl⟩ : ∃ m : Nat, ev = m := ⟨ev.toNat, by omega⟩
  have hll := h.len
  obtain ⟨Bs, e1, e2, e3, e4⟩ := wr_blocks (ev := m) hq (by omega)
  have hcl := catB_len Bs 0 0 e2 (by omega)
  have hBn : Bs.length ≤ 21 := by omega
  have Hfa := Lib.hid (fun i L (hi : Bs[i]? = some L) => fnd_at (no76_ne b) e2 (by omega) hi)
  have Hfn := Lib.hid (fnd_len (no76_ne b) e2 (by omega))
  have HBs := Lib.hid (fun i L (hi : Bs[i]? = some L) => BsOK_at Bs 0 i L e2 hi)
  have Hsn := Lib.hid (fun i L (hi : Bs[i]? = some L) => flat_snocL hi)
  have Htk := Lib.hid (fun i L (hi : Bs[i]? = some L) => take_succ hi)
  have Hw := Lib.hid (fun w1 (h1 : RdC w1 w.heap.size A n c R) hB => qwrite_any m A n c w.heap.size R w1 (by omega) (by omega) h1 hB hq (by omega))
  rw [← e1] at hcl Hfa Hfn
  have HR := Lib.hid e3
  generalize wrO m R = l at *
  have Hcl := Lib.hid hcl
  have Hbl := Lib.hid hb0.blen
  have hn76 := no76_len b
  rw [Hbl.out] at hn76
  have Hll := Lib.hid hll
  have hfl : Bs.flatten.length = n := by rw [← hll, ← e3, List.length_map]
  have Hfl := Lib.hid hfl
  have Hq12 := Lib.hid (show ∀ p ∈ R, p.2.length = 12 from fun p hp => (hq p hp).2.1)
  clear e1 e2 e3 e4 hcl hll hq hr hev hfl
  go_enter Try.func20, Try.ntmps20
  go_wp2_with fail
  go_fit (knows37 w)
  rintro e w1 ⟨rfl, hb1⟩
  go_wp2_with fail
  go_fit (Hw.out w1 (RdR.up h hb1) hb1.size)
  rintro e w2 ⟨A2, c2, n2, rfl, own2, hbx⟩
  have hl2 := own_len own2
  have hr2 := Rd.own own2
  have hb2 := bnx hb1 hbx
  clear own2 hbx hb1 Hw
  have hn2 : n2 = 256 * Bs.length := by rw [← hl2]; exact Hcl.out
  have Hn2 := Lib.hid hn2
  have hn2l : n2 ≤ 5376 := by omega
  have Hl2 := Lib.hid hl2
  obtain ⟨i0, hi⟩ := info_parts u8_info
  obtain ⟨i1, hi1⟩ := info_parts rec_info37
  have Hi := Lib.hid hi
  have Hi1 := Lib.hid hi1
  clear hn2 hl2 hi hi1
  go_wp2_with fail
  go_loopw [9, 10] (fun s i wr => ∃ (k n3 c3 : Nat) (A3 : Option Addr), k ≤ n1 ∧ i = .int .i64 k ∧ s = .slice A3 n3 c3 ∧ n3 ≤ k ∧ wr.ownsRow w2.heap.size 5 1 (.slice A3 n3 c3) n3 (bv (no76 (b.take k))) ∧ Below w2.heap.size w2 wr) (fun _ i _ => n1 - (intOf i).toNat)
  case atStart => exact ⟨0, 0, 0, some ⟨w2.heap.size, 0, none⟩, by omega, rfl, rfl, by omega, own_empty _ _ _ (Nat.le_refl _) 1, (Below.refl _ _).alloc (Nat.le_refl _) _⟩
  case round =>
    obtain ⟨k, n3, c3, A3, hk, rfl, rfl, hn3, own3, hs⟩ := hrel
    have hbw := bnx hb2 hs
    by_cases hlt : k < n1
    · have hlt' : (k : Int) < (n1 : Int) := by omega
      obtain ⟨ad, x, rfl, hx, hcx⟩ := (hb0.up hbw).byte hlt
      have hts := take_succ hx
      have Hts := Lib.hid (show no76 (b.take (k + 1)) = if x = 76 then no76 (b.take k) else no76 (b.take k) ++ [x] by rw [hts]; exact no76_snoc _ _)
      have hxl : x.toNat < 256 := x.toNat_lt
      clear hx hts
      by_cases hx : x.toNat = 76
      · have hxi : (x.toNat : Int) = 76 := by omega
        have hxe : x = 76 := by rw [← UInt8.toNat_inj]; exact hx
        rw [hxi] at hcx
        have H2 := Hts.out
        rw [if_pos hxe] at H2
        rw [← H2] at own3
        have H2 := Lib.hid own3
        clear hxi hxe Hts own3
        go_wp2
        go_roundw
        case rel => exact ⟨k + 1, n3, c3, A3, by omega, by go_num, rfl, by omega, H2.out, hs⟩
        case measure => simp [intOf]; omega
      · have hxi : ¬ (x.toNat : Int) = 76 := by omega
        have hxq : ((x.toNat : Int) != 76) = true := by simp; omega
        have hxe : ¬ x = 76 := fun e => hx (by rw [e]; rfl)
        have H2 := Lib.hid (show bv (no76 (b.take k)) ++ [Value.int .u8 (x.toNat : Int)] = bv (no76 (b.take (k + 1))) by rw [Hts.out, if_neg hxe, bv_app]; rfl)
        have hbn := (Below.refl wr.heap.size wr).alloc (Nat.le_refl _) (.cells #[.int .u8 (x.toNat : Int)] 5)
        have hrd := rd_litG wr 5 [.int .u8 (x.toNat : Int)] (by simp [maxLen])
        have own4 := own_up own3 hbn (Nat.le_refl _)
        have hs4 := bnx hs hbn
        clear own3 hbn Hts hxe hx hbw
        go_wp2_with (at_builtin; refine stop_ ?_)
        generalize (wr.alloc (.cells #[.int .u8 (x.toNat : Int)] 5)) = w4 at *
        refine go_ (wpList_app (base := w2.heap.size) (n := n3) Try.underlying26 Hi.out rfl (by omega) own4 rfl hrd rfl (by intro u hu; rw [List.mem_singleton.1 hu]; rfl) (k := n3 + 1) rfl H2.out (by unfold maxLen; omega) (by omega) hs4.size ?_)
        intro A5 c5 w5 own5 hup5
        have hs5 : Below w2.heap.size w2 w5 := hup5 hs4 hs4.size (Nat.le_refl _)
        clear hup5 own4 hrd hs4 hcx
        go_wp2
        go_roundw
        case rel => exact ⟨k + 1, n3 + 1, c5, A5, by omega, by go_num, rfl, by omega, own5, hs5⟩
        case measure => simp [intOf]; omega
    · obtain rfl : k = n1 := by omega
      rw [List.take_of_length_le (by rw [Hbl.out]; exact Nat.le_refl _)] at own3
      have hl3 := own_len own3
      have hr3 := Rd.own own3
      have hr23 := hr2.nx hs
      clear own3 hs hr2
      go_wp2_with (at_builtin; refine stop_ ?_)
      refine go_ (wpList_app (base := wr.heap.size) (n := 0) (xs := []) Try.underlying26 Hi.out rfl (by omega) (own_empty _ _ _ (Nat.le_refl _) 1) rfl (hr3.up ((Below.refl _ _).alloc (Nat.le_refl _) _)) rfl (bv_one _) (Nat.zero_add _) (List.nil_append _) (by unfold maxLen; omega) (by omega) (by simp) ?_)
      intro A4 c4 w4 own4 hup4
      have hs4 : Below wr.heap.size wr w4 := hup4 ((Below.refl _ _).alloc (Nat.le_refl _) _) (by simp) (Nat.le_refl _)
      have hr24 := hr23.nx hs4
      clear hup4
      go_wp2_with (at_builtin; refine stop_ ?_)
      refine go_ (wpList_app (base := wr.heap.size) Try.underlying26 Hi.out rfl (by omega) own4 rfl hr24 rfl (bv_one _) rfl (bv_app _ _).symm (by unfold maxLen; omega) (by omega) hs4.size ?_)
      intro A5 c5 w5 own5 hup5
      have hs5 : Below wr.heap.size wr w5 := hup5 hs4 hs4.size (Nat.le_refl _)
      have hb5 := bnx hbw hs5
      have hr5 := Rd.own own5
      clear hup5 own4 hs4 hr24 hbw own5
      go_wp2_with fail
      go_fit (scan_any A5 (n3 + n2) c5 w5.heap.size (no76 b ++ l) w5 hr5 (Nat.le_refl _) (by omega))
      unfold RetFd
      rintro e w6 ⟨A6, n6, c6, G, rfl, hr6, hG, hK, hbx⟩
      have hb6 := bnx hb5 hbx
      have hl6 := hr6.len
      have hn6 : n6 = Bs.length := by rw [← hl6, fdK_len hK, Hfn.out]
      have HGa := Lib.hid (fun i L (hi : Bs[i]? = some L) => show (G.map fdK)[i]? = some ((no76 b).length + 256 * i, i, L) by rw [hK]; exact Hfa.out i L hi)
      have Hn6 := Lib.hid hn6
      have Hl6 := Lib.hid hl6
      rw [hl3] at HGa
      have hn6l : n6 ≤ 21 := by omega
      clear hbx hb5 hn6 hl6 hK hr5
      go_wp2_with fail
      go_loopw [12, 13] (fun s i wr => ∃ (i' n7 c7 : Nat) (A7 : Option Addr), i' ≤ n6 ∧ n7 ≤ 20 ∧ i = .int .i64 i' ∧ s = .slice A7 n7 c7 ∧ wr.ownsRow w6.heap.size 25 13 (.slice A7 n7 c7) n7 ((((Bs.take i').flatten).map recE).map rcR).flatten ∧ Hid (((Bs.take i').flatten).length = n7) ∧ Below w6.heap.size w6 wr) (fun _ i _ => n6 - (intOf i).toNat)
      case atStart => exact ⟨0, 0, 0, none, by omega, by omega, rfl, rfl, World.ownsRow_nil _ _ _ _, Lib.hid rfl, Below.refl _ _⟩
      case round =>
        obtain ⟨i, n7, c7, A7, hi, hn7, rfl, rfl, own7, hl7, hs7⟩ := hrel
        have hbw := bnx hb6 hs7
        by_cases hlt : i < n6
        · have hlt' : (i : Int) < (n6 : Int) := by omega
          obtain ⟨L, hL⟩ : ∃ L, Bs[i]? = some L := ⟨_, List.getElem?_eq_getElem (by rw [← Hn6.out]; exact hlt)⟩
          obtain ⟨g, off, x, hA6, hg, hx, hrx⟩ := RdFd.at_ hr6 hlt
          have hgk := HGa.out i L hL
          rw [List.getElem?_map, hx] at hgk
          injection hgk with hgk
          have hE := hG x (List.mem_of_getElem? hx)
          obtain ⟨p, no, A8, n8, c8, L8⟩ := x
          injection hgk with g1 g2
          injection g2 with g2 g3
          replace g1 : p = n3 + 256 * i := g1
          replace g2 : no = i := g2
          replace g3 : L8 = L := g3
          subst g1
          subst g3
          subst g2
          have k0 := (hs7.cell (p := ⟨g, off + no * 3 + 0, none⟩) hg).trans (hrx 0 _ rfl)
          have k1 := (hs7.cell (p := ⟨g, off + no * 3 + 1, none⟩) hg).trans (hrx 1 _ rfl)
          have k2 := (hs7.cell (p := ⟨g, off + no * 3 + 2, none⟩) hg).trans (hrx 2 _ rfl)
          rw [Nat.add_zero] at k0
          rw [show ((n3 + 256 * no : Nat) : Int) = (n3 : Int) + 256 * (no : Int) by omega] at k0
          subst hA6
          have hr8 : RdE wr wr.heap.size A8 n8 c8 L8 := (hE.nx hs7).1
          have Hs := Lib.hid (Hsn.out no L8 hL)
          have Ht := Lib.hid (Htk.out no L8 hL)
          have hn78 : n7 + n8 ≤ 20 := by
            have h5 : Bs.flatten = (Bs.take (no + 1)).flatten ++ (Bs.drop (no + 1)).flatten := by rw [← List.flatten_append, List.take_append_drop]
            have h6 := Hfl.out
            have h8 := RdE.len hr8
            rw [h5, List.length_append, Hs.out, hl7.out] at h6
            omega
          have hnE := RdE.len hr8
          obtain ⟨q1, q2, _⟩ := HBs.out no L8 hL
          have H12 := Lib.hid (show ∀ p ∈ L8.map recE, p.2.length = 12 from fun p hp => by obtain ⟨x, hx, rfl⟩ := List.mem_map.1 hp; exact (q1.1 x hx).2.1)
          have hwk : IntKind.i64.wrap (256 * (no : Int)) = 256 * (no : Int) := IntWalk.i64_in _ (by omega)
          have hwk2 : IntKind.i64.wrap ((n3 : Int) + 256 * (no : Int)) = (n3 : Int) + 256 * (no : Int) := IntWalk.i64_in _ (by omega)
          have hwk3 : IntKind.i64.wrap (no : Int) = (no : Int) := IntWalk.i64_in _ (by omega)
          have hnn : (((n3 : Int) + 256 * (no : Int)) != ((n3 : Int) + 256 * (no : Int))) = false := by simp
          have hnn2 : ((no : Int) != (no : Int)) = false := by simp
          have hrs := qrecords_any no A8 n8 c8 wr.heap.size L8 wr hr8 (Nat.le_refl _) (by omega)
          have Hrs := Lib.hid hrs
          clear hL hx hrx hE hrs q1 q2 hr8
          go_wp2_with fail
          go_fit Hrs.out
          unfold RetRs
          rintro e w9 ⟨A9, n9, c9, rfl, hn9, own9, hbx⟩
          rw [List.length_map, hnE] at hn9
          subst hn9
          have own79 := own_up own7 hbx (Nat.le_refl _)
          have hs9 := bnx hs7 hbx
          have hrc9 := RdC.own own9 (by rw [List.length_map, hnE]) H12.out
          have Hflat := Lib.hid (show ((((Bs.take no).flatten).map recE).map rcR).flatten ++ ((L8.map recE).map rcR).flatten = ((((Bs.take (no + 1)).flatten).map recE).map rcR).flatten by rw [Ht.out]; simp)
          have Hl9 := Lib.hid (show ((Bs.take (no + 1)).flatten).length = n7 + n9 by rw [Hs.out, hl7.out, hnE])
          clear hbx own9 own7 k0 k1 k2 Hrs hnE
          go_wp2_with (at_builtin; refine stop_ ?_)
          refine go_ (wpList_app (base := w6.heap.size) (n := n7) Try.underlying58 Hi1.out (by kernel_rfl) (by omega) own79 rfl (RdR.rd hrc9 (by omega)) rfl (rcR_one _) (k := n7 + n9) rfl Hflat.out (by unfold maxLen; omega) (by omega) hs9.size ?_)
          intro A10 c10 w10 own10 hup10
          have hs10 : Below w6.heap.size w6 w10 := hup10 hs9 hs9.size (Nat.le_refl _)
          clear hup10 own79 hrc9 hs9
          go_wp2
          go_roundw
          case rel => exact ⟨no + 1, n7 + n9, c10, A10, by omega, by omega, by go_num, rfl, own10, Hl9, hs10⟩
          case measure => simp [intOf]; omega
        · obtain rfl : i = n6 := by omega
          have he : ((Bs.take i).flatten).map recE = R := by rw [Hn6.out, List.take_length]; exact HR.out
          rw [he] at own7
          have hrc := RdC.own own7 (by have := hl7.out; rw [← he, List.length_map]; exact this) (Hq12.out)
          have hr67 : RdFd _ _ A6 i c6 G := RdR.nx hr6 hs7
          have hno6 : ∀ f ∈ G, f.no < 4294967296 := fun f hf => (hG f hf).2.2
          have hz : gapS (G.map FdT.no) i = 0 := gapS_zero (fun j hj => by
            rw [List.length_map, Hl6.out] at hj
            obtain ⟨L, hL⟩ : ∃ L, Bs[j]? = some L := ⟨_, List.getElem?_eq_getElem (by rw [← Hn6.out]; exact hj)⟩
            have hgk := HGa.out j L hL
            rw [List.getElem?_map] at hgk
            rw [List.getD_eq_getElem?_getD, List.getElem?_map]
            cases hx : G[j]? with
            | none => rw [hx] at hgk; cases hgk
            | some x =>
              rw [hx] at hgk
              injection hgk with hgk
              injection hgk with _ g2
              injection g2 with g2 _
              all_goals exact g2) i (by rw [List.length_map, Hl6.out]; exact Nat.le_refl _)
          have Hz := Lib.hid hz
          clear own7 he hz
          go_wp2_with fail
          go_fit (recs37_any A7 n7 c7 A n c R R wr.heap.size wr hrc (RdR.more (RdR.up h hbw) hbw.size) (Nat.le_refl _))
          rintro e w8 ⟨rfl, hbx⟩
          rw [show decide (R = R) = true from decide_eq_true rfl]
          have hb8 := bnx hbw hbx
          have hr68 : RdFd _ _ A6 i c6 G := RdR.nx hr67 hbx
          clear hbx hr67 hbw
          go_wp2_with fail
          go_fit (gaps_any A6 i c6 G w8 hr68 hno6 (by omega))
          rw [Hz.out]
          rintro e w9 ⟨rfl, hbx⟩
          have hb9 := bnx hb8 hbx
          rw [show ((0 : Nat) : Int) = 0 from rfl]
          clear hbx
          go_wp2
          go_ret
          exact ⟨rfl, hb9⟩

end Go.Proofs.Ytplgcfjcdjlnbaa
