/-
  RescueTrue walked (printed by gen_resc10.py).
-/
import Derived.Test.YtplgcfjcdjlnbaaKRescTr
import Derived.Test.YtplgcfjcdjlnbaaKRescTo
import Derived.Test.YtplgcfjcdjlnbaaKCrcTurn
set_option linter.unusedSimpArgs false
set_option linter.unusedVariables false
namespace Go.Proofs.Ytplgcfjcdjlnbaa
open Go.RowKit NumLaw CrcLaw
attribute [local go_sem] Addr.add_mid

theorem readS_255 (l : List UInt8) : ∀ k, (readS l k).1.length ≤ 255 * k
  | 0 => Nat.le_refl _
  | k + 1 => by
    have ih := readS_255 l k
    have h2 := (blk_q (s := pgR l k)).2
    by_cases hg : goodR (pgR l k) k
    · rw [readS_good hg, List.length_append, List.length_map]; omega
    · rw [readS_bad hg]; show (readS l k).1.length ≤ _; omega
set_option maxRecDepth 10000 in
set_option maxHeartbeats 8000000 in
theorem rescuetrue_any (ev : Int) (A : Option Addr) (n c : Nat) (R : List (Nat × List Int)) (A1 : Option Addr) (n1 c1 : Nat) (C : List (Int × UInt8)) (w : World) (hev : -9223372036854775808 ≤ ev ∧ ev ≤ 9223372036854775807) (h : RdC w w.heap.size A n c R) (hq : ∀ p ∈ R, RcQ p) (hC : RdCh w w.heap.size A1 n1 c1 C) (hCq : ∀ x ∈ C, ChQ x) :
    Calls Try.prog 16 #[.int .i64 ev, .slice A n c, .slice A1 n1 c1] w fun e w' => e = .returned (.bool true) ∧ Below w.heap.size w w' := by
  have hmx := h.2.2.2.1
  have hle := h.2.2.1
  have hmx1 := hC.2.2.2.1
  have hle1 := hC.2.2.1
  unfold maxLen at hmx hmx1
  by_cases hn : 40 < n
  · have hn' : (40 : Int) < (n : Int) := by omega
    go_enter Try.func16, Try.ntmps16
    go_wp2_with fail
    go_fit (knows37 w)
    rintro e w1 ⟨rfl, hb1⟩
    go_wp2
    go_ret
    exact ⟨rfl, hb1⟩
  have hn' : ¬ (40 : Int) < (n : Int) := by omega
  by_cases hk : 60 < n1
  · have hk' : (60 : Int) < (n1 : Int) := by omega
    go_enter Try.func16, Try.ntmps16
    go_wp2_with fail
    go_fit (knows37 w)
    rintro e w1 ⟨rfl, hb1⟩
    go_wp2
    go_ret
    exact ⟨rfl, hb1⟩
  have hk' : ¬ (60 : Int) < (n1 : Int) := by omega
  by_cases hr : ev < 1 ∨ 255 < ev
  · go_enter Try.func16, Try.ntmps16
    go_wp2_with fail
    go_fit (knows37 w)
    rintro e w1 ⟨rfl, hb1⟩
    go_wp2_with fail
    go_fit (qwrite_no ev A n c w1 hr)
    rintro e w2 ⟨rfl, rfl⟩
    go_wp2
    go_ret
    exact ⟨rfl, hb1⟩
  obtain ⟨m, rfl⟩ : ∃ m : Nat, ev = m := ⟨ev.toNat, by omega⟩
  obtain ⟨Bs, e1, e2, e3, e4⟩ := wr_blocks (ev := m) hq (by have := h.len; omega)
  have hcl := catB_len Bs 0 0 e2 (by have := h.len; omega)
  have hBn : Bs.length ≤ 41 := by have := h.len; omega
  have Hat := Lib.hid (fun i L (hi : Bs[i]? = some L) => catB_at Bs 0 i 0 L e2 (by omega) hi)
  have HBs := Lib.hid (fun i L (hi : Bs[i]? = some L) => BsOK_at Bs 0 i L e2 hi)
  have Hw := Lib.hid (fun w1 (h1 : RdC w1 w.heap.size A n c R) hB => qwrite_any m A n c w.heap.size R w1 (by omega) (by omega) h1 hB hq (by have := h.len; omega))
  rw [← e1] at hcl Hat
  generalize wrO m R = l at *
  have Hcl := Lib.hid hcl
  clear e1 e2 e3 e4 hcl hr hev
  go_enter Try.func16, Try.ntmps16
  go_wp2_with fail
  go_fit (knows37 w)
  rintro e w1 ⟨rfl, hb1⟩
  go_wp2_with fail
  go_fit (Hw.out w1 (RdR.up h hb1) hb1.size)
  rintro e w2 ⟨A2, c2, n2, rfl, own2, hbx⟩
  have hl2 := own_len own2
  have hr2 := Rd.own own2
  have hb2 := bnx hb1 hbx
  clear own2 hbx hb1 Hw
  have hn2 : n2 = 256 * Bs.length := by rw [← hl2]; exact Hcl.out
  have Hn2 := Lib.hid hn2
  have hn2l : n2 ≤ 10496 := by omega
  have Hl2 := Lib.hid hl2
  have hle2 := hr2.le
  have hmx2 := hr2.max
  unfold maxLen at hmx2
  obtain ⟨i0, hi⟩ := info_parts u8_info
  obtain ⟨i1, hi1⟩ := info_parts rec_info37
  have Hi := Lib.hid hi
  have Hi1 := Lib.hid hi1
  clear hn2 hl2 hi hi1
  go_wp2_with (at_builtin; refine stop_ ?_)
  refine go_ (wpList_app (base := w2.heap.size) (n := 0) (xs := []) Try.underlying26 Hi.out rfl (by omega) (own_empty _ _ _ (Nat.le_refl _) 1) rfl (hr2.up ((Below.refl _ _).alloc (Nat.le_refl _) _)) rfl (bv_one _) (Nat.zero_add _) (List.nil_append _) (by unfold maxLen; omega) (by omega) (by simp) ?_)
  intro A3 c3 w3 own3 hup3
  have hs3 : Below w2.heap.size w2 w3 := hup3 ((Below.refl _ _).alloc (Nat.le_refl _) _) (by simp) (Nat.le_refl _)
  clear hup3
  go_wp2_with fail
  go_loopw [10] (fun i wr => ∃ (k : Nat) (o : List UInt8), k ≤ n1 ∧ i = .int .i64 k ∧ Hid (o.length = n2) ∧ wr.ownsRow w2.heap.size 5 1 (.slice A3 n2 c3) n2 (bv o) ∧ Below w2.heap.size w2 wr) (fun i _ => n1 - (intOf i).toNat)
  case atStart => exact ⟨0, l, by omega, rfl, Hl2, own3, hs3⟩
  case round =>
    clear hs3 own3 w3
    obtain ⟨k, o, hk, rfl, ho, own, hs⟩ := hrel
    by_cases hlt : k < n1
    · have hlt' : (k : Int) < (n1 : Int) := by omega
      have hbw := bnx hb2 hs
      obtain ⟨g1, off1, x, hA1, hg1, hx, hrx⟩ := hC.at_ hlt
      obtain ⟨q1, q2⟩ := hCq x (List.mem_of_getElem? hx)
      have hc0 := (hbw.cell (p := ⟨g1, off1 + k * 2 + 0, none⟩) hg1).trans (hrx 0 _ rfl)
      have hc1 := (hbw.cell (p := ⟨g1, off1 + k * 2 + 1, none⟩) hg1).trans (hrx 1 _ rfl)
      rw [Nat.add_zero] at hc0
      subst hA1
      obtain ⟨z, b⟩ := x
      dsimp only at hc0 hc1 q1 q2
      have Hq := Lib.hid (And.intro q1 q2)
      clear hx hrx q1 q2
      by_cases hz : 0 ≤ z ∧ z < (n2 : Int)
      · obtain ⟨p, rfl⟩ : ∃ p : Nat, z = p := ⟨z.toNat, by omega⟩
        have hz0 : (0 : Int) ≤ (p : Int) := by omega
        have hz1 : (p : Int) < (n2 : Int) := hz.2
        have hp : p < n2 := by omega
        obtain ⟨g, rfl, hg⟩ := own_g own (by omega)
        clear hz
        go_wp2
        refine Ord.region_ (fun _ => True) false [73, 78] (by kernel_rfl) (by kernel_rfl) trivial ?_
        have hc0d : wr.drew.cell? ⟨g1, off1 + k * 2, none⟩ = _ := hc0
        have hc1d : wr.drew.cell? ⟨g1, off1 + k * 2 + 1, none⟩ = _ := hc1
        ((with_reducible refine Ord.e_p (v := ?_) ?_ ?_ ?_ ?_); rotate_left; (· exact rfl); (· kernel_rfl); (· intro w2; go_simp; try with_reducible rfl))
        (try simp only [Act.put, List.setIfInBounds_toArray, List.set_cons_zero, List.set_cons_succ])
        ((with_reducible refine Ord.e_p (v := ?_) ?_ ?_ ?_ ?_); rotate_left; (· exact rfl); (· kernel_rfl); (· intro w2; go_simp; try with_reducible rfl))
        (try simp only [Act.put, List.setIfInBounds_toArray, List.set_cons_zero, List.set_cons_succ])
        ((with_reducible refine Ord.e_p (v := ?_) ?_ ?_ ?_ ?_); rotate_left; (· exact rfl); (· kernel_rfl); (· intro w2; go_simp; try with_reducible rfl))
        (try simp only [Act.put, List.setIfInBounds_toArray, List.set_cons_zero, List.set_cons_succ])
        ((with_reducible refine Ord.e_p (v := ?_) ?_ ?_ ?_ ?_); rotate_left; (· exact rfl); (· kernel_rfl); (· intro w2; go_simp; try with_reducible rfl))
        (try simp only [Act.put, List.setIfInBounds_toArray, List.set_cons_zero, List.set_cons_succ])
        ((with_reducible refine Ord.e_p (v := ?_) ?_ ?_ ?_ ?_); rotate_left; (· exact rfl); (· kernel_rfl); (· intro w2; go_simp; try with_reducible rfl))
        (try simp only [Act.put, List.setIfInBounds_toArray, List.set_cons_zero, List.set_cons_succ])
        refine Ord.e_load (ad := ⟨g1, off1 + k * 2, none⟩) Try.underlying3 rfl hc0d rfl (by kernel_rfl) (by kernel_rfl) ?_
        (try simp only [Act.put, List.setIfInBounds_toArray, List.set_cons_zero, List.set_cons_succ])
        ((with_reducible refine Ord.e_p (v := ?_) ?_ ?_ ?_ ?_); rotate_left; (· exact rfl); (· kernel_rfl); (· intro w2; go_simp; try with_reducible rfl))
        (try simp only [Act.put, List.setIfInBounds_toArray, List.set_cons_zero, List.set_cons_succ])
        ((with_reducible refine Ord.e_p (v := ?_) ?_ ?_ ?_ ?_); rotate_left; (· exact rfl); (· kernel_rfl); (· intro w2; go_simp; try with_reducible rfl))
        (try simp only [Act.put, List.setIfInBounds_toArray, List.set_cons_zero, List.set_cons_succ])
        ((with_reducible refine Ord.e_p (v := ?_) ?_ ?_ ?_ ?_); rotate_left; (· exact rfl); (· kernel_rfl); (· intro w2; go_simp; try with_reducible rfl))
        (try simp only [Act.put, List.setIfInBounds_toArray, List.set_cons_zero, List.set_cons_succ])
        ((with_reducible refine Ord.e_p (v := ?_) ?_ ?_ ?_ ?_); rotate_left; (· exact rfl); (· kernel_rfl); (· intro w2; go_simp; try with_reducible rfl))
        (try simp only [Act.put, List.setIfInBounds_toArray, List.set_cons_zero, List.set_cons_succ])
        refine Ord.e_load (ad := ⟨g1, off1 + k * 2 + 1, none⟩) Try.underlying5 rfl hc1d rfl (by kernel_rfl) (by kernel_rfl) ?_
        (try simp only [Act.put, List.setIfInBounds_toArray, List.set_cons_zero, List.set_cons_succ])
        ((with_reducible refine Ord.e_p (v := ?_) ?_ ?_ ?_ ?_); rotate_left; (· exact rfl); (· kernel_rfl); (· intro w2; go_simp; try with_reducible rfl))
        (try simp only [Act.put, List.setIfInBounds_toArray, List.set_cons_zero, List.set_cons_succ])
        have hxc : ∃ u, wr.drew.cell? ⟨g, p, none⟩ = some u := by
          have hlo : p < o.length := by rw [ho.out]; exact hp
          have := own.cellAt p (by omega)
          rw [bv_at (List.getElem?_eq_getElem hlo)] at this
          exact ⟨_, this⟩
        obtain ⟨u, hxc⟩ := hxc
        have hfz : wr.drew.frozen? ⟨g, p, none⟩ = false := own.frozenAt p
        refine Ord.e_x rfl (by kernel_rfl) ?_
        go_wp2_with fail
        refine Ord.Seg.go trivial (fun h => by cases h) ?_
        (try simp only [Act.put, List.setIfInBounds_toArray, List.set_cons_zero, List.set_cons_succ])
        refine Ord.e_nil ?_
        have hst := own.stored p (Value.int .u8 (b.toNat : Int))
        rw [← bv_set] at hst
        have hs' := (hs.setCell (p := ⟨g, p, none⟩) hg (Value.int .u8 (b.toNat : Int))).drew
        have ho' : Hid ((o.set p b).length = n2) := Lib.hid (by rw [List.length_set]; exact ho.out)
        clear hc0 hc1 hc0d hc1d hxc hfz own hs hbw
        go_wp2
        go_roundw
        case rel => exact ⟨k + 1, o.set p b, by omega, by go_num, ho', hst.1, hs'⟩
        case measure => simp [intOf]; omega
      · rcases (by omega : z < 0 ∨ (0 ≤ z ∧ (n2 : Int) ≤ z)) with hz0 | ⟨hz0, hz1⟩
        · have hz0' : ¬ (0 : Int) ≤ z := by omega
          clear hz
          go_wp2
          go_roundw
          case rel => exact ⟨k + 1, o, by omega, by go_num, ho, own, hs⟩
          case measure => simp [intOf]; omega
        · have hz1' : ¬ z < (n2 : Int) := by omega
          clear hz
          go_wp2
          go_roundw
          case rel => exact ⟨k + 1, o, by omega, by go_num, ho, own, hs⟩
          case measure => simp [intOf]; omega
    · obtain rfl : k = n1 := by omega
      have hr3 := Rd.own own
      have hr23 := hr2.nx hs
      have hb3 := bnx hb2 hs
      have hle3 := hr3.le
      have hmx3 := hr3.max
      unfold maxLen at hmx3
      obtain ⟨N, hN⟩ : ∃ v, v = Bs.length := ⟨_, rfl⟩
      have hRd := read37_any A3 n2 c3 wr.heap.size o wr hr3 (Nat.le_refl _) (by omega)
      rw [show n2 / 256 = N by have := Hn2.out; omega] at hRd
      have HRd := Lib.hid hRd
      have hN2 : n2 ≤ 256 * N := by rw [hN]; exact Nat.le_of_eq Hn2.out
      have hN3 : 256 * N ≤ n2 := by rw [hN]; exact Nat.le_of_eq Hn2.out.symm
      have HNB := Lib.hid hN
      clear own hs hRd hN
      go_wp2_with fail
      go_fit HRd.out
      unfold RetRd
      rintro e w4 ⟨A4, n4, c4, A5, n5, c5, rfl, hr4, hi5, hbx⟩
      have hb4 := bnx hb3 hbx
      have hr24 := hr23.nx hbx
      have hr34 := hr3.nx hbx
      have hl4 := RdC.len hr4
      have hl5 := RdI.len hi5
      have Hl4 := Lib.hid hl4
      have Hl5 := Lib.hid hl5
      have hle5 := hi5.2.2.1
      have hmx5 := hi5.2.2.2.1
      unfold maxLen at hmx5
      clear hbx hr23 hr3 hb3 HRd hl4 hl5 hC hr2
      go_wp2_with fail
      go_loopw [13, 14, 15] (fun a b i wr => ∃ (k n6 c6 at_ : Nat) (A6 : Option Addr), k ≤ N ∧ at_ ≤ n5 ∧ n6 ≤ 255 * k ∧ i = .int .i64 k ∧ a = .slice A6 n6 c6 ∧ b = .int .i64 (at_ : Int) ∧ wr.ownsRow w4.heap.size 25 13 (.slice A6 n6 c6) n6 ((readS o k).1.map rcR).flatten ∧ Below w4.heap.size w4 wr ∧ Hid ((readS o k).1.length = n6) ∧ Hid (at_ = (readS o k).2.length)) (fun _ _ i _ => N - (intOf i).toNat)
      case atStart => exact ⟨0, 0, 0, 0, none, by omega, by omega, by omega, rfl, rfl, rfl, World.ownsRow_nil _ _ _ _, Below.refl _ _, Lib.hid rfl, Lib.hid rfl⟩
      case round =>
        obtain ⟨i, n6, c6, at_, A6, hi, hat5, hn6, rfl, rfl, rfl, own6, hs6, hl6, Hat_⟩ := hrel
        have hbw := bnx hb4 hs6
        by_cases hlt : i < N
        · have hlt' : (256 * (i : Int)) < (n2 : Int) := by omega
          have h3 : 256 * i + 256 ≤ n2 := by omega
          have hwk : IntKind.i64.wrap (256 * (i : Int)) = 256 * (i : Int) := IntWalk.i64_in _ (by omega)
          have hwk2 : IntKind.i64.wrap (256 * (i : Int) + 256) = 256 * (i : Int) + 256 := IntWalk.i64_in _ (by omega)
          obtain ⟨L, hL⟩ : ∃ L, Bs[i]? = some L := ⟨_, List.getElem?_eq_getElem (by rw [← HNB.out]; exact hlt)⟩
          have hat := Hat.out i L hL
          rw [Nat.zero_add] at hat
          obtain ⟨q1, q2, _⟩ := HBs.out i L hL
          obtain ⟨t1, t2, t3, t4⟩ := blk_there (no := i) (show i < 4294967296 by omega) q1.1 (logQ_put q1 q2)
          have HT := Lib.hid (And.intro t1 (And.intro t2 (And.intro t3 t4)))
          have hwas : ∀ w', Below w4.heap.size w4 w' → Rd w' w'.heap.size 1 (cutA A2 c2 (256 * i) 1) 256 (c2 - 256 * i) (bv (putB i L)) := fun w' hb' => by
            have h2 := ((hr24.nx hb').bdrop (k := 256 * i) (by omega)).btake (k := 256) (by omega)
            rwa [hat] at h2
          have his : ∀ w', Below w4.heap.size w4 w' → Rd w' w'.heap.size 1 (cutA A3 c3 (256 * i) 1) 256 (c3 - 256 * i) (bv (pgR o i)) := fun w' hb' => ((hr34.nx hb').bdrop (k := 256 * i) (by omega)).btake (k := 256) (by omega)
          have Hwas := Lib.hid hwas
          have His := Lib.hid his
          have hcut : ∀ w, (Instr.slice 26 (.slice A2 n2 c2) (some (.int .i64 (256 * (i : Int)))) (some (.int .i64 (256 * (i : Int) + 256))) none).run Try.prog w = .ok (.slice (cutA A2 c2 (256 * i) 1) 256 (c2 - 256 * i)) w := fun w => by
            have := run_cut_lh (P := Try.prog) Try.underlying26 Hi.out.1 Hi.out.2.2.1 A2 n2 c2 (256 * i) (256 * i + 256) (by omega) (by omega) w
            rwa [show ((256 * i : Nat) : Int) = 256 * (i : Int) by omega, show ((256 * i + 256 : Nat) : Int) = 256 * (i : Int) + 256 by omega, show 256 * i + 256 - 256 * i = 256 by omega] at this
          have hcut3 : ∀ w, (Instr.slice 26 (.slice A3 n2 c3) (some (.int .i64 (256 * (i : Int)))) (some (.int .i64 (256 * (i : Int) + 256))) none).run Try.prog w = .ok (.slice (cutA A3 c3 (256 * i) 1) 256 (c3 - 256 * i)) w := fun w => by
            have := run_cut_lh (P := Try.prog) Try.underlying26 Hi.out.1 Hi.out.2.2.1 A3 n2 c3 (256 * i) (256 * i + 256) (by omega) (by omega) w
            rwa [show ((256 * i : Nat) : Int) = 256 * (i : Int) by omega, show ((256 * i + 256 : Nat) : Int) = 256 * (i : Int) + 256 by omega, show 256 * i + 256 - 256 * i = 256 by omega] at this
          have htk := qblkTake_any (cutA A2 c2 (256 * i) 1) 256 (c2 - 256 * i) wr.heap.size (putB i L) wr (hwas wr hs6) (Nat.le_refl _) (by omega)
          unfold RetTBk at htk
          rw [t1, t2, t3] at htk
          have Htk := Lib.hid htk
          have hgh := fun (k : Nat) => @good_here o N i k
          have hbh := @bad_here o N i hlt
          have Hgb := Lib.hid (And.intro hgh hbh)
          have Hg := Lib.hid (@readS_good o i)
          have Hbd := Lib.hid (@readS_bad o i)
          clear hat q1 q2 t1 t2 t3 t4 htk hwas his hgh hbh hL
          go_wp2_with fail
          go_fit Htk.out
          rintro e w7 ⟨A7, n7, c7, rfl, hr7, hbx⟩
          have hbn : Below w7.heap.size w7 (w7.alloc (.cells #[.int .u32 (i : Int), .slice A7 n7 c7] 41)) := (Below.refl _ _).alloc (Nat.le_refl _) _
          have a0 := heap_alloc_new w7 (.cells #[.int .u32 (i : Int), .slice A7 n7 c7] 41)
          have hs7 := bnx (bnx hs6 hbx) hbn
          replace own6 := own_up (own_up own6 hbx (Nat.le_refl _)) hbn (Nat.le_refl _)
          replace hr7 : RdE _ _ A7 n7 c7 L := RdR.nx hr7 hbn
          clear Htk hbx hbn hs6 hbw
          have hbw := bnx hb4 hs7
          have hat_ := Hat_.out
          have hbl := bads_le (l := o) (N := N) (i := i + 1) (by omega)
          rw [Hl5.out] at hbl
          have Hbl := Lib.hid hbl
          clear hbl
          by_cases hg : goodR (pgR o i) i
          · have hlt5 : ∀ (h : at_ < n5), ∃ y : Nat, (readS o N).2[at_]? = some y ∧ y ≠ i := fun h => by
              have hlo : at_ < (readS o N).2.length := by rw [Hl5.out]; exact h
              exact ⟨_, List.getElem?_eq_getElem hlo, Hgb.out.1 _ (by omega) hg (by rw [← hat_]; exact List.getElem?_eq_getElem hlo)⟩
            clear hat_
            by_cases hat5 : at_ < n5
            · have hat5' : (at_ : Int) < (n5 : Int) := by omega
              obtain ⟨g5, off5, x, rfl, hg5, hx5, hc5⟩ := RdI.at_ hi5 hat5
              obtain ⟨y, hy, hyi⟩ := hlt5 hat5
              rw [hy] at hx5
              injection hx5 with hx5
              subst hx5
              have hc8 := (hs7.cell (p := ⟨g5, off5 + at_, none⟩) hg5).trans hc5
              have hyi' : ¬ (y : Int) = (i : Int) := by omega
              have hyq : ((y : Int) == (i : Int)) = false := by rw [beq_eq_false_iff_ne]; exact hyi'
              clear hlt5 hc5 hy
              by_cases heq : putB i L = pgR o i
              · go_wp2_with fail
                generalize (w7.alloc (.cells #[.int .u32 (i : Int), .slice A7 n7 c7] 41)) = w8 at *
                generalize w7.heap.size = gb at *
                have htk2 := qblkTake_any (cutA A3 c3 (256 * i) 1) 256 (c3 - 256 * i) w8.heap.size (pgR o i) w8 (His.out w8 hs7) (Nat.le_refl _) (by omega)
                unfold RetTBk at htk2
                rw [hg.1, hg.2, show ((0 : Nat) : Int) = 0 from rfl] at htk2
                have Htk2 := Lib.hid htk2
                clear htk2
                go_fit Htk2.out
                rintro e w9 ⟨A9, n9, c9, rfl, hr9, hbx⟩
                have hbn : Below w9.heap.size w9 (w9.alloc (.cells #[.int .u32 (i : Int), .slice A9 n9 c9] 41)) := (Below.refl _ _).alloc (Nat.le_refl _) _
                have a1 := heap_alloc_new w9 (.cells #[.int .u32 (i : Int), .slice A9 n9 c9] 41)
                replace a0 := blk_old (blk_old a0 hbx (blk_lt a0)) hbn (blk_lt (blk_old a0 hbx (blk_lt a0)))
                have hs9 := bnx (bnx hs7 hbx) hbn
                replace own6 := own_up (own_up own6 hbx (Nat.le_refl _)) hbn (Nat.le_refl _)
                replace hr7 : RdE _ _ A7 n7 c7 L := RdR.nx (RdR.nx hr7 hbx) hbn
                replace hr9 : RdE _ _ A9 n9 c9 (blkL (pgR o i)) := RdR.nx hr9 hbn
                have k0 := blk_cell (i := 0) (v := .int .u32 (i : Int)) a1 rfl
                have k1 := blk_cell (i := 1) (v := .slice A9 n9 c9) a1 rfl
                have m0 := blk_cell (i := 0) (v := .int .u32 (i : Int)) a0 rfl
                have m1 := blk_cell (i := 1) (v := .slice A7 n7 c7) a0 rfl
                have v2 := run_str (w9.alloc (.cells #[.int .u32 (i : Int), .slice A9 n9 c9] 41)) 26 9 5 Try.underlying26 Try.underlying5 Try.underlying9 (Hwas.out _ hs9)
                have v3 := run_str (w9.alloc (.cells #[.int .u32 (i : Int), .slice A9 n9 c9] 41)) 26 9 5 Try.underlying26 Try.underlying5 Try.underlying9 (His.out _ hs9)
                clear hbx hbn Htk2 hs7
                have heL : blkL (pgR o i) = L := by rw [← heq]; exact HT.out.2.2.1
                have hsm := same35_any i A9 n9 c9 i A7 n7 c7 (blkL (pgR o i)) L (w9.alloc (.cells #[.int .u32 (i : Int), .slice A9 n9 c9] 41)).heap.size (w9.alloc (.cells #[.int .u32 (i : Int), .slice A9 n9 c9] 41)) hr9 hr7 (Nat.le_refl _)
                rw [decide_eq_true (⟨rfl, heL⟩ : i = i ∧ blkL (pgR o i) = L)] at hsm
                have Hsm := Lib.hid hsm
                rw [heq] at v2
                clear hsm heL hr7
                go_wp2_with fail
                go_fit Hsm.out
                rintro e w10 ⟨rfl, hbx⟩
                have hs10 := bnx hs9 hbx
                replace own6 := own_up own6 hbx (Nat.le_refl _)
                replace hr9 : RdE _ _ A9 n9 c9 (blkL (pgR o i)) := RdR.nx hr9 hbx
                replace a1 := blk_old a1 hbx (blk_lt a1)
                clear k0 k1 m0 m1 v2 v3 a0 hs9 hbx Hsm
                have k0 := blk_cell (i := 0) (v := .int .u32 (i : Int)) a1 rfl
                have k1 := blk_cell (i := 1) (v := .slice A9 n9 c9) a1 rfl
                have hnE := RdE.len hr9
                have Hq := Lib.hid (blk_q (s := pgR o i))
                have hn255 : n9 ≤ 255 := by rw [← hnE]; exact Hq.out.2
                have HG := Lib.hid (Hg.out hg)
                have hrs := qrecords_any i A9 n9 c9 w10.heap.size (blkL (pgR o i)) w10 hr9 (Nat.le_refl _) (by omega)
                have Hrs := Lib.hid hrs
                clear hrs
                go_wp2_with fail
                go_fit Hrs.out
                unfold RetRs
                rintro e w11 ⟨A11, n11, c11, rfl, hn11, own11, hbx⟩
                rw [List.length_map, hnE] at hn11
                subst hn11
                replace own6 := own_up own6 hbx (Nat.le_refl _)
                have hs11 := bnx hs10 hbx
                have hrc11 := RdC.own own11 (by rw [List.length_map, hnE]) Hq.out.1
                have Hflat := Lib.hid (show ((readS o i).1.map rcR).flatten ++ (((blkL (pgR o i)).map recE).map rcR).flatten = ((readS o (i + 1)).1.map rcR).flatten by rw [HG.out, List.map_append, List.flatten_append])
                have Hln := Lib.hid (show (readS o (i + 1)).1.length = n6 + n11 by rw [HG.out, List.length_append, hl6.out, List.length_map, hnE])
                have H2 := Lib.hid (show at_ = (readS o (i + 1)).2.length by rw [HG.out, Hat_.out])
                clear hbx own11 hs10 Hrs k0 k1 a1 hr9 hnE
                go_wp2_with (at_builtin; refine stop_ ?_)
                refine go_ (wpList_app (base := w4.heap.size) (n := n6) Try.underlying58 Hi1.out (by kernel_rfl) (by omega) own6 rfl (RdR.rd hrc11 (by omega)) rfl (rcR_one _) (k := n6 + n11) rfl Hflat.out (by unfold maxLen; omega) (by omega) hs11.size ?_)
                intro A12 c12 w12 own12 hup12
                have hs12 : Below w4.heap.size w4 w12 := hup12 hs11 hs11.size (Nat.le_refl _)
                clear hup12 own6 hrc11 hs11
                go_wp2
                go_roundw
                case rel => exact ⟨i + 1, n6 + n11, c12, at_, A12, by omega, by have := Hbl.out; have := H2.out; omega, by omega, by go_num, rfl, rfl, own12, hs12, Hln, H2⟩
                case measure => simp [intOf]; omega
              · have hse : (putB i L == pgR o i) = false := by rw [beq_eq_false_iff_ne]; exact heq
                go_wp2_with fail
                generalize (w7.alloc (.cells #[.int .u32 (i : Int), .slice A7 n7 c7] 41)) = w8 at *
                generalize w7.heap.size = gb at *
                have htk2 := qblkTake_any (cutA A3 c3 (256 * i) 1) 256 (c3 - 256 * i) w8.heap.size (pgR o i) w8 (His.out w8 hs7) (Nat.le_refl _) (by omega)
                unfold RetTBk at htk2
                rw [hg.1, hg.2, show ((0 : Nat) : Int) = 0 from rfl] at htk2
                have Htk2 := Lib.hid htk2
                clear htk2
                go_fit Htk2.out
                rintro e w9 ⟨A9, n9, c9, rfl, hr9, hbx⟩
                have hbn : Below w9.heap.size w9 (w9.alloc (.cells #[.int .u32 (i : Int), .slice A9 n9 c9] 41)) := (Below.refl _ _).alloc (Nat.le_refl _) _
                have a1 := heap_alloc_new w9 (.cells #[.int .u32 (i : Int), .slice A9 n9 c9] 41)
                replace a0 := blk_old (blk_old a0 hbx (blk_lt a0)) hbn (blk_lt (blk_old a0 hbx (blk_lt a0)))
                have hs9 := bnx (bnx hs7 hbx) hbn
                replace own6 := own_up (own_up own6 hbx (Nat.le_refl _)) hbn (Nat.le_refl _)
                replace hr7 : RdE _ _ A7 n7 c7 L := RdR.nx (RdR.nx hr7 hbx) hbn
                replace hr9 : RdE _ _ A9 n9 c9 (blkL (pgR o i)) := RdR.nx hr9 hbn
                have k0 := blk_cell (i := 0) (v := .int .u32 (i : Int)) a1 rfl
                have k1 := blk_cell (i := 1) (v := .slice A9 n9 c9) a1 rfl
                have m0 := blk_cell (i := 0) (v := .int .u32 (i : Int)) a0 rfl
                have m1 := blk_cell (i := 1) (v := .slice A7 n7 c7) a0 rfl
                have v2 := run_str (w9.alloc (.cells #[.int .u32 (i : Int), .slice A9 n9 c9] 41)) 26 9 5 Try.underlying26 Try.underlying5 Try.underlying9 (Hwas.out _ hs9)
                have v3 := run_str (w9.alloc (.cells #[.int .u32 (i : Int), .slice A9 n9 c9] 41)) 26 9 5 Try.underlying26 Try.underlying5 Try.underlying9 (His.out _ hs9)
                clear hbx hbn Htk2 hs7
                have hs10 := hs9
                clear hs9 m0 m1 a0 hr7
                go_wp2_with fail
                generalize (w9.alloc (.cells #[.int .u32 (i : Int), .slice A9 n9 c9] 41)) = w10 at *
                have hnE := RdE.len hr9
                have Hq := Lib.hid (blk_q (s := pgR o i))
                have hn255 : n9 ≤ 255 := by rw [← hnE]; exact Hq.out.2
                have HG := Lib.hid (Hg.out hg)
                have hrs := qrecords_any i A9 n9 c9 w10.heap.size (blkL (pgR o i)) w10 hr9 (Nat.le_refl _) (by omega)
                have Hrs := Lib.hid hrs
                clear hrs
                go_fit Hrs.out
                unfold RetRs
                rintro e w11 ⟨A11, n11, c11, rfl, hn11, own11, hbx⟩
                rw [List.length_map, hnE] at hn11
                subst hn11
                replace own6 := own_up own6 hbx (Nat.le_refl _)
                have hs11 := bnx hs10 hbx
                have hrc11 := RdC.own own11 (by rw [List.length_map, hnE]) Hq.out.1
                have Hflat := Lib.hid (show ((readS o i).1.map rcR).flatten ++ (((blkL (pgR o i)).map recE).map rcR).flatten = ((readS o (i + 1)).1.map rcR).flatten by rw [HG.out, List.map_append, List.flatten_append])
                have Hln := Lib.hid (show (readS o (i + 1)).1.length = n6 + n11 by rw [HG.out, List.length_append, hl6.out, List.length_map, hnE])
                have H2 := Lib.hid (show at_ = (readS o (i + 1)).2.length by rw [HG.out, Hat_.out])
                clear hbx own11 hs10 Hrs k0 k1 a1 hr9 hnE
                go_wp2_with (at_builtin; refine stop_ ?_)
                refine go_ (wpList_app (base := w4.heap.size) (n := n6) Try.underlying58 Hi1.out (by kernel_rfl) (by omega) own6 rfl (RdR.rd hrc11 (by omega)) rfl (rcR_one _) (k := n6 + n11) rfl Hflat.out (by unfold maxLen; omega) (by omega) hs11.size ?_)
                intro A12 c12 w12 own12 hup12
                have hs12 : Below w4.heap.size w4 w12 := hup12 hs11 hs11.size (Nat.le_refl _)
                clear hup12 own6 hrc11 hs11
                go_wp2
                go_roundw
                case rel => exact ⟨i + 1, n6 + n11, c12, at_, A12, by omega, by have := Hbl.out; have := H2.out; omega, by omega, by go_num, rfl, rfl, own12, hs12, Hln, H2⟩
                case measure => simp [intOf]; omega
            · have hat5' : ¬ (at_ : Int) < (n5 : Int) := by omega
              clear hlt5
              by_cases heq : putB i L = pgR o i
              · go_wp2_with fail
                generalize (w7.alloc (.cells #[.int .u32 (i : Int), .slice A7 n7 c7] 41)) = w8 at *
                generalize w7.heap.size = gb at *
                have htk2 := qblkTake_any (cutA A3 c3 (256 * i) 1) 256 (c3 - 256 * i) w8.heap.size (pgR o i) w8 (His.out w8 hs7) (Nat.le_refl _) (by omega)
                unfold RetTBk at htk2
                rw [hg.1, hg.2, show ((0 : Nat) : Int) = 0 from rfl] at htk2
                have Htk2 := Lib.hid htk2
                clear htk2
                go_fit Htk2.out
                rintro e w9 ⟨A9, n9, c9, rfl, hr9, hbx⟩
                have hbn : Below w9.heap.size w9 (w9.alloc (.cells #[.int .u32 (i : Int), .slice A9 n9 c9] 41)) := (Below.refl _ _).alloc (Nat.le_refl _) _
                have a1 := heap_alloc_new w9 (.cells #[.int .u32 (i : Int), .slice A9 n9 c9] 41)
                replace a0 := blk_old (blk_old a0 hbx (blk_lt a0)) hbn (blk_lt (blk_old a0 hbx (blk_lt a0)))
                have hs9 := bnx (bnx hs7 hbx) hbn
                replace own6 := own_up (own_up own6 hbx (Nat.le_refl _)) hbn (Nat.le_refl _)
                replace hr7 : RdE _ _ A7 n7 c7 L := RdR.nx (RdR.nx hr7 hbx) hbn
                replace hr9 : RdE _ _ A9 n9 c9 (blkL (pgR o i)) := RdR.nx hr9 hbn
                have k0 := blk_cell (i := 0) (v := .int .u32 (i : Int)) a1 rfl
                have k1 := blk_cell (i := 1) (v := .slice A9 n9 c9) a1 rfl
                have m0 := blk_cell (i := 0) (v := .int .u32 (i : Int)) a0 rfl
                have m1 := blk_cell (i := 1) (v := .slice A7 n7 c7) a0 rfl
                have v2 := run_str (w9.alloc (.cells #[.int .u32 (i : Int), .slice A9 n9 c9] 41)) 26 9 5 Try.underlying26 Try.underlying5 Try.underlying9 (Hwas.out _ hs9)
                have v3 := run_str (w9.alloc (.cells #[.int .u32 (i : Int), .slice A9 n9 c9] 41)) 26 9 5 Try.underlying26 Try.underlying5 Try.underlying9 (His.out _ hs9)
                clear hbx hbn Htk2 hs7
                have heL : blkL (pgR o i) = L := by rw [← heq]; exact HT.out.2.2.1
                have hsm := same35_any i A9 n9 c9 i A7 n7 c7 (blkL (pgR o i)) L (w9.alloc (.cells #[.int .u32 (i : Int), .slice A9 n9 c9] 41)).heap.size (w9.alloc (.cells #[.int .u32 (i : Int), .slice A9 n9 c9] 41)) hr9 hr7 (Nat.le_refl _)
                rw [decide_eq_true (⟨rfl, heL⟩ : i = i ∧ blkL (pgR o i) = L)] at hsm
                have Hsm := Lib.hid hsm
                rw [heq] at v2
                clear hsm heL hr7
                go_wp2_with fail
                go_fit Hsm.out
                rintro e w10 ⟨rfl, hbx⟩
                have hs10 := bnx hs9 hbx
                replace own6 := own_up own6 hbx (Nat.le_refl _)
                replace hr9 : RdE _ _ A9 n9 c9 (blkL (pgR o i)) := RdR.nx hr9 hbx
                replace a1 := blk_old a1 hbx (blk_lt a1)
                clear k0 k1 m0 m1 v2 v3 a0 hs9 hbx Hsm
                have k0 := blk_cell (i := 0) (v := .int .u32 (i : Int)) a1 rfl
                have k1 := blk_cell (i := 1) (v := .slice A9 n9 c9) a1 rfl
                have hnE := RdE.len hr9
                have Hq := Lib.hid (blk_q (s := pgR o i))
                have hn255 : n9 ≤ 255 := by rw [← hnE]; exact Hq.out.2
                have HG := Lib.hid (Hg.out hg)
                have hrs := qrecords_any i A9 n9 c9 w10.heap.size (blkL (pgR o i)) w10 hr9 (Nat.le_refl _) (by omega)
                have Hrs := Lib.hid hrs
                clear hrs
                go_wp2_with fail
                go_fit Hrs.out
                unfold RetRs
                rintro e w11 ⟨A11, n11, c11, rfl, hn11, own11, hbx⟩
                rw [List.length_map, hnE] at hn11
                subst hn11
                replace own6 := own_up own6 hbx (Nat.le_refl _)
                have hs11 := bnx hs10 hbx
                have hrc11 := RdC.own own11 (by rw [List.length_map, hnE]) Hq.out.1
                have Hflat := Lib.hid (show ((readS o i).1.map rcR).flatten ++ (((blkL (pgR o i)).map recE).map rcR).flatten = ((readS o (i + 1)).1.map rcR).flatten by rw [HG.out, List.map_append, List.flatten_append])
                have Hln := Lib.hid (show (readS o (i + 1)).1.length = n6 + n11 by rw [HG.out, List.length_append, hl6.out, List.length_map, hnE])
                have H2 := Lib.hid (show at_ = (readS o (i + 1)).2.length by rw [HG.out, Hat_.out])
                clear hbx own11 hs10 Hrs k0 k1 a1 hr9 hnE
                go_wp2_with (at_builtin; refine stop_ ?_)
                refine go_ (wpList_app (base := w4.heap.size) (n := n6) Try.underlying58 Hi1.out (by kernel_rfl) (by omega) own6 rfl (RdR.rd hrc11 (by omega)) rfl (rcR_one _) (k := n6 + n11) rfl Hflat.out (by unfold maxLen; omega) (by omega) hs11.size ?_)
                intro A12 c12 w12 own12 hup12
                have hs12 : Below w4.heap.size w4 w12 := hup12 hs11 hs11.size (Nat.le_refl _)
                clear hup12 own6 hrc11 hs11
                go_wp2
                go_roundw
                case rel => exact ⟨i + 1, n6 + n11, c12, at_, A12, by omega, by have := Hbl.out; have := H2.out; omega, by omega, by go_num, rfl, rfl, own12, hs12, Hln, H2⟩
                case measure => simp [intOf]; omega
              · have hse : (putB i L == pgR o i) = false := by rw [beq_eq_false_iff_ne]; exact heq
                go_wp2_with fail
                generalize (w7.alloc (.cells #[.int .u32 (i : Int), .slice A7 n7 c7] 41)) = w8 at *
                generalize w7.heap.size = gb at *
                have htk2 := qblkTake_any (cutA A3 c3 (256 * i) 1) 256 (c3 - 256 * i) w8.heap.size (pgR o i) w8 (His.out w8 hs7) (Nat.le_refl _) (by omega)
                unfold RetTBk at htk2
                rw [hg.1, hg.2, show ((0 : Nat) : Int) = 0 from rfl] at htk2
                have Htk2 := Lib.hid htk2
                clear htk2
                go_fit Htk2.out
                rintro e w9 ⟨A9, n9, c9, rfl, hr9, hbx⟩
                have hbn : Below w9.heap.size w9 (w9.alloc (.cells #[.int .u32 (i : Int), .slice A9 n9 c9] 41)) := (Below.refl _ _).alloc (Nat.le_refl _) _
                have a1 := heap_alloc_new w9 (.cells #[.int .u32 (i : Int), .slice A9 n9 c9] 41)
                replace a0 := blk_old (blk_old a0 hbx (blk_lt a0)) hbn (blk_lt (blk_old a0 hbx (blk_lt a0)))
                have hs9 := bnx (bnx hs7 hbx) hbn
                replace own6 := own_up (own_up own6 hbx (Nat.le_refl _)) hbn (Nat.le_refl _)
                replace hr7 : RdE _ _ A7 n7 c7 L := RdR.nx (RdR.nx hr7 hbx) hbn
                replace hr9 : RdE _ _ A9 n9 c9 (blkL (pgR o i)) := RdR.nx hr9 hbn
                have k0 := blk_cell (i := 0) (v := .int .u32 (i : Int)) a1 rfl
                have k1 := blk_cell (i := 1) (v := .slice A9 n9 c9) a1 rfl
                have m0 := blk_cell (i := 0) (v := .int .u32 (i : Int)) a0 rfl
                have m1 := blk_cell (i := 1) (v := .slice A7 n7 c7) a0 rfl
                have v2 := run_str (w9.alloc (.cells #[.int .u32 (i : Int), .slice A9 n9 c9] 41)) 26 9 5 Try.underlying26 Try.underlying5 Try.underlying9 (Hwas.out _ hs9)
                have v3 := run_str (w9.alloc (.cells #[.int .u32 (i : Int), .slice A9 n9 c9] 41)) 26 9 5 Try.underlying26 Try.underlying5 Try.underlying9 (His.out _ hs9)
                clear hbx hbn Htk2 hs7
                have hs10 := hs9
                clear hs9 m0 m1 a0 hr7
                go_wp2_with fail
                generalize (w9.alloc (.cells #[.int .u32 (i : Int), .slice A9 n9 c9] 41)) = w10 at *
                have hnE := RdE.len hr9
                have Hq := Lib.hid (blk_q (s := pgR o i))
                have hn255 : n9 ≤ 255 := by rw [← hnE]; exact Hq.out.2
                have HG := Lib.hid (Hg.out hg)
                have hrs := qrecords_any i A9 n9 c9 w10.heap.size (blkL (pgR o i)) w10 hr9 (Nat.le_refl _) (by omega)
                have Hrs := Lib.hid hrs
                clear hrs
                go_fit Hrs.out
                unfold RetRs
                rintro e w11 ⟨A11, n11, c11, rfl, hn11, own11, hbx⟩
                rw [List.length_map, hnE] at hn11
                subst hn11
                replace own6 := own_up own6 hbx (Nat.le_refl _)
                have hs11 := bnx hs10 hbx
                have hrc11 := RdC.own own11 (by rw [List.length_map, hnE]) Hq.out.1
                have Hflat := Lib.hid (show ((readS o i).1.map rcR).flatten ++ (((blkL (pgR o i)).map recE).map rcR).flatten = ((readS o (i + 1)).1.map rcR).flatten by rw [HG.out, List.map_append, List.flatten_append])
                have Hln := Lib.hid (show (readS o (i + 1)).1.length = n6 + n11 by rw [HG.out, List.length_append, hl6.out, List.length_map, hnE])
                have H2 := Lib.hid (show at_ = (readS o (i + 1)).2.length by rw [HG.out, Hat_.out])
                clear hbx own11 hs10 Hrs k0 k1 a1 hr9 hnE
                go_wp2_with (at_builtin; refine stop_ ?_)
                refine go_ (wpList_app (base := w4.heap.size) (n := n6) Try.underlying58 Hi1.out (by kernel_rfl) (by omega) own6 rfl (RdR.rd hrc11 (by omega)) rfl (rcR_one _) (k := n6 + n11) rfl Hflat.out (by unfold maxLen; omega) (by omega) hs11.size ?_)
                intro A12 c12 w12 own12 hup12
                have hs12 : Below w4.heap.size w4 w12 := hup12 hs11 hs11.size (Nat.le_refl _)
                clear hup12 own6 hrc11 hs11
                go_wp2
                go_roundw
                case rel => exact ⟨i + 1, n6 + n11, c12, at_, A12, by omega, by have := Hbl.out; have := H2.out; omega, by omega, by go_num, rfl, rfl, own12, hs12, Hln, H2⟩
                case measure => simp [intOf]; omega
          · have hx := Hgb.out.2 hg
            rw [← hat_] at hx
            have hat5 : at_ < n5 := by rw [← Hl5.out]; exact (List.getElem?_eq_some_iff.1 hx).1
            have hat5' : (at_ : Int) < (n5 : Int) := by omega
            obtain ⟨g5, off5, x, rfl, hg5, hx5, hc5⟩ := RdI.at_ hi5 hat5
            rw [hx] at hx5
            injection hx5 with hx5
            subst hx5
            have hc8 := (hs7.cell (p := ⟨g5, off5 + at_, none⟩) hg5).trans hc5
            have hwasr := Hwas.out _ hs7
            have hisr := His.out _ hs7
            have hdec : ¬ (putB i L = pgR o i) := fun e => hg (by rw [← e]; exact ⟨HT.out.1, HT.out.2.1⟩)
            have hb8 := Hbd.out hg
            have v2 := run_str _ 26 9 5 Try.underlying26 Try.underlying5 Try.underlying9 hwasr
            have v3 := run_str _ 26 9 5 Try.underlying26 Try.underlying5 Try.underlying9 hisr
            have hse : (putB i L == pgR o i) = false := by rw [beq_eq_false_iff_ne]; exact hdec
            have H2 := Lib.hid (show at_ + 1 = (readS o (i + 1)).2.length by rw [hb8, List.length_append, ← Hat_.out]; rfl)
            have H1 := Lib.hid (show (readS o (i + 1)).1 = (readS o i).1 by rw [hb8])
            have Hln := Lib.hid (show (readS o (i + 1)).1.length = n6 by rw [hb8]; exact hl6.out)
            rw [← H1.out] at own6
            clear hb8 hdec hwasr hisr hc5 hat_
            go_wp2
            go_roundw
            case rel => exact ⟨i + 1, n6, c6, at_ + 1, A6, by omega, by omega, by omega, by go_num, rfl, by go_num, own6, hs7, Hln, H2⟩
            case measure => simp [intOf]; omega
        · obtain rfl : i = N := by omega
          have hlt' : ¬ (256 * (i : Int)) < (n2 : Int) := by omega
          have hwk : IntKind.i64.wrap (256 * (i : Int)) = 256 * (i : Int) := IntWalk.i64_in _ (by omega)
          have hl5 : at_ = n5 := by rw [Hat_.out]; exact Hl5.out
          have hrc6 := RdC.own own6 hl6.out (readS_12 o i)
          have hr46 : RdC _ _ A4 n4 c4 _ := RdR.nx hr4 hs6
          subst hl5
          clear own6
          go_wp2_with fail
          go_fit (recs37_any A4 n4 c4 A6 n6 c6 (readS o i).1 (readS o i).1 wr.heap.size wr hr46 hrc6 (Nat.le_refl _))
          rintro e w7 ⟨rfl, hbx⟩
          rw [show decide ((readS o i).1 = (readS o i).1) = true from decide_eq_true rfl]
          have hb7 := bnx hbw hbx
          clear hbx
          go_wp2
          go_ret
          exact ⟨rfl, hb7⟩

end Go.Proofs.Ytplgcfjcdjlnbaa
