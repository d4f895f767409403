/-
  RescueBurst walked (printed by gen_resc9.py).
-/
import Derived.Test.YtplgcfjcdjlnbaaKRescBs
import Derived.Test.YtplgcfjcdjlnbaaKCrcTurn
import Derived.Test.YtplgcfjcdjlnbaaKGT
set_option linter.unusedSimpArgs false
set_option linter.unusedVariables false
namespace Go.Proofs.Ytplgcfjcdjlnbaa
open Go.RowKit NumLaw CrcLaw
attribute [local go_sem] Addr.add_mid

theorem setP_same {l : List UInt8} {i : Nat} : setP l i (pgR l i) = l := by
  unfold setP pgR
  have h1 : l.drop (256 * i + 256) = (l.drop (256 * i)).drop 256 := by rw [List.drop_drop]
  rw [h1, List.take_append_drop, List.take_append_drop]
/-- Of a log of which one page was changed to one that is none. -/
theorem burst_read {ev : Nat} {Bs : List (List En)} (e2 : BsOK ev 0 Bs) (hn : Bs.length < 4294967296) {i : Nat} {L : List En} {o : List UInt8} (hi : Bs[i]? = some L) (ho : o.length = 256) (hE : blkE o ≠ 0) :
    (readS (setP (catB 0 Bs) i o) Bs.length).2 = [i] ∧ (readS (setP (catB 0 Bs) i o) Bs.length).1.length + L.length = Bs.flatten.length := by
  have hib : i < Bs.length := (List.getElem?_eq_some_iff.1 hi).1
  have hl := catB_len Bs 0 0 e2 (by omega)
  have r0 := readS_cat e2 hn i (by omega)
  have r1 := readS_cat e2 hn (i + 1) (by omega)
  have rN := readS_cat e2 hn Bs.length (Nat.le_refl _)
  have hs : readS (catB 0 Bs) (i + 1) = ((readS (catB 0 Bs) i).1 ++ L.map recE, (readS (catB 0 Bs) i).2) := by
    rw [r0, r1, take_succ hi]
    simp
  obtain ⟨h1, h2⟩ := readS_set_high (l := catB 0 Bs) (i := i) ho (by omega) hE hs (Bs.length - (i + 1))
  rw [show i + 1 + (Bs.length - (i + 1)) = Bs.length by omega] at h1 h2
  refine ⟨h2 _ rfl (by rw [r0]) (by rw [rN]), ?_⟩
  rw [List.length_map] at h1
  rw [h1, rN, List.take_length, List.length_map]
theorem setP_len {l p : List UInt8} {i : Nat} (hp : p.length = 256) (hi : 256 * i + 256 ≤ l.length) : (setP l i p).length = l.length := by
  unfold setP
  rw [List.length_append, List.length_append, List.length_take, List.length_drop]
  omega

set_option maxRecDepth 10000 in
set_option maxHeartbeats 8000000 in
theorem rescueburst_any (ev : Int) (A : Option Addr) (n c : Nat) (R : List (Nat × List Int)) (t : Int) (m : Nat) (q : Int) (w : World) (hev : -9223372036854775808 ≤ ev ∧ ev ≤ 9223372036854775807) (h : RdC w w.heap.size A n c R) (hq : ∀ p ∈ R, RcQ p) (ht : -9223372036854775808 ≤ t ∧ t ≤ 9223372036854775807) (hm : m < 65536) (hqq : -9223372036854775808 ≤ q ∧ q ≤ 9223372036854775807) :
    Calls Try.prog 18 #[.int .i64 ev, .slice A n c, .int .i64 t, .int .u16 (m : Int), .int .i64 q] w fun e w' => e = .returned (.bool true) ∧ Below w.heap.size w w' := by
  have hmx := h.2.2.2.1
  have hle := h.2.2.1
  unfold maxLen at hmx
  by_cases hn : 40 < n
  · have hn' : (40 : Int) < (n : Int) := by omega
    go_enter Try.func18, Try.ntmps18
    go_wp2_with fail
    go_fit (knows37 w)
    rintro e w1 ⟨rfl, hb1⟩
    go_wp2
    go_ret
    exact ⟨rfl, hb1⟩
  have hn' : ¬ (40 : Int) < (n : Int) := by omega
  by_cases hr : ev < 1 ∨ 255 < ev
  · go_enter Try.func18, Try.ntmps18
    go_wp2_with fail
    go_fit (knows37 w)
    rintro e w1 ⟨rfl, hb1⟩
    go_wp2_with fail
    go_fit (qwrite_no ev A n c w1 hr)
    rintro e w2 ⟨rfl, rfl⟩
    go_wp2
    go_ret
    exact ⟨rfl, hb1⟩
  obtain ⟨k, rfl⟩ : ∃ k : Nat, ev = k := ⟨ev.toNat, by omega⟩
  have hll := h.len
  obtain ⟨hrd, hwl⟩ := readS_wr (ev := k) hq (by omega)
  obtain ⟨Bs, e1, e2, e3, e4⟩ := wr_blocks (ev := k) hq (by omega)
  have hcl := catB_len Bs 0 0 e2 (by omega)
  have Hat := Lib.hid (fun i L (hi : Bs[i]? = some L) => catB_at Bs 0 i 0 L e2 (by omega) hi)
  have HBs := Lib.hid (fun i L (hi : Bs[i]? = some L) => BsOK_at Bs 0 i L e2 hi)
  have Hbr := Lib.hid (fun i L o (hi : Bs[i]? = some L) => @burst_read k Bs e2 (by omega) i L o hi)
  have Hw := Lib.hid (fun w1 (h1 : RdC w1 w.heap.size A n c R) hB => qwrite_any k A n c w.heap.size R w1 (by omega) (by omega) h1 hB hq (by omega))
  have hBn : Bs.length ≤ 41 := by omega
  have hfl : Bs.flatten.length = n := by rw [← hll, ← e3, List.length_map]
  rw [← e1] at hcl Hat Hbr
  have Hfl := Lib.hid hfl
  have Hrd := Lib.hid hrd
  generalize wrO k R = l at *
  have Hcl := Lib.hid hcl
  clear e1 e2 e3 e4 hcl hwl hrd hll hq hr hev hfl
  go_enter Try.func18, Try.ntmps18
  go_wp2_with fail
  go_fit (knows37 w)
  rintro e w1 ⟨rfl, hb1⟩
  go_wp2_with fail
  go_fit (Hw.out w1 (RdR.up h hb1) hb1.size)
  rintro e w2 ⟨A2, c2, n2, rfl, own2, hbx⟩
  have hl2 := own_len own2
  have hr2 := Rd.own own2
  have hb2 := bnx hb1 hbx
  clear own2 hbx hb1
  have hn2 : n2 = 256 * Bs.length := by rw [← hl2]; exact Hcl.out
  have Hn2 := Lib.hid hn2
  have hn2l : n2 ≤ 10496 := by omega
  have Hl2 := Lib.hid hl2
  clear hn2 hl2
  by_cases hq0 : q < 0 ∨ (n2 : Int) / 256 ≤ q
  · rcases (by omega : q < 0 ∨ (¬ q < 0 ∧ (n2 : Int) / 256 ≤ q)) with h1 | ⟨h1, h2⟩
    · go_wp2
      go_ret
      exact ⟨rfl, hb2⟩
    · have h3 : ¬ q < (n2 : Int) / 256 := by omega
      have h4 : 0 ≤ q := by omega
      go_wp2
      go_ret
      exact ⟨rfl, hb2⟩
  obtain ⟨i, rfl⟩ : ∃ i : Nat, q = i := ⟨q.toNat, by omega⟩
  have h1 : ¬ (i : Int) < 0 := by omega
  have h2 : ¬ (n2 : Int) / 256 ≤ (i : Int) := by omega
  have h2' : (i : Int) < (n2 : Int) / 256 := by omega
  have hiB : i < Bs.length := by have := Hn2.out; omega
  have h3 : 256 * i + 256 ≤ n2 := by have := Hn2.out; omega
  obtain ⟨L, hL⟩ : ∃ L, Bs[i]? = some L := ⟨_, List.getElem?_eq_getElem hiB⟩
  have hat := Hat.out i L hL
  rw [Nat.zero_add] at hat
  obtain ⟨q1, q2, _⟩ := HBs.out i L hL
  have hle2 := hr2.le
  have hmx2 := hr2.max
  unfold maxLen at hmx2
  have hth := blk_there (no := i) (show i < 4294967296 by omega) q1.1 (logQ_put q1 q2)
  have hsm := putB_sum (no := i) (logQ_put q1 q2)
  have hLn : L.length ≤ n := by
    have h5 : Bs.flatten = (Bs.take (i + 1)).flatten ++ (Bs.drop (i + 1)).flatten := by rw [← List.flatten_append, List.take_append_drop]
    have h6 := Hfl.out
    rw [h5, List.length_append, flat_snocL hL] at h6
    omega
  have Hth := Lib.hid hth
  have Hsm := Lib.hid hsm
  have Hpg : Hid (pgR l i = putB i L) := Lib.hid hat
  have HB := Lib.hid (Hbr.out i L · hL)
  have hpg : ∀ w', Below w2.heap.size w2 w' → Rd w' w'.heap.size 1 (cutA A2 c2 (256 * i) 1) 256 (c2 - 256 * i) (bv (putB i L)) := fun w' hb' => by
    have h2 := ((hr2.nx hb').bdrop (k := 256 * i) (by omega)).btake (k := 256) (by omega)
    rwa [hat] at h2
  have Hpr := Lib.hid hpg
  obtain ⟨i0, hi⟩ := info_parts u8_info
  have Hi := Lib.hid hi
  have hwk : IntKind.i64.wrap (256 * (i : Int)) = 256 * (i : Int) := IntWalk.i64_in _ (by omega)
  have hwk2 : IntKind.i64.wrap (256 * (i : Int) + 256) = 256 * (i : Int) + 256 := IntWalk.i64_in _ (by omega)
  have hcut : ∀ w, (Instr.slice 26 (.slice A2 n2 c2) (some (.int .i64 (256 * (i : Int)))) (some (.int .i64 (256 * (i : Int) + 256))) none).run Try.prog w = .ok (.slice (cutA A2 c2 (256 * i) 1) 256 (c2 - 256 * i)) w := fun w => by
    have := run_cut_lh (P := Try.prog) Try.underlying26 Hi.out.1 Hi.out.2.2.1 A2 n2 c2 (256 * i) (256 * i + 256) (by omega) (by omega) w
    rwa [show ((256 * i : Nat) : Int) = 256 * (i : Int) by omega, show ((256 * i + 256 : Nat) : Int) = 256 * (i : Int) + 256 by omega, show 256 * i + 256 - 256 * i = 256 by omega] at this
  have hcuth : ∀ w, (Instr.slice 26 (.slice A2 n2 c2) none (some (.int .i64 (256 * (i : Int)))) none).run Try.prog w = .ok (.slice A2 (256 * i) c2) w := fun w => by
    have := run_cut_h (P := Try.prog) Try.underlying26 Hi.out.1 A2 n2 c2 (256 * i) (by omega) w
    rwa [show ((256 * i : Nat) : Int) = 256 * (i : Int) by omega] at this
  have hcutl : ∀ w, (Instr.slice 26 (.slice A2 n2 c2) (some (.int .i64 (256 * (i : Int) + 256))) none none).run Try.prog w = .ok (.slice (cutA A2 c2 (256 * i + 256) 1) (n2 - (256 * i + 256)) (c2 - (256 * i + 256))) w := fun w => by
    have := run_cut_l (P := Try.prog) Try.underlying26 Hi.out.1 Hi.out.2.2.1 A2 n2 c2 (256 * i + 256) (by omega) w
    rwa [show ((256 * i + 256 : Nat) : Int) = 256 * (i : Int) + 256 by omega] at this
  have Htu := Lib.hid (turned_any t m 256 (c2 - 256 * i) (cutA A2 c2 (256 * i) 1) (putB i L) w2 (by omega) (hpg w2 (Below.refl _ _)) hm)
  clear hat q1 q2 hth hsm hpg hi hq0 hqq ht hL
  go_wp2_with fail
  go_fit Htu.out
  rintro e w3 ⟨o, any, A3, c3, n3, htd, rfl, own3, hbx⟩
  have hol := htd.1
  have hop := burst_open htd Hsm.out
  have hl3 := own_len own3
  rw [hol, Hth.out.2.2.2] at hl3
  subst hl3
  have hr3 := Rd.own own3
  have hb3 := bnx hb2 hbx
  have hs3 := hbx
  have hr23 := hr2.nx hbx
  have ho256 : Hid (o.length = 256) := Lib.hid (hol.trans Hth.out.2.2.2)
  have Htd := Lib.hid htd
  have Hop := Lib.hid hop
  clear hol hop htd own3 Htu hcut
  go_wp2_with fail
  refine Ord.region_ (fun _ => True) false [] (by kernel_rfl) (by kernel_rfl) trivial ?_
  have hbd : Below w3.heap.size w3 w3.drew := (Below.refl _ _).drew
  replace hb3 := bnx hb3 hbd
  replace hs3 := bnx hs3 hbd
  replace hr23 := hr23.nx hbd
  replace hr3 := hr3.nx hbd
  clear hbd
  generalize w3.drew = x3 at *
  refine Ord.e_x rfl (by kernel_rfl) ?_
  go_wp2_with fail
  have hb34 : Below x3.heap.size x3 (x3.alloc (.cells #[] 5)) := (Below.refl _ _).alloc (Nat.le_refl _) _
  have own0 := own_empty x3 x3.heap.size 5 (Nat.le_refl _) 1
  refine Ord.Seg.go trivial (fun h => by cases h) ?_
  (try simp only [Act.put, List.setIfInBounds_toArray, List.set_cons_zero, List.set_cons_succ])
  generalize (x3.alloc (.cells #[] 5)) = x4 at *
  ((with_reducible refine Ord.e_p (v := ?_) ?_ ?_ ?_ ?_); rotate_left; (· exact rfl); (· kernel_rfl); (· intro w2; go_simp; try with_reducible rfl))
  (try simp only [Act.put, List.setIfInBounds_toArray, List.set_cons_zero, List.set_cons_succ])
  ((with_reducible refine Ord.e_p (v := ?_) ?_ ?_ ?_ ?_); rotate_left; (· exact rfl); (· kernel_rfl); (· intro w2; go_simp; try with_reducible rfl))
  (try simp only [Act.put, List.setIfInBounds_toArray, List.set_cons_zero, List.set_cons_succ])
  ((with_reducible refine Ord.e_p (v := ?_) ?_ ?_ ?_ ?_); rotate_left; (· exact rfl); (· kernel_rfl); (· intro w2; go_simp; try with_reducible rfl))
  (try simp only [Act.put, List.setIfInBounds_toArray, List.set_cons_zero, List.set_cons_succ])
  refine Ord.e_p (v := .slice A2 (256 * i) c2) rfl (by kernel_rfl) (fun w9 => by go_simp) ?_
  (try simp only [Act.put, List.setIfInBounds_toArray, List.set_cons_zero, List.set_cons_succ])
  refine Ord.e_x rfl (by kernel_rfl) ?_
  refine wpList_appG (base := x3.heap.size) (n := 0) (xs := []) Try.underlying26 Hi.out rfl (by omega) own0 rfl ((hr23.btake (k := 256 * i) (by omega)).up hb34) rfl (bv_one _) (k := 256 * i) (ys := bv (l.take (256 * i))) (Nat.zero_add _) (List.nil_append _) (by unfold maxLen; omega) (by omega) hb34.size ?_
  intro A4 c4 w4 own4 hgr hob
  replace hb34 := Below.grown hb34 hgr hb34.size (fun j hj => (own_blk own0 hj).1)
  clear hgr hob own0
  go_wp2_with fail
  refine Ord.Seg.go trivial (fun h => by cases h) ?_
  (try simp only [Act.put, List.setIfInBounds_toArray, List.set_cons_zero, List.set_cons_succ])
  ((with_reducible refine Ord.e_p (v := ?_) ?_ ?_ ?_ ?_); rotate_left; (· exact rfl); (· kernel_rfl); (· intro w2; go_simp; try with_reducible rfl))
  (try simp only [Act.put, List.setIfInBounds_toArray, List.set_cons_zero, List.set_cons_succ])
  refine Ord.e_x rfl (by kernel_rfl) ?_
  refine wpList_appG (base := x3.heap.size) (n := 256 * i) Try.underlying26 Hi.out rfl (by omega) own4 rfl (hr3.up hb34) rfl (bv_one _) (k := 256 * i + 256) (ys := bv (l.take (256 * i) ++ o)) rfl (bv_app _ _).symm (by unfold maxLen; omega) (by omega) hb34.size ?_
  intro A5 c5 w5 own5 hgr hob
  replace hb34 := Below.grown hb34 hgr hb34.size (fun j hj => (own_blk own4 hj).1)
  clear hgr hob own4
  go_wp2_with fail
  refine Ord.Seg.go trivial (fun h => by cases h) ?_
  (try simp only [Act.put, List.setIfInBounds_toArray, List.set_cons_zero, List.set_cons_succ])
  ((with_reducible refine Ord.e_p (v := ?_) ?_ ?_ ?_ ?_); rotate_left; (· exact rfl); (· kernel_rfl); (· intro w2; go_simp; try with_reducible rfl))
  (try simp only [Act.put, List.setIfInBounds_toArray, List.set_cons_zero, List.set_cons_succ])
  ((with_reducible refine Ord.e_p (v := ?_) ?_ ?_ ?_ ?_); rotate_left; (· exact rfl); (· kernel_rfl); (· intro w2; go_simp; try with_reducible rfl))
  (try simp only [Act.put, List.setIfInBounds_toArray, List.set_cons_zero, List.set_cons_succ])
  ((with_reducible refine Ord.e_p (v := ?_) ?_ ?_ ?_ ?_); rotate_left; (· exact rfl); (· kernel_rfl); (· intro w2; go_simp; try with_reducible rfl))
  (try simp only [Act.put, List.setIfInBounds_toArray, List.set_cons_zero, List.set_cons_succ])
  ((with_reducible refine Ord.e_p (v := ?_) ?_ ?_ ?_ ?_); rotate_left; (· exact rfl); (· kernel_rfl); (· intro w2; go_simp; try with_reducible rfl))
  (try simp only [Act.put, List.setIfInBounds_toArray, List.set_cons_zero, List.set_cons_succ])
  refine Ord.e_p (v := .slice (cutA A2 c2 (256 * i + 256) 1) (n2 - (256 * i + 256)) (c2 - (256 * i + 256))) rfl (by kernel_rfl) (fun w9 => by go_simp) ?_
  (try simp only [Act.put, List.setIfInBounds_toArray, List.set_cons_zero, List.set_cons_succ])
  refine Ord.e_x rfl (by kernel_rfl) ?_
  refine wpList_appG (base := x3.heap.size) (n := 256 * i + 256) Try.underlying26 Hi.out rfl (by omega) own5 rfl ((hr23.bdrop (k := 256 * i + 256) (by omega)).up hb34) rfl (bv_one _) (k := n2) (ys := bv (setP l i o)) (by omega) (by rw [← bv_app, List.append_assoc]; rfl) (by unfold maxLen; omega) (by omega) hb34.size ?_
  intro A6 c6 w6 own6 hgr hob
  replace hb34 := Below.grown hb34 hgr hb34.size (fun j hj => (own_blk own5 hj).1)
  clear hgr hob own5
  go_wp2_with fail
  refine Ord.Seg.go trivial (fun h => by cases h) ?_
  (try simp only [Act.put, List.setIfInBounds_toArray, List.set_cons_zero, List.set_cons_succ])
  ((with_reducible refine Ord.e_p (v := ?_) ?_ ?_ ?_ ?_); rotate_left; (· exact rfl); (· kernel_rfl); (· intro w2; go_simp; try with_reducible rfl))
  (try simp only [Act.put, List.setIfInBounds_toArray, List.set_cons_zero, List.set_cons_succ])
  refine Ord.e_nil ?_
  have hb6 := bnx hb3 hb34
  have hs6 := bnx hs3 hb34
  have hr6 := Rd.own own6
  clear hb34 own6 hr23 hr3
  have hrd := read37_any A6 n2 c6 w6.heap.size (setP l i o) w6 hr6 (Nat.le_refl _) (by omega)
  rw [show n2 / 256 = Bs.length by have := Hn2.out; omega] at hrd
  cases any with
  | false =>
    have ho : o = putB i L := by
      rcases Htd.out.2 with ⟨_, h2⟩ | ⟨h1, _⟩
      · exact h2
      · cases h1
    have hR : readS l Bs.length = (R, []) := by
      have h5 := Hrd.out
      rwa [Hcl.out, show 256 * Bs.length / 256 = Bs.length by omega] at h5
    rw [ho, ← Hpg.out, setP_same, hR] at hrd
    have HR := Lib.hid hrd
    clear hrd ho hR hcuth hcutl
    go_wp2_with fail
    go_fit HR.out
    unfold RetRd
    rintro e w7 ⟨A7, n7, c7, A8, n8, c8, rfl, hr7, hi8, hbx⟩
    obtain rfl : n8 = 0 := (RdI.len hi8).symm
    have hb7 := bnx hb6 hbx
    clear hbx hi8 hb6 HR
    go_wp2_with fail
    go_fit (recs37_any A7 n7 c7 A n c R R w7.heap.size w7 hr7 (RdR.more (RdR.up h hb7) hb7.size) (Nat.le_refl _))
    rintro e w8 ⟨rfl, hbx⟩
    rw [show decide (R = R) = true from decide_eq_true rfl]
    have hb8 := bnx hb7 hbx
    clear hbx
    go_wp2
    go_ret
    exact ⟨rfl, hb8⟩
  | true =>
    have hE : blkE o = 4 := blkE_sum ho256.out (by rw [Hop.out]; rfl)
    obtain ⟨b1, b2⟩ := HB.out o ho256.out (by rw [hE]; omega)
    obtain ⟨X, hX⟩ : ∃ X, X = (readS (setP l i o) Bs.length).1 := ⟨_, rfl⟩
    have hS : readS (setP l i o) Bs.length = (X, [i]) := by rw [hX, ← b1]
    rw [← hX] at b2
    rw [hS] at hrd
    have HR := Lib.hid hrd
    have Hb2 := Lib.hid b2
    have htk := fun w' hb' => qblkTake_any (cutA A2 c2 (256 * i) 1) 256 (c2 - 256 * i) w'.heap.size (putB i L) w' (Hpr.out w' hb') (Nat.le_refl _) (by omega)
    have hcut : ∀ w, (Instr.slice 26 (.slice A2 n2 c2) (some (.int .i64 (256 * (i : Int)))) (some (.int .i64 (256 * (i : Int) + 256))) none).run Try.prog w = .ok (.slice (cutA A2 c2 (256 * i) 1) 256 (c2 - 256 * i)) w := fun w => by
      have := run_cut_lh (P := Try.prog) Try.underlying26 Hi.out.1 Hi.out.2.2.1 A2 n2 c2 (256 * i) (256 * i + 256) (by omega) (by omega) w
      rwa [show ((256 * i : Nat) : Int) = 256 * (i : Int) by omega, show ((256 * i + 256 : Nat) : Int) = 256 * (i : Int) + 256 by omega, show 256 * i + 256 - 256 * i = 256 by omega] at this
    unfold RetTBk at htk
    rw [Hth.out.1, Hth.out.2.1, Hth.out.2.2.1] at htk
    have Htk := Lib.hid htk
    clear hrd hS hX b1 b2 hE hcuth hcutl htk
    go_wp2_with fail
    go_fit HR.out
    unfold RetRd
    rintro e w7 ⟨A7, n7, c7, A8, n8, c8, rfl, hr7, hi8, hbx⟩
    obtain rfl : n8 = 1 := (RdI.len hi8).symm
    have hl7 : X.length = n7 := RdC.len hr7
    have hb7 := bnx hb6 hbx
    have hs7 := bnx hs6 hbx
    have hl7' : n7 + L.length = n := by have h5 := Hb2.out; rw [Hfl.out] at h5; omega
    have Hl7 := Lib.hid hl7'
    clear hbx hb6 HR hl7 hl7' hr7
    go_wp2_with fail
    go_fit (Htk.out w7 hs7)
    rintro e w8 ⟨A9, n9, c9, rfl, hr9, hbx⟩
    have hl9 := RdE.len hr9
    obtain rfl : L.length = n9 := hl9
    have hb8 := bnx hb7 hbx
    have hi9 : RdI _ _ A8 1 c8 [i] := RdR.nx hi8 hbx
    have hbn : Below w8.heap.size w8 (w8.alloc (.cells #[.int .u32 (i : Int), .slice A9 L.length c9] 41)) := (Below.refl _ _).alloc (Nat.le_refl _) _
    have a0 := heap_alloc_new w8 (.cells #[.int .u32 (i : Int), .slice A9 L.length c9] 41)
    have hb9 := bnx hb8 hbn
    have hi10 : RdI _ _ A8 1 c8 [i] := RdR.nx hi9 hbn
    have hz9 := Lib.hid (World.size_alloc w8 (.cells #[.int .u32 (i : Int), .slice A9 L.length c9] 41))
    clear hbx hb8 hbn hi9 hr9 hi8 Htk
    go_wp2_with fail
    generalize (w8.alloc (.cells #[.int .u32 (i : Int), .slice A9 L.length c9] 41)) = w9 at *
    generalize w8.heap.size = gb at *
    have hrd := (RdR.lit (size := 1) (e := 3) w9 [[.int .i64 (i : Int)]] #[.int .i64 (i : Int)] rfl (by intro r hr; rw [List.mem_singleton.1 hr]; rfl) (by simp [maxLen]) 1 rfl)
    have hbn : Below w9.heap.size w9 (w9.alloc (.cells #[.int .i64 (i : Int)] 3)) := (Below.refl _ _).alloc (Nat.le_refl _) _
    have hb10 := bnx hb9 hbn
    have hi11 : RdI _ _ A8 1 c8 [i] := RdR.nx hi10 hbn
    replace a0 := blk_old a0 hbn (blk_lt a0)
    rw [hz9.out] at hrd
    have hsz : gb + 1 + 1 ≤ (w9.alloc (.cells #[.int .i64 (i : Int)] 3)).heap.size := by rw [World.size_alloc, hz9.out]; exact Nat.le_refl _
    generalize (w9.alloc (.cells #[.int .i64 (i : Int)] 3)) = w10 at *
    go_fit (ints37_any A8 1 c8 (some ⟨gb + 1, 0, none⟩) 1 1 [i] [i] w10.heap.size w10 hi11 (RdR.more (show RdI w10 (gb + 1 + 1) _ 1 1 [i] from hrd) hsz) (Nat.le_refl _))
    rintro e w11 ⟨rfl, hbx⟩
    rw [show decide ([i] = [i]) = true from decide_eq_true rfl]
    have hb11 := bnx hb10 hbx
    have k1 := blk_cell (i := 1) (v := .slice A9 L.length c9) (blk_old a0 hbx (blk_lt a0)) rfl
    have hw1 : IntKind.i64.wrap ((n : Int) - (L.length : Int)) = (n7 : Int) := by have := Hl7.out; rw [IntWalk.i64_in _ (by omega)]; omega
    clear hbx hb10 a0 hi11 hrd hbn hb9 hi10 hsz
    go_wp2
    go_ret
    exact ⟨rfl, hb11⟩

end Go.Proofs.Ytplgcfjcdjlnbaa
