/-
  FlogLog walked (printed by gen_flog8.py).
-/
import Derived.Test.YtplgcfjcdjlnbaaKGT
import Derived.Test.YtplgcfjcdjlnbaaKFlogBs
import Derived.Test.YtplgcfjcdjlnbaaKBlk7
set_option linter.unusedSimpArgs false
set_option linter.unusedVariables false
namespace Go.Proofs.Ytplgcfjcdjlnbaa
open Go.RowKit NumLaw CrcLaw
attribute [local go_sem] Addr.add_mid
attribute [-go_sem] run_eql_struct run_neq_struct

theorem rec_guard36 : Try.prog.eqGuardType Try.prog.depth 25 = false := by kernel_rfl
set_option maxRecDepth 10000 in
set_option maxHeartbeats 16000000 in
theorem floglog_any (ev : Int) (A : Option Addr) (n c : Nat) (R : List (Nat × List Int)) (w : World) (hev : -9223372036854775808 ≤ ev ∧ ev ≤ 9223372036854775807) (h : RdC w w.heap.size A n c R) (hq : ∀ p ∈ R, RcQ p) :
    Calls Try.prog 12 #[.int .i64 ev, .slice A n c] w fun e w' => e = .returned (.bool true) ∧ Below w.heap.size w w' := by
  have hmx := h.2.2.2.1
  have hle := h.2.2.1
  unfold maxLen at hmx
  by_cases hn : 60 < n
  · have hn' : (60 : Int) < (n : Int) := by omega
    go_enter Try.func12, Try.ntmps12
    go_wp2_with fail
    go_fit (knows36 w)
    rintro e w1 ⟨rfl, hb1⟩
    go_wp2
    go_ret
    exact ⟨rfl, hb1⟩
  have hn' : ¬ (60 : Int) < (n : Int) := by omega
  by_cases hr : ev < 1 ∨ 255 < ev
  · rcases (by omega : ev < 1 ∨ (¬ ev < 1 ∧ 255 < ev)) with h1 | ⟨h1, h2⟩
    all_goals
      go_enter Try.func12, Try.ntmps12
      go_wp2_with fail
      go_fit (knows36 w)
      rintro e w1 ⟨rfl, hb1⟩
      go_wp2_with fail
      go_fit (flogWrite_no ev A n c w1 hr)
      rintro e w2 ⟨rfl, rfl⟩
      go_wp2_with fail
      go_fit (num36_any 1 w1)
      rintro e w2 ⟨rfl, rfl⟩
      go_wp2
      go_ret
      exact ⟨rfl, hb1⟩
  obtain ⟨m, rfl⟩ : ∃ m : Nat, ev = m := ⟨ev.toNat, by omega⟩
  have hll := h.len
  obtain ⟨Bs, e1, e2, e3, e4⟩ := wr_blocks (ev := m) hq (by omega)
  have Hw := Lib.hid (fun w1 (h1 : RdC w1 w.heap.size A n c R) hB => flogWrite_any m A n c w.heap.size R w1 (by omega) (by omega) h1 hB hq (by omega))
  rw [e1] at Hw
  have hcl := catB_len Bs 0 0 e2 (by omega)
  have hfl : Bs.flatten.length = n := by rw [← List.length_map (f := recE), e3, hll]
  have Hat := Lib.hid (fun i L (hi : Bs[i]? = some L) => catB_at Bs 0 i 0 L e2 (by omega) hi)
  have HBs := Lib.hid (fun i L (hi : Bs[i]? = some L) => BsOK_at Bs 0 i L e2 hi)
  have HR := Lib.hid (fun i k L x (hi : Bs[i]? = some L) (hx : L[k]? = some x) => show R[(Bs.take i).flatten.length + k]? = some (recE x) by rw [← e3, List.getElem?_map, flat_get Bs i k L x hi hx]; rfl)
  have Hsn := Lib.hid (fun i L (hi : Bs[i]? = some L) => flat_snocL hi)
  have Hfl := Lib.hid hfl
  have Hle := Lib.hid (fun i => show (Bs.take i).flatten.length ≤ n by
    have h5 : Bs.flatten = (Bs.take i).flatten ++ (Bs.drop i).flatten := by rw [← List.flatten_append, List.take_append_drop]
    rw [← hfl, h5, List.length_append]; omega)
  have hBn : Bs.length ≤ 61 := by omega
  have hm1 : ¬ (m : Int) = 0 := by omega
  have hm0 : ¬ m = 0 := by omega
  have hm255 : m ≤ 255 := by omega
  generalize catB 0 Bs = S at *
  obtain ⟨nb, hnb⟩ : ∃ v, v = Bs.length := ⟨_, rfl⟩
  rw [← hnb] at hcl hBn
  have Hnb := Lib.hid hnb
  have Hcl := Lib.hid hcl
  clear hll hq e1 e2 e3 e4 hcl hfl hnb hr hev
  go_enter Try.func12, Try.ntmps12
  go_wp2_with fail
  go_fit (knows36 w)
  rintro e w1 ⟨rfl, hb⟩
  go_wp2_with fail
  go_fit (Hw.out w1 (RdR.up h hb) hb.size)
  rintro e w2 ⟨A2, c2, n2, rfl, own2, hbx⟩
  have hl2 := own_len own2
  rw [Hcl.out] at hl2
  have hr2 := Rd.own own2
  have hle2 := hr2.le
  have hmx2 := hr2.max
  unfold maxLen at hmx2
  replace hb := bnx hb hbx
  clear hbx own2
  subst hl2
  have Hr2 := Lib.hid hr2
  clear hr2
  obtain ⟨i0, hi⟩ := info_parts u8_info
  have Hi := Lib.hid hi
  clear hi
  go_wp2_with fail
  go_fit (num36_any 0 w2)
  rintro e w3 ⟨rfl, rfl⟩
  go_wp2_with fail
  go_loopw [7, 8] (fun a i wr => ∃ k : Nat, k ≤ nb ∧ i = .int .i64 k ∧ a = .int .i64 ((Bs.take k).flatten.length : Int) ∧ Below w2.heap.size w2 wr) (fun _ i _ => nb - (intOf i).toNat)
  case atStart => exact ⟨0, by omega, rfl, rfl, Below.refl _ _⟩
  case round =>
    obtain ⟨i, hi, rfl, rfl, hbr⟩ := hrel
    by_cases hlt : i < nb
    · have hlt' : 256 * (i : Int) < 256 * (nb : Int) := by omega
      have hlt2' : 256 * (i : Int) < ((256 * nb : Nat) : Int) := by omega
      have hge2' : ¬ ((256 * nb : Nat) : Int) < 256 * (i : Int) + 256 := by omega
      have hge' : ¬ 256 * (nb : Int) < 256 * (i : Int) + 256 := by omega
      obtain ⟨L, hL⟩ : ∃ L, Bs[i]? = some L := ⟨_, List.getElem?_eq_getElem (by rw [← Hnb.out]; exact hlt)⟩
      have hat := Hat.out i L hL
      obtain ⟨q1, q2, q3⟩ := HBs.out i L hL
      rw [Nat.zero_add] at hat q3
      have hHR := fun k x => HR.out i k L x hL
      have hsn := Hsn.out i L hL
      have hle1 := Hle.out (i + 1)
      rw [hsn] at hle1
      have Hsn1 := Lib.hid hsn
      obtain ⟨t1, t2, t3, t4⟩ := blk_there (no := i) (show i < 4294967296 by omega) q1.1 (logQ_put q1 q2)
      have htk := qblkTake_any (cutA A2 c2 (256 * i) 1) 256 (c2 - 256 * i) w2.heap.size (putB i L) wr (by
        have h1 := (Hr2.out.up hbr).bdrop (k := 256 * i) (by omega)
        have h2 := h1.btake (k := 256) (by omega)
        rwa [hat] at h2) hbr.size (by omega)
      unfold RetTBk at htk
      rw [t1, t2, t3] at htk
      have Htk := Lib.hid htk
      have hcut : ∀ w, (Instr.slice 26 (.slice A2 (256 * nb) c2) (some (.int .i64 (256 * (i : Int)))) (some (.int .i64 (256 * (i : Int) + 256))) none).run Try.prog w = .ok (.slice (cutA A2 c2 (256 * i) 1) 256 (c2 - 256 * i)) w := fun w => by
        have := run_cut_lh (P := Try.prog) Try.underlying26 Hi.out.1 Hi.out.2.2.1 A2 (256 * nb) c2 (256 * i) (256 * i + 256) (by omega) (by omega) w
        rwa [show ((256 * i : Nat) : Int) = 256 * (i : Int) by omega, show ((256 * i + 256 : Nat) : Int) = 256 * (i : Int) + 256 by omega, show 256 * i + 256 - 256 * i = 256 by omega] at this
      have HLl := Lib.hid (logQ_len q1)
      have HLq := Lib.hid q1.1
      have HLk := Lib.hid q3
      have HHR := Lib.hid hHR
      obtain ⟨at0, hat0⟩ : ∃ v, v = (Bs.take i).flatten.length := ⟨_, rfl⟩
      rw [← hat0] at hle1 Hsn1 HLk HHR ⊢
      have Hat0 := Lib.hid hat0
      have hL82 := logQ_len q1
      clear hL hat q1 q2 q3 hHR hsn t1 t2 t3 t4 htk hat0
      go_wp2_with fail
      go_fit Htk.out
      rintro e w4 ⟨A4, n4, c4, rfl, hr4, hbx⟩
      have hl4 := hr4.len
      have hbn : Below w4.heap.size w4 (w4.alloc (.cells #[.int .u32 (i : Int), .slice A4 n4 c4] 41)) := (Below.refl _ _).alloc (Nat.le_refl _) _
      have hbox := heap_alloc_new w4 (.cells #[.int .u32 (i : Int), .slice A4 n4 c4] 41)
      replace hr4 : RdE _ _ A4 n4 c4 L := RdR.nx hr4 hbn
      replace hbr := bnx (bnx hbr hbx) hbn
      have hwi : IntKind.i64.wrap (i : Int) = (i : Int) := IntWalk.i64_in _ (by omega)
      clear hbx hbn hcut
      go_wp2_with fail
      generalize (w4.alloc (.cells #[.int .u32 (i : Int), .slice A4 n4 c4] 41)) = w5 at *
      generalize w4.heap.size = gb at *
      go_fit (num36_any 0 w5)
      rintro e w6 ⟨rfl, rfl⟩
      have c0 := blk_cell (i := 0) (v := .int .u32 (i : Int)) hbox rfl
      have c1 := blk_cell (i := 1) (v := .slice A4 n4 c4) hbox rfl
      have hgb := blk_lt hbox
      have hii : ((i : Int) != (i : Int)) = false := by simp
      have hfit : ¬ ((n : Int) - (at0 : Int)) < (n4 : Int) := by omega
      have C1 := Lib.hid c1
      go_wp2_with fail
      go_loopw [7, 11] (fun a kk wq => ∃ k : Nat, k ≤ n4 ∧ kk = .int .i64 k ∧ a = .int .i64 ((at0 + k : Nat) : Int) ∧ Below w5.heap.size w5 wq) (fun _ kk _ => n4 - (intOf kk).toNat)
      case atStart => exact ⟨0, by omega, rfl, rfl, Below.refl _ _⟩
      case round =>
        obtain ⟨k, hk, rfl, rfl, hbq⟩ := hrel
        clear c0 c1 hii hfit
        have c1 := (hbq.cell (p := ⟨gb, 1, none⟩) hgb).trans C1.out
        by_cases hkl : k < n4
        · have hkl' : (k : Int) < (n4 : Int) := by omega
          obtain ⟨gL, offL, x, hA4, hgL, hx, hrx⟩ := hr4.at_ hkl
          subst hA4
          obtain ⟨sK, hsK⟩ : ∃ v : Nat, v = at0 + k := ⟨_, rfl⟩
          obtain ⟨gR, offR, p, hA, hgR, hp, hrp⟩ := h.at_ (k := sK) (by omega)
          subst hA
          have hpx := HHR.out k x hx
          rw [← hsK, hp] at hpx
          injection hpx with hpx
          subst hpx
          have HxV := Lib.hid (HLq.out x (List.mem_of_getElem? hx)).2.1
          have hkey := HLk.out k x hx
          rw [← hsK] at hkey
          have hrp' : ∀ w', Below w5.heap.size w5 w' → w'.rangeAt gR (offR + sK * 13) (rcC x.t x.V) := fun w' hb' j u hu => ((bnx (hb.trans (hbr.mono hb.size)) hb').cell (p := ⟨gR, offR + sK * 13 + j, none⟩) hgR).trans (hrp j u hu)
          have Hrp := Lib.hid hrp'
          have Hrx := Lib.hid (show ∀ w', Below w5.heap.size w5 w' → w'.rangeAt gL (offL + k * 14) (enC x) from fun w' hb' j u hu => (hb'.cell (p := ⟨gL, offL + k * 14 + j, none⟩) hgL).trans (hrx j u hu))
          have hq := fun w => rec_neq x.t x.t x.V x.V HxV.out HxV.out w
          simp only [and_self, decide_true, Bool.not_true] at hq
          have qg := rec_guard36
          have hltn : (sK : Int) < (n : Int) := by omega
          rw [← hsK]
          have HsK := Lib.hid hsK
          have hs60 : sK < 60 := by omega
          clear hx hp hrx hrp hrp' hsK
          by_cases hk0 : k = 0
          · subst hk0
            have hxk : x.key = true := by rw [hkey]; rfl
            go_wp2_with fail
            refine Ord.region_ (fun w' => Below w5.heap.size w5 w') false [] (by kernel_rfl) (by kernel_rfl) hbq.drew ?_
            have hS := hbq.drew
            generalize wr.drew = wd at hS ⊢
            clear c1 hbq
            ((with_reducible refine Ord.e_p (v := ?_) ?_ ?_ ?_ ?_); rotate_left; (· exact rfl); (· kernel_rfl); (· intro w2; go_simp; try with_reducible rfl))
            (try simp only [Act.put, List.setIfInBounds_toArray, List.set_cons_zero, List.set_cons_succ])
            refine Ord.e_loadS Try.underlying39 rfl (fun w' hS => ((show Below _ w5 w' from hS).cell (p := ⟨gb, 1, none⟩) hgb).trans C1.out) hS rfl (by kernel_rfl) ?_
            (try simp only [Act.put, List.setIfInBounds_toArray, List.set_cons_zero, List.set_cons_succ])
            ((with_reducible refine Ord.e_p (v := ?_) ?_ ?_ ?_ ?_); rotate_left; (· exact rfl); (· kernel_rfl); (· intro w2; go_simp; try with_reducible rfl))
            (try simp only [Act.put, List.setIfInBounds_toArray, List.set_cons_zero, List.set_cons_succ])
            ((with_reducible refine Ord.e_p (v := ?_) ?_ ?_ ?_ ?_); rotate_left; (· exact rfl); (· kernel_rfl); (· intro w2; go_simp; try with_reducible rfl))
            (try simp only [Act.put, List.setIfInBounds_toArray, List.set_cons_zero, List.set_cons_succ])
            ((with_reducible refine Ord.e_p (v := ?_) ?_ ?_ ?_ ?_); rotate_left; (· exact rfl); (· kernel_rfl); (· intro w2; go_simp; try with_reducible rfl))
            (try simp only [Act.put, List.setIfInBounds_toArray, List.set_cons_zero, List.set_cons_succ])
            refine Ord.e_rowS (b := gL) (o := offL + 0 * 14 + 1) Try.underlying25 rfl (by rw [rcC_size x.t x.V HxV.out]; kernel_rfl) rfl (by unfold rcC; simp) (fun w' hS => range_rec (Hrx.out w' (show Below _ w5 w' from hS))) hS (by kernel_rfl) ?_
            (try simp only [Act.put, List.setIfInBounds_toArray, List.set_cons_zero, List.set_cons_succ])
            ((with_reducible refine Ord.e_p (v := ?_) ?_ ?_ ?_ ?_); rotate_left; (· exact rfl); (· kernel_rfl); (· intro w2; go_simp; try with_reducible rfl))
            (try simp only [Act.put, List.setIfInBounds_toArray, List.set_cons_zero, List.set_cons_succ])
            ((with_reducible refine Ord.e_p (v := ?_) ?_ ?_ ?_ ?_); rotate_left; (· exact rfl); (· kernel_rfl); (· intro w2; go_simp; try with_reducible rfl))
            (try simp only [Act.put, List.setIfInBounds_toArray, List.set_cons_zero, List.set_cons_succ])
            ((with_reducible refine Ord.e_p (v := ?_) ?_ ?_ ?_ ?_); rotate_left; (· exact rfl); (· kernel_rfl); (· intro w2; go_simp; try with_reducible rfl))
            (try simp only [Act.put, List.setIfInBounds_toArray, List.set_cons_zero, List.set_cons_succ])
            refine Ord.e_rowS (b := gR) (o := offR + sK * 13) Try.underlying25 rfl (by rw [rcC_size x.t x.V HxV.out]; kernel_rfl) rfl (by unfold rcC; simp) (fun w' hS => Hrp.out w' (show Below _ w5 w' from hS)) hS (by kernel_rfl) ?_
            (try simp only [Act.put, List.setIfInBounds_toArray, List.set_cons_zero, List.set_cons_succ])
            ((with_reducible refine Ord.e_p (v := ?_) ?_ ?_ ?_ ?_); rotate_left; (· exact rfl); (· kernel_rfl); (· intro w2; go_simp; try with_reducible rfl))
            (try simp only [Act.put, List.setIfInBounds_toArray, List.set_cons_zero, List.set_cons_succ])
            ((with_reducible refine Ord.e_p (v := ?_) ?_ ?_ ?_ ?_); rotate_left; (· exact rfl); (· kernel_rfl); (· intro w2; go_simp; try with_reducible rfl))
            (try simp only [Act.put, List.setIfInBounds_toArray, List.set_cons_zero, List.set_cons_succ])
            ((with_reducible refine Ord.e_p (v := ?_) ?_ ?_ ?_ ?_); rotate_left; (· exact rfl); (· kernel_rfl); (· intro w2; go_simp; try with_reducible rfl))
            (try simp only [Act.put, List.setIfInBounds_toArray, List.set_cons_zero, List.set_cons_succ])
            ((with_reducible refine Ord.e_p (v := ?_) ?_ ?_ ?_ ?_); rotate_left; (· exact rfl); (· kernel_rfl); (· intro w2; go_simp; try with_reducible rfl))
            (try simp only [Act.put, List.setIfInBounds_toArray, List.set_cons_zero, List.set_cons_succ])
            ((with_reducible refine Ord.e_p (v := ?_) ?_ ?_ ?_ ?_); rotate_left; (· exact rfl); (· kernel_rfl); (· intro w2; go_simp; try with_reducible rfl))
            (try simp only [Act.put, List.setIfInBounds_toArray, List.set_cons_zero, List.set_cons_succ])
            ((with_reducible refine Ord.e_u ?_ ?_); (· kernel_rfl))
            (try simp only [Act.put, List.setIfInBounds_toArray, List.set_cons_zero, List.set_cons_succ])
            ((with_reducible refine Ord.e_u ?_ ?_); (· kernel_rfl))
            (try simp only [Act.put, List.setIfInBounds_toArray, List.set_cons_zero, List.set_cons_succ])
            ((with_reducible refine Ord.e_u ?_ ?_); (· kernel_rfl))
            (try simp only [Act.put, List.setIfInBounds_toArray, List.set_cons_zero, List.set_cons_succ])
            ((with_reducible refine Ord.e_u ?_ ?_); (· kernel_rfl))
            (try simp only [Act.put, List.setIfInBounds_toArray, List.set_cons_zero, List.set_cons_succ])
            ((with_reducible refine Ord.e_p (v := ?_) ?_ ?_ ?_ ?_); rotate_left; (· exact rfl); (· kernel_rfl); (· intro w2; go_simp; try with_reducible rfl))
            (try simp only [Act.put, List.setIfInBounds_toArray, List.set_cons_zero, List.set_cons_succ])
            ((with_reducible refine Ord.e_p (v := ?_) ?_ ?_ ?_ ?_); rotate_left; (· exact rfl); (· kernel_rfl); (· intro w2; go_simp; try with_reducible rfl))
            (try simp only [Act.put, List.setIfInBounds_toArray, List.set_cons_zero, List.set_cons_succ])
            refine Ord.e_loadS Try.underlying39 rfl (fun w' hS => ((show Below _ w5 w' from hS).cell (p := ⟨gb, 1, none⟩) hgb).trans C1.out) hS rfl (by kernel_rfl) ?_
            (try simp only [Act.put, List.setIfInBounds_toArray, List.set_cons_zero, List.set_cons_succ])
            ((with_reducible refine Ord.e_p (v := ?_) ?_ ?_ ?_ ?_); rotate_left; (· exact rfl); (· kernel_rfl); (· intro w2; go_simp; try with_reducible rfl))
            (try simp only [Act.put, List.setIfInBounds_toArray, List.set_cons_zero, List.set_cons_succ])
            ((with_reducible refine Ord.e_p (v := ?_) ?_ ?_ ?_ ?_); rotate_left; (· exact rfl); (· kernel_rfl); (· intro w2; go_simp; try with_reducible rfl))
            (try simp only [Act.put, List.setIfInBounds_toArray, List.set_cons_zero, List.set_cons_succ])
            ((with_reducible refine Ord.e_p (v := ?_) ?_ ?_ ?_ ?_); rotate_left; (· exact rfl); (· kernel_rfl); (· intro w2; go_simp; try with_reducible rfl))
            (try simp only [Act.put, List.setIfInBounds_toArray, List.set_cons_zero, List.set_cons_succ])
            refine Ord.e_loadS Try.underlying4 rfl (fun w' hS => range_key (Hrx.out w' (show Below _ w5 w' from hS))) hS rfl (by kernel_rfl) ?_
            (try simp only [Act.put, List.setIfInBounds_toArray, List.set_cons_zero, List.set_cons_succ])
            rw [hxk]
            ((with_reducible refine Ord.e_p (v := ?_) ?_ ?_ ?_ ?_); rotate_left; (· exact rfl); (· kernel_rfl); (· intro w2; go_simp; try with_reducible rfl))
            (try simp only [Act.put, List.setIfInBounds_toArray, List.set_cons_zero, List.set_cons_succ])
            ((with_reducible refine Ord.e_p (v := ?_) ?_ ?_ ?_ ?_); rotate_left; (· exact rfl); (· kernel_rfl); (· intro w2; go_simp; try with_reducible rfl))
            (try simp only [Act.put, List.setIfInBounds_toArray, List.set_cons_zero, List.set_cons_succ])
            refine Ord.e_nil ?_
            clear hq hxk hkey
            go_wp2
            go_roundw
            case rel => exact ⟨0 + 1, by omega, by go_num, (by have h9 := HsK.out; go_num), hS⟩
            case measure => simp [intOf]; omega
          · have hk0q : ((k : Int) == 0) = false := by simp; omega
            obtain ⟨q, hqd⟩ : ∃ q, q = sK % m := ⟨_, rfl⟩
            have hq255 : q < 255 := by have := Nat.mod_lt sK (show 0 < m by omega); omega
            have hrm2 : (sK : Int).tmod (m : Int) = (q : Int) := by
              rw [Int.tmod_eq_emod_of_nonneg (by omega), hqd]; simp
            have hrm : IntKind.i64.wrap ((sK : Int).tmod (m : Int)) = (q : Int) := by
              rw [hrm2, IntWalk.i64_in _ (by omega)]
            have hxk : x.key = ((q : Int) == 0) := by
              rw [hkey, ← hqd, show (k == 0) = false by simpa using hk0, Bool.false_or, Bool.eq_iff_iff]
              simp
            clear hqd
            go_wp2_with fail
            refine Ord.region_ (fun w' => Below w5.heap.size w5 w') false [] (by kernel_rfl) (by kernel_rfl) hbq.drew ?_
            have hS := hbq.drew
            generalize wr.drew = wd at hS ⊢
            clear c1 hbq
            ((with_reducible refine Ord.e_p (v := ?_) ?_ ?_ ?_ ?_); rotate_left; (· exact rfl); (· kernel_rfl); (· intro w2; go_simp; try with_reducible rfl))
            (try simp only [Act.put, List.setIfInBounds_toArray, List.set_cons_zero, List.set_cons_succ])
            refine Ord.e_loadS Try.underlying39 rfl (fun w' hS => ((show Below _ w5 w' from hS).cell (p := ⟨gb, 1, none⟩) hgb).trans C1.out) hS rfl (by kernel_rfl) ?_
            (try simp only [Act.put, List.setIfInBounds_toArray, List.set_cons_zero, List.set_cons_succ])
            ((with_reducible refine Ord.e_p (v := ?_) ?_ ?_ ?_ ?_); rotate_left; (· exact rfl); (· kernel_rfl); (· intro w2; go_simp; try with_reducible rfl))
            (try simp only [Act.put, List.setIfInBounds_toArray, List.set_cons_zero, List.set_cons_succ])
            ((with_reducible refine Ord.e_p (v := ?_) ?_ ?_ ?_ ?_); rotate_left; (· exact rfl); (· kernel_rfl); (· intro w2; go_simp; try with_reducible rfl))
            (try simp only [Act.put, List.setIfInBounds_toArray, List.set_cons_zero, List.set_cons_succ])
            ((with_reducible refine Ord.e_p (v := ?_) ?_ ?_ ?_ ?_); rotate_left; (· exact rfl); (· kernel_rfl); (· intro w2; go_simp; try with_reducible rfl))
            (try simp only [Act.put, List.setIfInBounds_toArray, List.set_cons_zero, List.set_cons_succ])
            refine Ord.e_rowS (b := gL) (o := offL + k * 14 + 1) Try.underlying25 rfl (by rw [rcC_size x.t x.V HxV.out]; kernel_rfl) rfl (by unfold rcC; simp) (fun w' hS => range_rec (Hrx.out w' (show Below _ w5 w' from hS))) hS (by kernel_rfl) ?_
            (try simp only [Act.put, List.setIfInBounds_toArray, List.set_cons_zero, List.set_cons_succ])
            ((with_reducible refine Ord.e_p (v := ?_) ?_ ?_ ?_ ?_); rotate_left; (· exact rfl); (· kernel_rfl); (· intro w2; go_simp; try with_reducible rfl))
            (try simp only [Act.put, List.setIfInBounds_toArray, List.set_cons_zero, List.set_cons_succ])
            ((with_reducible refine Ord.e_p (v := ?_) ?_ ?_ ?_ ?_); rotate_left; (· exact rfl); (· kernel_rfl); (· intro w2; go_simp; try with_reducible rfl))
            (try simp only [Act.put, List.setIfInBounds_toArray, List.set_cons_zero, List.set_cons_succ])
            ((with_reducible refine Ord.e_p (v := ?_) ?_ ?_ ?_ ?_); rotate_left; (· exact rfl); (· kernel_rfl); (· intro w2; go_simp; try with_reducible rfl))
            (try simp only [Act.put, List.setIfInBounds_toArray, List.set_cons_zero, List.set_cons_succ])
            refine Ord.e_rowS (b := gR) (o := offR + sK * 13) Try.underlying25 rfl (by rw [rcC_size x.t x.V HxV.out]; kernel_rfl) rfl (by unfold rcC; simp) (fun w' hS => Hrp.out w' (show Below _ w5 w' from hS)) hS (by kernel_rfl) ?_
            (try simp only [Act.put, List.setIfInBounds_toArray, List.set_cons_zero, List.set_cons_succ])
            ((with_reducible refine Ord.e_p (v := ?_) ?_ ?_ ?_ ?_); rotate_left; (· exact rfl); (· kernel_rfl); (· intro w2; go_simp; try with_reducible rfl))
            (try simp only [Act.put, List.setIfInBounds_toArray, List.set_cons_zero, List.set_cons_succ])
            ((with_reducible refine Ord.e_p (v := ?_) ?_ ?_ ?_ ?_); rotate_left; (· exact rfl); (· kernel_rfl); (· intro w2; go_simp; try with_reducible rfl))
            (try simp only [Act.put, List.setIfInBounds_toArray, List.set_cons_zero, List.set_cons_succ])
            ((with_reducible refine Ord.e_p (v := ?_) ?_ ?_ ?_ ?_); rotate_left; (· exact rfl); (· kernel_rfl); (· intro w2; go_simp; try with_reducible rfl))
            (try simp only [Act.put, List.setIfInBounds_toArray, List.set_cons_zero, List.set_cons_succ])
            ((with_reducible refine Ord.e_p (v := ?_) ?_ ?_ ?_ ?_); rotate_left; (· exact rfl); (· kernel_rfl); (· intro w2; go_simp; try with_reducible rfl))
            (try simp only [Act.put, List.setIfInBounds_toArray, List.set_cons_zero, List.set_cons_succ])
            ((with_reducible refine Ord.e_p (v := ?_) ?_ ?_ ?_ ?_); rotate_left; (· exact rfl); (· kernel_rfl); (· intro w2; go_simp; try with_reducible rfl))
            (try simp only [Act.put, List.setIfInBounds_toArray, List.set_cons_zero, List.set_cons_succ])
            ((with_reducible refine Ord.e_p (v := ?_) ?_ ?_ ?_ ?_); rotate_left; (· exact rfl); (· kernel_rfl); (· intro w2; go_simp; try with_reducible rfl))
            (try simp only [Act.put, List.setIfInBounds_toArray, List.set_cons_zero, List.set_cons_succ])
            ((with_reducible refine Ord.e_p (v := ?_) ?_ ?_ ?_ ?_); rotate_left; (· exact rfl); (· kernel_rfl); (· intro w2; go_simp; try with_reducible rfl))
            (try simp only [Act.put, List.setIfInBounds_toArray, List.set_cons_zero, List.set_cons_succ])
            ((with_reducible refine Ord.e_p (v := ?_) ?_ ?_ ?_ ?_); rotate_left; (· exact rfl); (· kernel_rfl); (· intro w2; go_simp; try with_reducible rfl))
            (try simp only [Act.put, List.setIfInBounds_toArray, List.set_cons_zero, List.set_cons_succ])
            ((with_reducible refine Ord.e_p (v := ?_) ?_ ?_ ?_ ?_); rotate_left; (· exact rfl); (· kernel_rfl); (· intro w2; go_simp; try with_reducible rfl))
            (try simp only [Act.put, List.setIfInBounds_toArray, List.set_cons_zero, List.set_cons_succ])
            ((with_reducible refine Ord.e_p (v := ?_) ?_ ?_ ?_ ?_); rotate_left; (· exact rfl); (· kernel_rfl); (· intro w2; go_simp; try with_reducible rfl))
            (try simp only [Act.put, List.setIfInBounds_toArray, List.set_cons_zero, List.set_cons_succ])
            ((with_reducible refine Ord.e_p (v := ?_) ?_ ?_ ?_ ?_); rotate_left; (· exact rfl); (· kernel_rfl); (· intro w2; go_simp; try with_reducible rfl))
            (try simp only [Act.put, List.setIfInBounds_toArray, List.set_cons_zero, List.set_cons_succ])
            refine Ord.e_loadS Try.underlying39 rfl (fun w' hS => ((show Below _ w5 w' from hS).cell (p := ⟨gb, 1, none⟩) hgb).trans C1.out) hS rfl (by kernel_rfl) ?_
            (try simp only [Act.put, List.setIfInBounds_toArray, List.set_cons_zero, List.set_cons_succ])
            ((with_reducible refine Ord.e_p (v := ?_) ?_ ?_ ?_ ?_); rotate_left; (· exact rfl); (· kernel_rfl); (· intro w2; go_simp; try with_reducible rfl))
            (try simp only [Act.put, List.setIfInBounds_toArray, List.set_cons_zero, List.set_cons_succ])
            ((with_reducible refine Ord.e_p (v := ?_) ?_ ?_ ?_ ?_); rotate_left; (· exact rfl); (· kernel_rfl); (· intro w2; go_simp; try with_reducible rfl))
            (try simp only [Act.put, List.setIfInBounds_toArray, List.set_cons_zero, List.set_cons_succ])
            ((with_reducible refine Ord.e_p (v := ?_) ?_ ?_ ?_ ?_); rotate_left; (· exact rfl); (· kernel_rfl); (· intro w2; go_simp; try with_reducible rfl))
            (try simp only [Act.put, List.setIfInBounds_toArray, List.set_cons_zero, List.set_cons_succ])
            refine Ord.e_loadS Try.underlying4 rfl (fun w' hS => range_key (Hrx.out w' (show Below _ w5 w' from hS))) hS rfl (by kernel_rfl) ?_
            (try simp only [Act.put, List.setIfInBounds_toArray, List.set_cons_zero, List.set_cons_succ])
            rw [hxk]
            ((with_reducible refine Ord.e_p (v := ?_) ?_ ?_ ?_ ?_); rotate_left; (· exact rfl); (· kernel_rfl); (· intro w2; go_simp; try with_reducible rfl))
            (try simp only [Act.put, List.setIfInBounds_toArray, List.set_cons_zero, List.set_cons_succ])
            ((with_reducible refine Ord.e_p (v := ?_) ?_ ?_ ?_ ?_); rotate_left; (· exact rfl); (· kernel_rfl); (· intro w2; go_simp; try with_reducible rfl))
            (try simp only [Act.put, List.setIfInBounds_toArray, List.set_cons_zero, List.set_cons_succ])
            refine Ord.e_nil ?_
            clear hq hxk hkey
            go_wp2
            go_roundw
            case rel => exact ⟨k + 1, by omega, by go_num, (by have h9 := HsK.out; go_num), hS⟩
            case measure => simp [intOf]; omega
        · obtain rfl : k = n4 := by omega
          have hat2 : ((at0 + k : Nat) : Int) = ((Bs.take (i + 1)).flatten.length : Int) := by rw [Hsn1.out, hl4]
          have Hat2 := Lib.hid hat2
          have hbr2 := bnx hbr hbq
          clear hat2
          go_wp2
          go_roundw
          case rel => exact ⟨i + 1, by omega, by go_num, val_int Hat2.out, hbr2⟩
          case measure => simp [intOf]; omega
    · obtain rfl : i = nb := by omega
      have hfin : (Bs.take i).flatten.length = n := by rw [List.take_of_length_le (by rw [← Hnb.out]; exact Nat.le_refl _)]; exact Hfl.out
      rw [hfin]
      have hbf := bnx hb hbr
      clear hfin
      go_wp2
      go_ret
      exact ⟨by simp, hbf⟩

end Go.Proofs.Ytplgcfjcdjlnbaa
