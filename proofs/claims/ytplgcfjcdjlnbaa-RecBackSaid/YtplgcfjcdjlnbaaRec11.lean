/-
  RecTakes walked (printed by gen_rec11.py).
-/
import Derived.Test.YtplgcfjcdjlnbaaRec10
set_option linter.unusedSimpArgs false
set_option linter.unusedVariables false
namespace Go.Proofs.Ytplgcfjcdjlnbaa
open Go.RowKit NumLaw
attribute [local go_sem] Addr.add_mid
attribute [-go_sem] run_eql_struct

theorem rec_guard : Try.prog.eqGuardType Try.prog.depth 25 = false := by kernel_rfl
theorem recTV_len {V : List Int} {b : List UInt8} {t : Nat} (ht : t < 4294967296) (hV : V.length = 12) (h32 : ∀ x ∈ V, in32 x) : (recTV V b).length = 12 := by
  by_cases h : recTE V b = 0
  · exact (rec_back ht hV h32 h).2.2.2.1
  · rw [(recT_bad (t := t) h).2.1]; rfl
theorem keV_len' (b : List UInt8) : (keV b).length = 12 := keV_len b

set_option maxRecDepth 10000 in
set_option maxHeartbeats 4000000 in
theorem rectakes_any (t : Nat) (V : List Int) (A : Option Addr) (n c : Nat) (b : List UInt8) (w : World) (ht : t < 4294967296) (hV : V.length = 12) (h32 : ∀ x ∈ V, in32 x) (h : Rd w w.heap.size 1 A n c (bv b)) :
    Calls Try.prog 5 #[.agg (rcC t V).toArray, .slice A n c] w fun e w' => e = .returned (.bool true) ∧ Below w.heap.size w w' := by
  obtain ⟨B, hBe⟩ : ∃ B, B = w.heap.size := ⟨_, rfl⟩
  have hB : B ≤ w.heap.size := Nat.le_of_eq hBe
  rw [← hBe] at h
  clear hBe
  have HV := Lib.hid hV
  have a0 : RcB (w.alloc (.cells (rcC t V).toArray 25)) w.heap.size t V := heap_alloc_new w _
  have hb : Below w.heap.size w (w.alloc (.cells (rcC t V).toArray 25)) := (Below.refl _ _).alloc (Nat.le_refl _) _
  by_cases h5 : n ≤ 500
  case neg =>
    have h5' : ¬ (n : Int) ≤ 500 := by omega
    go_enter Try.func5, Try.ntmps5
    go_wp2_with fail
    generalize (w.alloc (.cells (rcC t V).toArray 25)) = w1 at *
    go_fit (knows34 w1)
    rintro e w2 ⟨rfl, hbx⟩
    have hb2 := bnx hb hbx
    clear hbx
    go_wp2
    go_ret
    exact ⟨rfl, hb2⟩
  have h5' : (n : Int) ≤ 500 := by omega
  have hn : n ≤ 1000000 := by omega
  have hlK := keV_len b
  have hlD := recTV_len (b := b) ht hV h32
  have k1 := fun w1 (h1 : Rd w1 B 1 A n c (bv b)) (hB1 : B ≤ w1.heap.size) => takeKey_any A n c B b w1 h1 hB1 hn
  have k2 := fun w1 (h1 : Rd w1 B 1 A n c (bv b)) (hB1 : B ≤ w1.heap.size) => qTakeKey_any A n c B b w1 h1 hB1 hn
  have k3 := fun w1 (h1 : Rd w1 B 1 A n c (bv b)) (hB1 : B ≤ w1.heap.size) => recTakeDelta_any t V A n c B b w1 ht hV h32 h1 hB1 hn
  have k4 := fun w1 (h1 : Rd w1 B 1 A n c (bv b)) (hB1 : B ≤ w1.heap.size) => qTakeDelta_any t V A n c B b w1 ht hV h32 h1 hB1 hn
  generalize keT b = T1 at *
  generalize keV b = V1 at *
  generalize keN b = n1 at *
  generalize keE b = e1 at *
  generalize recTt t V b = T2 at *
  generalize recTV V b = V2 at *
  generalize recTn V b = n2 at *
  generalize recTE V b = e2 at *
  have K1 := Lib.hid k1
  have K2 := Lib.hid k2
  have K3 := Lib.hid k3
  have K4 := Lib.hid k4
  have HK := Lib.hid hlK
  have HD := Lib.hid hlD
  have q1 := fun w => rec_eql T1 T1 V1 V1 hlK hlK w
  have q2 := fun w => rec_eql T2 T2 V2 V2 hlD hlD w
  simp only [and_self, decide_true] at q1 q2
  have qg := rec_guard
  clear hV h32 k1 k2 k3 k4 hlK hlD
  go_enter Try.func5, Try.ntmps5
  go_wp2_with fail
  generalize (w.alloc (.cells (rcC t V).toArray 25)) = w1 at *
  go_fit (knows34 w1)
  rintro e w2 ⟨rfl, hbx⟩
  replace a0 : RcB w2 w.heap.size t V := blk_old a0 hbx (blk_lt a0)
  replace hb := bnx hb hbx
  clear hbx w1
  go_wp2_with fail
  go_fit (K1.out w2 (h.up (hb.mono hB)) (Nat.le_trans hB hb.size))
  rintro e w3 ⟨rfl, hbx⟩
  replace a0 : RcB w3 w.heap.size t V := blk_old a0 hbx (blk_lt a0)
  replace hb := bnx hb hbx
  clear hbx
  go_wp2_with (first | (with_reducible refine stop_loadT 25 ?_) | (with_reducible refine stop_storeT 25 ?_) | (with_reducible refine stop_loadG 25 ?_))
  have hbx : Below w3.heap.size w3 (w3.alloc (.cells #[.int .u32 0, .int .i32 0, .int .i32 0, .int .i32 0, .int .i32 0, .int .i32 0, .int .i32 0, .int .i32 0, .int .i32 0, .int .i32 0, .int .i32 0, .int .i32 0, .int .i32 0] 25)) := (Below.refl _ _).alloc (Nat.le_refl _) _
  have r0 := heap_alloc_new w3 (.cells #[.int .u32 0, .int .i32 0, .int .i32 0, .int .i32 0, .int .i32 0, .int .i32 0, .int .i32 0, .int .i32 0, .int .i32 0, .int .i32 0, .int .i32 0, .int .i32 0, .int .i32 0] 25)
  have lt_a0_g0 : w.heap.size < w3.heap.size := blk_lt a0
  replace a0 : RcB _ w.heap.size t V := blk_old a0 hbx (blk_lt a0)
  replace hb := bnx hb hbx
  have hbg0 : w.heap.size ≤ w3.heap.size := by omega
  generalize (w3.alloc (.cells #[.int .u32 0, .int .i32 0, .int .i32 0, .int .i32 0, .int .i32 0, .int .i32 0, .int .i32 0, .int .i32 0, .int .i32 0, .int .i32 0, .int .i32 0, .int .i32 0, .int .i32 0] 25)) = w4 at *
  generalize w3.heap.size = g0 at *
  clear hbx
  replace r0 : RcB w4 g0 0 z12 := r0
  refine go_ (wpList_store_row rfl _ _ _ rfl g0 (rcC T1 V1).toArray rfl rfl _ _ r0 (by rw [List.size_toArray, rcC_size T1 V1 HK.out]; kernel_rfl) (by rw [List.size_toArray, List.size_toArray, rcC_size T1 V1 HK.out]; rfl) (all_oneCell_toArray (rcC_one T1 V1)) ?_)
  obtain ⟨x0, hAz⟩ := rc_store T1 V1 HK.out w4 g0 r0
  replace a0 : RcB _ w.heap.size t V := hAz.keep a0 (by omega)
  replace hb := below_awG hb hAz (fun k hk => by omega) hb.size
  generalize (w4.setRow g0 (rcC T1 V1).toArray) = w5 at *
  clear hAz r0 w4
  go_wp2_with fail
  go_fit (K2.out w5 (h.up (hb.mono hB)) (Nat.le_trans hB hb.size))
  rintro e w6 ⟨rfl, hbx⟩
  replace a0 : RcB w6 w.heap.size t V := blk_old a0 hbx (blk_lt a0)
  replace x0 : RcB w6 g0 T1 V1 := blk_old x0 hbx (blk_lt x0)
  replace hb := bnx hb hbx
  clear hbx
  go_wp2_with (first | (with_reducible refine stop_loadT 25 ?_) | (with_reducible refine stop_storeT 25 ?_) | (with_reducible refine stop_loadG 25 ?_))
  have hbx : Below w6.heap.size w6 (w6.alloc (.cells #[.int .u32 0, .int .i32 0, .int .i32 0, .int .i32 0, .int .i32 0, .int .i32 0, .int .i32 0, .int .i32 0, .int .i32 0, .int .i32 0, .int .i32 0, .int .i32 0, .int .i32 0] 25)) := (Below.refl _ _).alloc (Nat.le_refl _) _
  have r1 := heap_alloc_new w6 (.cells #[.int .u32 0, .int .i32 0, .int .i32 0, .int .i32 0, .int .i32 0, .int .i32 0, .int .i32 0, .int .i32 0, .int .i32 0, .int .i32 0, .int .i32 0, .int .i32 0, .int .i32 0] 25)
  have lt_a0_g1 : w.heap.size < w6.heap.size := blk_lt a0
  replace a0 : RcB _ w.heap.size t V := blk_old a0 hbx (blk_lt a0)
  have lt_x0_g1 : g0 < w6.heap.size := blk_lt x0
  replace x0 : RcB _ g0 T1 V1 := blk_old x0 hbx (blk_lt x0)
  replace hb := bnx hb hbx
  have hbg1 : w.heap.size ≤ w6.heap.size := by omega
  generalize (w6.alloc (.cells #[.int .u32 0, .int .i32 0, .int .i32 0, .int .i32 0, .int .i32 0, .int .i32 0, .int .i32 0, .int .i32 0, .int .i32 0, .int .i32 0, .int .i32 0, .int .i32 0, .int .i32 0] 25)) = w7 at *
  generalize w6.heap.size = g1 at *
  clear hbx
  replace r1 : RcB w7 g1 0 z12 := r1
  refine go_ (wpList_store_row rfl _ _ _ rfl g1 (rcC T1 V1).toArray rfl rfl _ _ r1 (by rw [List.size_toArray, rcC_size T1 V1 HK.out]; kernel_rfl) (by rw [List.size_toArray, List.size_toArray, rcC_size T1 V1 HK.out]; rfl) (all_oneCell_toArray (rcC_one T1 V1)) ?_)
  obtain ⟨x1, hAz⟩ := rc_store T1 V1 HK.out w7 g1 r1
  replace a0 : RcB _ w.heap.size t V := hAz.keep a0 (by omega)
  replace x0 : RcB _ g0 T1 V1 := hAz.keep x0 (by omega)
  replace hb := below_awG hb hAz (fun k hk => by omega) hb.size
  generalize (w7.setRow g1 (rcC T1 V1).toArray) = w8 at *
  clear hAz r1 w7
  go_wp2_with (first | (with_reducible refine stop_loadT 25 ?_) | (with_reducible refine stop_storeT 25 ?_) | (with_reducible refine stop_loadG 25 ?_))
  refine go_ (wpList_load_mid rfl _ _ rfl w.heap.size 0 rfl _ _ a0.all Try.underlying25 rfl (by rw [rcC_size t V HV.out]; kernel_rfl) ?_)
  go_wp2_with fail
  go_fit (K3.out w8 (h.up (hb.mono hB)) (Nat.le_trans hB hb.size))
  rintro e w9 ⟨rfl, hbx⟩
  replace a0 : RcB w9 w.heap.size t V := blk_old a0 hbx (blk_lt a0)
  replace x0 : RcB w9 g0 T1 V1 := blk_old x0 hbx (blk_lt x0)
  replace x1 : RcB w9 g1 T1 V1 := blk_old x1 hbx (blk_lt x1)
  replace hb := bnx hb hbx
  clear hbx
  go_wp2_with (first | (with_reducible refine stop_loadT 25 ?_) | (with_reducible refine stop_storeT 25 ?_) | (with_reducible refine stop_loadG 25 ?_))
  have hbx : Below w9.heap.size w9 (w9.alloc (.cells #[.int .u32 0, .int .i32 0, .int .i32 0, .int .i32 0, .int .i32 0, .int .i32 0, .int .i32 0, .int .i32 0, .int .i32 0, .int .i32 0, .int .i32 0, .int .i32 0, .int .i32 0] 25)) := (Below.refl _ _).alloc (Nat.le_refl _) _
  have r2 := heap_alloc_new w9 (.cells #[.int .u32 0, .int .i32 0, .int .i32 0, .int .i32 0, .int .i32 0, .int .i32 0, .int .i32 0, .int .i32 0, .int .i32 0, .int .i32 0, .int .i32 0, .int .i32 0, .int .i32 0] 25)
  have lt_a0_g2 : w.heap.size < w9.heap.size := blk_lt a0
  replace a0 : RcB _ w.heap.size t V := blk_old a0 hbx (blk_lt a0)
  have lt_x0_g2 : g0 < w9.heap.size := blk_lt x0
  replace x0 : RcB _ g0 T1 V1 := blk_old x0 hbx (blk_lt x0)
  have lt_x1_g2 : g1 < w9.heap.size := blk_lt x1
  replace x1 : RcB _ g1 T1 V1 := blk_old x1 hbx (blk_lt x1)
  replace hb := bnx hb hbx
  have hbg2 : w.heap.size ≤ w9.heap.size := by omega
  generalize (w9.alloc (.cells #[.int .u32 0, .int .i32 0, .int .i32 0, .int .i32 0, .int .i32 0, .int .i32 0, .int .i32 0, .int .i32 0, .int .i32 0, .int .i32 0, .int .i32 0, .int .i32 0, .int .i32 0] 25)) = w10 at *
  generalize w9.heap.size = g2 at *
  clear hbx
  replace r2 : RcB w10 g2 0 z12 := r2
  refine go_ (wpList_store_row rfl _ _ _ rfl g2 (rcC T2 V2).toArray rfl rfl _ _ r2 (by rw [List.size_toArray, rcC_size T2 V2 HD.out]; kernel_rfl) (by rw [List.size_toArray, List.size_toArray, rcC_size T2 V2 HD.out]; rfl) (all_oneCell_toArray (rcC_one T2 V2)) ?_)
  obtain ⟨x2, hAz⟩ := rc_store T2 V2 HD.out w10 g2 r2
  replace a0 : RcB _ w.heap.size t V := hAz.keep a0 (by omega)
  replace x0 : RcB _ g0 T1 V1 := hAz.keep x0 (by omega)
  replace x1 : RcB _ g1 T1 V1 := hAz.keep x1 (by omega)
  replace hb := below_awG hb hAz (fun k hk => by omega) hb.size
  generalize (w10.setRow g2 (rcC T2 V2).toArray) = w11 at *
  clear hAz r2 w10
  go_wp2_with (first | (with_reducible refine stop_loadT 25 ?_) | (with_reducible refine stop_storeT 25 ?_) | (with_reducible refine stop_loadG 25 ?_))
  refine go_ (wpList_load_mid rfl _ _ rfl w.heap.size 0 rfl _ _ a0.all Try.underlying25 rfl (by rw [rcC_size t V HV.out]; kernel_rfl) ?_)
  go_wp2_with fail
  go_fit (K4.out w11 (h.up (hb.mono hB)) (Nat.le_trans hB hb.size))
  rintro e w12 ⟨rfl, hbx⟩
  replace a0 : RcB w12 w.heap.size t V := blk_old a0 hbx (blk_lt a0)
  replace x0 : RcB w12 g0 T1 V1 := blk_old x0 hbx (blk_lt x0)
  replace x1 : RcB w12 g1 T1 V1 := blk_old x1 hbx (blk_lt x1)
  replace x2 : RcB w12 g2 T2 V2 := blk_old x2 hbx (blk_lt x2)
  replace hb := bnx hb hbx
  clear hbx
  go_wp2_with (first | (with_reducible refine stop_loadT 25 ?_) | (with_reducible refine stop_storeT 25 ?_) | (with_reducible refine stop_loadG 25 ?_))
  have hbx : Below w12.heap.size w12 (w12.alloc (.cells #[.int .u32 0, .int .i32 0, .int .i32 0, .int .i32 0, .int .i32 0, .int .i32 0, .int .i32 0, .int .i32 0, .int .i32 0, .int .i32 0, .int .i32 0, .int .i32 0, .int .i32 0] 25)) := (Below.refl _ _).alloc (Nat.le_refl _) _
  have r3 := heap_alloc_new w12 (.cells #[.int .u32 0, .int .i32 0, .int .i32 0, .int .i32 0, .int .i32 0, .int .i32 0, .int .i32 0, .int .i32 0, .int .i32 0, .int .i32 0, .int .i32 0, .int .i32 0, .int .i32 0] 25)
  have lt_a0_g3 : w.heap.size < w12.heap.size := blk_lt a0
  replace a0 : RcB _ w.heap.size t V := blk_old a0 hbx (blk_lt a0)
  have lt_x0_g3 : g0 < w12.heap.size := blk_lt x0
  replace x0 : RcB _ g0 T1 V1 := blk_old x0 hbx (blk_lt x0)
  have lt_x1_g3 : g1 < w12.heap.size := blk_lt x1
  replace x1 : RcB _ g1 T1 V1 := blk_old x1 hbx (blk_lt x1)
  have lt_x2_g3 : g2 < w12.heap.size := blk_lt x2
  replace x2 : RcB _ g2 T2 V2 := blk_old x2 hbx (blk_lt x2)
  replace hb := bnx hb hbx
  have hbg3 : w.heap.size ≤ w12.heap.size := by omega
  generalize (w12.alloc (.cells #[.int .u32 0, .int .i32 0, .int .i32 0, .int .i32 0, .int .i32 0, .int .i32 0, .int .i32 0, .int .i32 0, .int .i32 0, .int .i32 0, .int .i32 0, .int .i32 0, .int .i32 0] 25)) = w13 at *
  generalize w12.heap.size = g3 at *
  clear hbx
  replace r3 : RcB w13 g3 0 z12 := r3
  refine go_ (wpList_store_row rfl _ _ _ rfl g3 (rcC T2 V2).toArray rfl rfl _ _ r3 (by rw [List.size_toArray, rcC_size T2 V2 HD.out]; kernel_rfl) (by rw [List.size_toArray, List.size_toArray, rcC_size T2 V2 HD.out]; rfl) (all_oneCell_toArray (rcC_one T2 V2)) ?_)
  obtain ⟨x3, hAz⟩ := rc_store T2 V2 HD.out w13 g3 r3
  replace a0 : RcB _ w.heap.size t V := hAz.keep a0 (by omega)
  replace x0 : RcB _ g0 T1 V1 := hAz.keep x0 (by omega)
  replace x1 : RcB _ g1 T1 V1 := hAz.keep x1 (by omega)
  replace x2 : RcB _ g2 T2 V2 := hAz.keep x2 (by omega)
  replace hb := below_awG hb hAz (fun k hk => by omega) hb.size
  generalize (w13.setRow g3 (rcC T2 V2).toArray) = w14 at *
  clear hAz r3 w13
  go_wp2_with (first | (with_reducible refine stop_loadT 25 ?_) | (with_reducible refine stop_storeT 25 ?_) | (with_reducible refine stop_loadG 25 ?_))
  refine go_ (wpList_load_mid rfl _ _ rfl g0 0 rfl _ _ x0.all Try.underlying25 rfl (by rw [rcC_size T1 V1 HK.out]; kernel_rfl) ?_)
  go_wp2_with (first | (with_reducible refine stop_loadT 25 ?_) | (with_reducible refine stop_storeT 25 ?_) | (with_reducible refine stop_loadG 25 ?_))
  refine go_ (wpList_load_mid rfl _ _ rfl g1 0 rfl _ _ x1.all Try.underlying25 rfl (by rw [rcC_size T1 V1 HK.out]; kernel_rfl) ?_)
  go_wp2_with fail
  go_fit (num34_any (e1 : Int) w14)
  rintro e wn ⟨rfl, rfl⟩
  go_wp2_with fail
  go_fit (num34_any (e1 : Int) w14)
  rintro e wn ⟨rfl, rfl⟩
  go_wp2_with (first | (with_reducible refine stop_loadT 25 ?_) | (with_reducible refine stop_storeT 25 ?_) | (with_reducible refine stop_loadG 25 ?_))
  refine go_ (wpList_load_rowG (by kernel_rfl) _ _ rfl g2 rfl _ _ _ _ x2 Try.underlying25 rfl (by rw [List.size_toArray, rcC_size T2 V2 HD.out]; kernel_rfl) ?_)
  go_wp2_with (first | (with_reducible refine stop_loadT 25 ?_) | (with_reducible refine stop_storeT 25 ?_) | (with_reducible refine stop_loadG 25 ?_))
  refine go_ (wpList_load_rowG (by kernel_rfl) _ _ rfl g3 rfl _ _ _ _ x3 Try.underlying25 rfl (by rw [List.size_toArray, rcC_size T2 V2 HD.out]; kernel_rfl) ?_)
  go_wp2_with fail
  go_fit (num34_any (e2 : Int) w14)
  rintro e wn ⟨rfl, rfl⟩
  go_wp2_with fail
  go_fit (num34_any (e2 : Int) w14)
  rintro e wn ⟨rfl, rfl⟩
  go_wp2
  go_ret
  exact ⟨rfl, hb⟩

end Go.Proofs.Ytplgcfjcdjlnbaa
