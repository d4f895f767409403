/-
  BlockBack walked (printed by gen_blk10.py).
-/
import Derived.Test.YtplgcfjcdjlnbaaKBlk6
import Derived.Test.YtplgcfjcdjlnbaaKGR
set_option linter.unusedSimpArgs false
set_option linter.unusedVariables false
namespace Go.Proofs.Ytplgcfjcdjlnbaa
open Go.RowKit NumLaw CrcLaw
attribute [local go_sem] Addr.add_mid

theorem same_none {w : World} {no : Nat} {L : List En} : decide (no = 0 ∧ L = []) = decide (no = 0 ∧ L = ([] : List En)) := rfl
set_option maxRecDepth 10000 in
set_option maxHeartbeats 8000000 in
theorem blockback_any (no : Nat) (A : Option Addr) (n c : Nat) (L : List En) (A' : Option Addr) (n' c' : Nat) (s : List UInt8) (w : World) (h : RdE w w.heap.size A n c L) (hno : no < 4294967296) (hq : ∀ x ∈ L, EnQ x) (h' : Rd w w.heap.size 1 A' n' c' (bv s)) :
    Calls Try.prog 9 #[.agg #[.int .u32 (no : Int), .slice A n c], .slice A' n' c'] w fun e w' => e = .returned (.bool true) ∧ Below w.heap.size w w' := by
  have hmx := h.2.2.2.1
  have hle := h.2.2.1
  have hmx' := h'.max
  have hle' := h'.le
  unfold maxLen at hmx hmx'
  have hb := (Below.refl w.heap.size w).alloc (Nat.le_refl _) (.cells #[.int .u32 (no : Int), .slice A n c] 41)
  have a0 := heap_alloc_new w (.cells #[.int .u32 (no : Int), .slice A n c] 41)
  by_cases hn : 100 < n ∨ 300 < n'
  · by_cases h1 : 100 < n
    · have hn' : (100 : Int) < (n : Int) := by omega
      go_enter Try.func9, Try.ntmps9
      go_wp2_with (with_reducible refine stop_loadT 39 ?_)
      generalize (w.alloc (.cells #[.int .u32 (no : Int), .slice A n c] 41)) = w1 at *
      have c1 := blk_cell (i := 1) (v := .slice A n c) a0 rfl
      refine go_ ?_
      go_wp2_with fail
      go_fit (knows35 w1)
      rintro e w2 ⟨rfl, hb2⟩
      go_wp2
      go_ret
      exact ⟨rfl, bnx hb hb2⟩
    · have hn' : ¬ (100 : Int) < (n : Int) := by omega
      have hn2' : (300 : Int) < (n' : Int) := by omega
      go_enter Try.func9, Try.ntmps9
      go_wp2_with (with_reducible refine stop_loadT 39 ?_)
      generalize (w.alloc (.cells #[.int .u32 (no : Int), .slice A n c] 41)) = w1 at *
      have c1 := blk_cell (i := 1) (v := .slice A n c) a0 rfl
      refine go_ ?_
      go_wp2_with fail
      go_fit (knows35 w1)
      rintro e w2 ⟨rfl, hb2⟩
      go_wp2
      go_ret
      exact ⟨rfl, bnx hb hb2⟩
  have hn1' : ¬ (100 : Int) < (n : Int) := by omega
  have hn2' : ¬ (300 : Int) < (n' : Int) := by omega
  have Hput := Lib.hid (fun w1 (h1 : RdE w1 w.heap.size A n c L) (hB1 : w.heap.size ≤ w1.heap.size) => blkPut_any no A n c w.heap.size L w1 hno h1 hB1 hq (by omega))
  have hbl := h'.blen
  have Htk := Lib.hid (fun w1 (h1 : Rd w1 w.heap.size 1 A' n' c' (bv s)) (hB1 : w.heap.size ≤ w1.heap.size) => blkTake_any A' n' c' w.heap.size s w1 h1 hB1 (by omega))
  have Htk2 := Lib.hid (fun A1 n1 c1 B w1 (h1 : Rd w1 B 1 A1 n1 c1 (bv (putB no L))) (hB1 : B ≤ w1.heap.size) (hn : n1 ≤ 1000000) => blkTake_any A1 n1 c1 B (putB no L) w1 h1 hB1 hn)
  have Hthere := Lib.hid (fun (h0 : putE L = 0) => blk_there (no := no) hno hq h0)
  have Hnone := Lib.hid (fun (h0 : putE L ≠ 0) => putB_none (no := no) h0)
  have Hbad := Lib.hid (fun (h0 : blkE s ≠ 0) => blk_bad h0)
  have Hback := Lib.hid (fun (h0 : blkE s = 0) => blk_back h0)
  unfold RetTBk at Htk Htk2
  generalize hpB : putB no L = pB at *
  generalize putE L = pE at *
  generalize blkNo s = oN at *
  generalize blkL s = oL at *
  generalize blkE s = oE at *
  have Hbl := Lib.hid hbl
  clear hpB hbl hn
  go_enter Try.func9, Try.ntmps9
  go_wp2_with (with_reducible refine stop_loadT 39 ?_)
  generalize (w.alloc (.cells #[.int .u32 (no : Int), .slice A n c] 41)) = w1 at *
  have c1 := blk_cell (i := 1) (v := .slice A n c) a0 rfl
  refine go_ ?_
  go_wp2_with fail
  go_fit (knows35 w1)
  rintro e w2 ⟨rfl, hbx⟩
  replace a0 := blk_old a0 hbx (blk_lt a0)
  replace hb := bnx hb hbx
  clear hbx c1 w1
  go_wp2_with (first | (with_reducible refine stop_loadT 41 ?_) | (with_reducible refine stop_storeT 41 ?_))
  refine go_ (wpList_load_row rfl _ _ rfl w.heap.size rfl _ _ _ _ a0 Try.underlying41 rfl (by kernel_rfl) ?_)
  go_wp2_with fail
  go_fit (Hput.out w2 (h.up hb) hb.size)
  rintro e w3 ⟨A3, c3, n3, rfl, own3, hbx⟩
  have hl3 := own_len own3
  have hr3 := Rd.own own3
  replace a0 := blk_old a0 hbx (blk_lt a0)
  replace hb := bnx hb hbx
  clear hbx own3 w2
  go_wp2_with fail
  go_fit (num35_any (pE : Int) w3)
  rintro e w4 ⟨rfl, rfl⟩
  by_cases hp : pE = 0
  · obtain ⟨e1, e2, e3, e4⟩ := Hthere.out hp
    rw [e4] at hl3
    subst hl3
    subst hp
    have htk := Htk2.out A3 256 c3 _ w3 hr3 (Nat.le_refl _) (by omega)
    rw [e1, e2, e3] at htk
    have Ht3 := Lib.hid htk
    clear e1 e2 e3 e4 htk
    rw [show ((0 : Nat) : Int) = 0 from rfl]
    go_wp2_with fail
    go_fit Ht3.out
    rintro e w5 ⟨A5, n5, c5, rfl, hr5, hbx⟩
    have a5 := heap_alloc_new w5 (.cells #[.int .u32 (no : Int), .slice A5 n5 c5] 41)
    have hbb : Below w5.heap.size w5 (w5.alloc (.cells #[.int .u32 (no : Int), .slice A5 n5 c5] 41)) := (Below.refl _ _).alloc (Nat.le_refl _) _
    have hby := bnx hbx hbb
    replace a0 := blk_old a0 hby (blk_lt a0)
    replace hb := bnx hb hby
    replace hr5 := RdR.nx hr5 hbb
    clear hbx hbb hby hr3
    go_wp2_with (with_reducible refine stop_loadT 41 ?_)
    generalize (w5.alloc (.cells #[.int .u32 (no : Int), .slice A5 n5 c5] 41)) = w6 at *
    generalize w5.heap.size = gp at *
    refine go_ (wpList_load_row rfl _ _ rfl gp rfl _ _ _ _ a5 Try.underlying41 rfl (by kernel_rfl) ?_)
    go_wp2_with (first | (with_reducible refine stop_loadT 41 ?_) | (with_reducible refine stop_storeT 41 ?_))
    refine go_ (wpList_load_row rfl _ _ rfl w.heap.size rfl _ _ _ _ a0 Try.underlying41 rfl (by kernel_rfl) ?_)
    have hsm := same35_any no A5 n5 c5 no A n c L L w6.heap.size w6 hr5 ((h.up hb).more hb.size) (Nat.le_refl _)
    rw [decide_eq_true (⟨rfl, rfl⟩ : no = no ∧ L = L)] at hsm
    have Hsm := Lib.hid hsm
    clear hsm hr5 a5
    go_wp2_with fail
    go_fit Hsm.out
    rintro e w7 ⟨rfl, hbx⟩
    replace a0 := blk_old a0 hbx (blk_lt a0)
    replace hb := bnx hb hbx
    clear hbx
    go_wp2_with fail
    go_fit (num35_any 0 w7)
    rintro e w8 ⟨rfl, rfl⟩
    go_wp2_with fail
    go_fit (Htk.out w7 (h'.up hb) hb.size)
    rintro e wa ⟨Aa, na, ca, rfl, hra, hbx⟩
    have aa := heap_alloc_new wa (.cells #[.int .u32 (oN : Int), .slice Aa na ca] 41)
    have hbb : Below wa.heap.size wa (wa.alloc (.cells #[.int .u32 (oN : Int), .slice Aa na ca] 41)) := (Below.refl _ _).alloc (Nat.le_refl _) _
    have hby := bnx hbx hbb
    replace hb := bnx hb hby
    replace hra := RdR.nx hra hbb
    clear hbx hbb hby a0
    go_wp2_with fail
    generalize (wa.alloc (.cells #[.int .u32 (oN : Int), .slice Aa na ca] 41)) = wb at *
    generalize wa.heap.size = gq at *
    go_fit (num35_any (oE : Int) wb)
    rintro e wc ⟨rfl, rfl⟩
    by_cases ho : oE = 0
    · obtain ⟨b1, b2, b3, b4, b5⟩ := Hback.out ho
      have hna : na ≤ 255 := by have := (show RdE _ _ Aa na ca oL from hra).len; omega
      have hpu := blkPut_any oN Aa na ca wb.heap.size oL wb b3 hra (Nat.le_refl _) b4 (by omega)
      rw [b1, b2] at hpu
      have Hpu := Lib.hid hpu
      have ho' : (oE : Int) = 0 := by omega
      have hoq : ((oE : Int) != 0) = false := by simp; omega
      clear b1 b2 b3 b4 b5 hpu
      go_wp2_with (first | (with_reducible refine stop_loadT 41 ?_) | (with_reducible refine stop_storeT 41 ?_))
      refine go_ (wpList_load_row rfl _ _ rfl gq rfl _ _ _ _ aa Try.underlying41 rfl (by kernel_rfl) ?_)
      go_wp2_with fail
      go_fit Hpu.out
      rintro e wd ⟨Ad, cd, nd, rfl, ownd, hbx⟩
      have hrd := Rd.own ownd
      replace hb := bnx hb hbx
      have v2 := run_str wd 26 9 5 Try.underlying26 Try.underlying5 Try.underlying9 hrd
      have v3 := run_str wd 26 9 5 Try.underlying26 Try.underlying5 Try.underlying9 (h'.up hb)
      clear hbx hra aa ownd
      go_wp2_with fail
      go_fit (num35_any 0 wd)
      rintro e we ⟨rfl, rfl⟩
      go_wp2
      go_ret
      exact ⟨rfl, hb⟩
    · obtain ⟨b1, b2⟩ := Hbad.out ho
      subst b1
      subst b2
      have ho' : ¬ (oE : Int) = 0 := by omega
      have hoq : ((oE : Int) != 0) = true := by simp; omega
      have hsm := same35_any 0 Aa na ca 0 none 0 0 [] [] wb.heap.size wb hra (RdR.none_ _ _ _) (Nat.le_refl _)
      rw [decide_eq_true (⟨rfl, rfl⟩ : 0 = 0 ∧ ([] : List En) = []), show ((0 : Nat) : Int) = 0 from rfl] at hsm
      have Hsm := Lib.hid hsm
      rw [show ((0 : Nat) : Int) = 0 from rfl] at aa
      clear hsm hra
      go_wp2_with (first | (with_reducible refine stop_loadT 41 ?_) | (with_reducible refine stop_storeT 41 ?_))
      refine go_ (wpList_load_row rfl _ _ rfl gq rfl _ _ _ _ aa Try.underlying41 rfl (by kernel_rfl) ?_)
      go_wp2_with fail
      go_fit Hsm.out
      rintro e wd ⟨rfl, hbx⟩
      replace hb := bnx hb hbx
      clear hbx aa
      go_wp2_with fail
      go_fit (num35_any 0 wd)
      rintro e we ⟨rfl, rfl⟩
      go_wp2
      go_ret
      exact ⟨rfl, hb⟩
  · have hl0 := Hnone.out hp
    subst hl0
    have hl3' : 0 = n3 := hl3
    subst hl3'
    have hp' : ¬ (pE : Int) = 0 := by omega
    have hpq : ((pE : Int) == 0) = false := by simp; omega
    clear hr3
    go_wp2_with fail
    go_fit (Htk.out w3 (h'.up hb) hb.size)
    rintro e wa ⟨Aa, na, ca, rfl, hra, hbx⟩
    have aa := heap_alloc_new wa (.cells #[.int .u32 (oN : Int), .slice Aa na ca] 41)
    have hbb : Below wa.heap.size wa (wa.alloc (.cells #[.int .u32 (oN : Int), .slice Aa na ca] 41)) := (Below.refl _ _).alloc (Nat.le_refl _) _
    have hby := bnx hbx hbb
    replace hb := bnx hb hby
    replace hra := RdR.nx hra hbb
    clear hbx hbb hby a0
    go_wp2_with fail
    generalize (wa.alloc (.cells #[.int .u32 (oN : Int), .slice Aa na ca] 41)) = wb at *
    generalize wa.heap.size = gq at *
    go_fit (num35_any (oE : Int) wb)
    rintro e wc ⟨rfl, rfl⟩
    by_cases ho : oE = 0
    · obtain ⟨b1, b2, b3, b4, b5⟩ := Hback.out ho
      have hna : na ≤ 255 := by have := (show RdE _ _ Aa na ca oL from hra).len; omega
      have hpu := blkPut_any oN Aa na ca wb.heap.size oL wb b3 hra (Nat.le_refl _) b4 (by omega)
      rw [b1, b2] at hpu
      have Hpu := Lib.hid hpu
      have ho' : (oE : Int) = 0 := by omega
      have hoq : ((oE : Int) != 0) = false := by simp; omega
      clear b1 b2 b3 b4 b5 hpu
      go_wp2_with (first | (with_reducible refine stop_loadT 41 ?_) | (with_reducible refine stop_storeT 41 ?_))
      refine go_ (wpList_load_row rfl _ _ rfl gq rfl _ _ _ _ aa Try.underlying41 rfl (by kernel_rfl) ?_)
      go_wp2_with fail
      go_fit Hpu.out
      rintro e wd ⟨Ad, cd, nd, rfl, ownd, hbx⟩
      have hrd := Rd.own ownd
      replace hb := bnx hb hbx
      have v2 := run_str wd 26 9 5 Try.underlying26 Try.underlying5 Try.underlying9 hrd
      have v3 := run_str wd 26 9 5 Try.underlying26 Try.underlying5 Try.underlying9 (h'.up hb)
      clear hbx hra aa ownd
      go_wp2_with fail
      go_fit (num35_any 0 wd)
      rintro e we ⟨rfl, rfl⟩
      go_wp2
      go_ret
      exact ⟨rfl, hb⟩
    · obtain ⟨b1, b2⟩ := Hbad.out ho
      subst b1
      subst b2
      have ho' : ¬ (oE : Int) = 0 := by omega
      have hoq : ((oE : Int) != 0) = true := by simp; omega
      have hsm := same35_any 0 Aa na ca 0 none 0 0 [] [] wb.heap.size wb hra (RdR.none_ _ _ _) (Nat.le_refl _)
      rw [decide_eq_true (⟨rfl, rfl⟩ : 0 = 0 ∧ ([] : List En) = []), show ((0 : Nat) : Int) = 0 from rfl] at hsm
      have Hsm := Lib.hid hsm
      rw [show ((0 : Nat) : Int) = 0 from rfl] at aa
      clear hsm hra
      go_wp2_with (first | (with_reducible refine stop_loadT 41 ?_) | (with_reducible refine stop_storeT 41 ?_))
      refine go_ (wpList_load_row rfl _ _ rfl gq rfl _ _ _ _ aa Try.underlying41 rfl (by kernel_rfl) ?_)
      go_wp2_with fail
      go_fit Hsm.out
      rintro e wd ⟨rfl, hbx⟩
      replace hb := bnx hb hbx
      clear hbx aa
      go_wp2_with fail
      go_fit (num35_any (pE : Int) wd)
      rintro e we ⟨rfl, rfl⟩
      go_wp2
      go_ret
      exact ⟨rfl, hb⟩

end Go.Proofs.Ytplgcfjcdjlnbaa
