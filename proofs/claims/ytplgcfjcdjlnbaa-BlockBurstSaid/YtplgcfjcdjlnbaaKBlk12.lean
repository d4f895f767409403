/-
  BlockBurst walked (printed by gen_blk10.py).
-/
import Derived.Test.YtplgcfjcdjlnbaaKBlk6
import Derived.Test.YtplgcfjcdjlnbaaKGR
import Derived.Test.YtplgcfjcdjlnbaaKCrcTurn
set_option linter.unusedSimpArgs false
set_option linter.unusedVariables false
namespace Go.Proofs.Ytplgcfjcdjlnbaa
open Go.RowKit NumLaw CrcLaw
attribute [local go_sem] Addr.add_mid

set_option maxRecDepth 10000 in
set_option maxHeartbeats 8000000 in
theorem blockburst_any (no : Nat) (A : Option Addr) (n c : Nat) (L : List En) (t : Int) (m : Nat) (w : World) (h : RdE w w.heap.size A n c L) (hno : no < 4294967296) (hq : ∀ x ∈ L, EnQ x) (ht : -9223372036854775808 ≤ t ∧ t ≤ 9223372036854775807) (hm : m < 65536) :
    Calls Try.prog 10 #[.agg #[.int .u32 (no : Int), .slice A n c], .int .i64 t, .int .u16 (m : Int)] w fun e w' => e = .returned (.bool true) ∧ Below w.heap.size w w' := by
  have hmx := h.2.2.2.1
  have hle := h.2.2.1
  unfold maxLen at hmx
  have hb := (Below.refl w.heap.size w).alloc (Nat.le_refl _) (.cells #[.int .u32 (no : Int), .slice A n c] 41)
  have a0 := heap_alloc_new w (.cells #[.int .u32 (no : Int), .slice A n c] 41)
  by_cases hn : 100 < n
  · have hn' : (100 : Int) < (n : Int) := by omega
    go_enter Try.func10, Try.ntmps10
    go_wp2_with (with_reducible refine stop_loadT 39 ?_)
    generalize (w.alloc (.cells #[.int .u32 (no : Int), .slice A n c] 41)) = w1 at *
    have c1 := blk_cell (i := 1) (v := .slice A n c) a0 rfl
    refine go_ ?_
    go_wp2_with fail
    go_fit (knows35 w1)
    rintro e w2 ⟨rfl, hb2⟩
    go_wp2
    go_ret
    exact ⟨rfl, bnx hb hb2⟩
  have hn1' : ¬ (100 : Int) < (n : Int) := by omega
  have Hput := Lib.hid (fun w1 (h1 : RdE w1 w.heap.size A n c L) (hB1 : w.heap.size ≤ w1.heap.size) => blkPut_any no A n c w.heap.size L w1 hno h1 hB1 hq (by omega))
  have Hthere := Lib.hid (fun (h0 : putE L = 0) => blk_there (no := no) hno hq h0)
  have Hnone := Lib.hid (fun (h0 : putE L ≠ 0) => putB_none (no := no) h0)
  have Hsum := Lib.hid (fun (h0 : putE L = 0) => putB_sum (no := no) h0)
  generalize putB no L = pB at *
  generalize putE L = pE at *
  go_enter Try.func10, Try.ntmps10
  go_wp2_with (with_reducible refine stop_loadT 39 ?_)
  generalize (w.alloc (.cells #[.int .u32 (no : Int), .slice A n c] 41)) = w1 at *
  have c1 := blk_cell (i := 1) (v := .slice A n c) a0 rfl
  refine go_ ?_
  go_wp2_with fail
  go_fit (knows35 w1)
  rintro e w2 ⟨rfl, hbx⟩
  replace a0 := blk_old a0 hbx (blk_lt a0)
  replace hb := bnx hb hbx
  clear hbx c1 w1
  go_wp2_with (first | (with_reducible refine stop_loadT 41 ?_) | (with_reducible refine stop_storeT 41 ?_))
  refine go_ (wpList_load_row rfl _ _ rfl w.heap.size rfl _ _ _ _ a0 Try.underlying41 rfl (by kernel_rfl) ?_)
  go_wp2_with fail
  go_fit (Hput.out w2 (h.up hb) hb.size)
  rintro e w3 ⟨A3, c3, n3, rfl, own3, hbx⟩
  have hl3 := own_len own3
  have hr3 := Rd.own own3
  replace a0 := blk_old a0 hbx (blk_lt a0)
  replace hb := bnx hb hbx
  clear hbx own3 w2
  go_wp2_with fail
  go_fit (num35_any (pE : Int) w3)
  rintro e w4 ⟨rfl, rfl⟩
  by_cases hp : pE = 0
  case neg =>
    have hl0 := Hnone.out hp
    subst hl0
    have hl3' : 0 = n3 := hl3
    subst hl3'
    have hp' : ¬ (pE : Int) = 0 := by omega
    have hpq : ((pE : Int) != 0) = true := by simp; omega
    go_wp2
    go_ret
    exact ⟨rfl, hb⟩
  obtain ⟨e1, e2, e3, e4⟩ := Hthere.out hp
  have hs0 := Hsum.out hp
  rw [e4] at hl3
  subst hl3
  subst hp
  rw [show ((0 : Nat) : Int) = 0 from rfl]
  have hl256 := e4
  have E1 := Lib.hid (And.intro e1 (And.intro e2 (And.intro e3 (And.intro e4 hs0))))
  have Htu := Lib.hid (turned_any t m 256 c3 A3 pB w3 (by omega) hr3 hm)
  clear e1 e2 e3 e4 hs0 hl256
  go_wp2_with fail
  go_fit Htu.out
  rintro e w5 ⟨o, any, A5, c5, n5, htd, rfl, own5, hbx⟩
  have hol := htd.1
  have hop := burst_open htd E1.out.2.2.2.2
  have hl5 := own_len own5
  rw [hol, E1.out.2.2.2.1] at hl5
  subst hl5
  have hr5 := Rd.own own5
  replace a0 := blk_old a0 hbx (blk_lt a0)
  replace hb := bnx hb hbx
  have htk := blkTake_any A5 256 c5 _ o w5 hr5 (Nat.le_refl _) (by omega)
  clear hbx own5 hr3
  cases any with
  | true =>
    have hE : blkE o = 4 := blkE_sum (by rw [hol]; exact E1.out.2.2.2.1) (by rw [hop]; rfl)
    obtain ⟨b1, b2⟩ := blk_bad (s := o) (by rw [hE]; omega)
    unfold RetTBk at htk
    rw [hE, b1, b2] at htk
    have Htk := Lib.hid htk
    clear hE b1 b2 htk hop hol htd hr5
    go_wp2_with fail
    go_fit Htk.out
    rintro e wa ⟨Aa, na, ca, rfl, hra, hbx⟩
    rw [show ((0 : Nat) : Int) = 0 from rfl, show ((4 : Nat) : Int) = 4 from rfl]
    have aa := heap_alloc_new wa (.cells #[.int .u32 0, .slice Aa na ca] 41)
    have hbb : Below wa.heap.size wa (wa.alloc (.cells #[.int .u32 0, .slice Aa na ca] 41)) := (Below.refl _ _).alloc (Nat.le_refl _) _
    have hby := bnx hbx hbb
    replace hb := bnx hb hby
    replace hra := RdR.nx hra hbb
    clear hbx hbb hby a0
    go_wp2_with fail
    generalize (wa.alloc (.cells #[.int .u32 0, .slice Aa na ca] 41)) = wb at *
    generalize wa.heap.size = gq at *
    go_fit (num35_any 4 wb)
    rintro e wc ⟨rfl, rfl⟩
    go_wp2_with fail
    go_fit (num35_any 4 wb)
    rintro e wc ⟨rfl, rfl⟩
    have hsm := same35_any 0 Aa na ca 0 none 0 0 [] [] wb.heap.size wb hra (RdR.none_ _ _ _) (Nat.le_refl _)
    rw [decide_eq_true (⟨rfl, rfl⟩ : 0 = 0 ∧ ([] : List En) = []), show ((0 : Nat) : Int) = 0 from rfl] at hsm
    have Hsm := Lib.hid hsm
    have k0 := blk_cell (i := 0) (v := .int .u32 0) aa rfl
    have k1 := blk_cell (i := 1) (v := .slice Aa na ca) aa rfl
    clear hsm hra
    go_wp2_with fail
    go_fit Hsm.out
    rintro e wd ⟨rfl, hbx⟩
    replace hb := bnx hb hbx
    clear hbx aa k0 k1
    go_wp2
    go_ret
    exact ⟨rfl, hb⟩
  | false =>
    have ho : o = pB := by
      rcases htd.2 with ⟨_, h2⟩ | ⟨h1, _⟩
      · exact h2
      · cases h1
    subst ho
    unfold RetTBk at htk
    rw [E1.out.1, E1.out.2.1, E1.out.2.2.1] at htk
    have Htk := Lib.hid htk
    clear htk hop hol htd hr5
    go_wp2_with fail
    go_fit Htk.out
    rintro e wa ⟨Aa, na, ca, rfl, hra, hbx⟩
    rw [show ((0 : Nat) : Int) = 0 from rfl]
    have aa := heap_alloc_new wa (.cells #[.int .u32 (no : Int), .slice Aa na ca] 41)
    have hbb : Below wa.heap.size wa (wa.alloc (.cells #[.int .u32 (no : Int), .slice Aa na ca] 41)) := (Below.refl _ _).alloc (Nat.le_refl _) _
    have hby := bnx hbx hbb
    replace a0 := blk_old a0 hby (blk_lt a0)
    replace hb := bnx hb hby
    replace hra := RdR.nx hra hbb
    clear hbx hbb hby
    go_wp2_with fail
    generalize (wa.alloc (.cells #[.int .u32 (no : Int), .slice Aa na ca] 41)) = wb at *
    generalize wa.heap.size = gq at *
    go_fit (num35_any 0 wb)
    rintro e wc ⟨rfl, rfl⟩
    have hsm := same35_any no Aa na ca no A n c L L wb.heap.size wb hra ((h.up hb).more hb.size) (Nat.le_refl _)
    rw [decide_eq_true (⟨rfl, rfl⟩ : no = no ∧ L = L)] at hsm
    have Hsm := Lib.hid hsm
    have k0 := blk_cell (i := 0) (v := .int .u32 (no : Int)) aa rfl
    have k1 := blk_cell (i := 1) (v := .slice Aa na ca) aa rfl
    have m0 := blk_cell (i := 0) (v := .int .u32 (no : Int)) a0 rfl
    have m1 := blk_cell (i := 1) (v := .slice A n c) a0 rfl
    clear hsm hra
    go_wp2_with fail
    go_fit Hsm.out
    rintro e wd ⟨rfl, hbx⟩
    replace hb := bnx hb hbx
    clear hbx aa k0 k1 m0 m1 a0
    go_wp2
    go_ret
    exact ⟨rfl, hb⟩

end Go.Proofs.Ytplgcfjcdjlnbaa
