/-
  A log that there is not: its methods, FlogNil walked (printed by gen_flog6.py).
-/
import Derived.Test.YtplgcfjcdjlnbaaKGT
set_option linter.unusedSimpArgs false
set_option linter.unusedVariables false
namespace Go.Proofs.Ytplgcfjcdjlnbaa
open Go.RowKit NumLaw CrcLaw
attribute [local go_sem] Addr.add_mid

/-- No log: nil, or one that New did not make. -/
def NoL (w : World) (p : Value) : Prop := p = .pointer none ∨ ∃ g, p = .pointer (some ⟨g, 0, none⟩) ∧ w.heap[g]? = some (.cells #[.int .i64 0, .slice none 0 0, .int .i64 0, .int .i64 0, .int .i64 0] 78)
theorem NoL.up {w w' : World} {p : Value} (h : NoL w p) (hb : Below w.heap.size w w') : NoL w' p := by
  rcases h with h | ⟨g, h1, h2⟩
  · exact .inl h
  · exact .inr ⟨g, h1, blk_old h2 hb (blk_lt h2)⟩
set_option maxRecDepth 10000 in
theorem there_no (p : Value) (w : World) (h : NoL w p) : Calls Try.prog 97 #[p] w fun e w' => e = .returned (.bool false) ∧ w = w' := by
  rcases h with rfl | ⟨g, rfl, hg⟩
  · go_enter Try.func97, Try.ntmps97
    go_wp2
    go_ret
    exact ⟨rfl, rfl⟩
  · have c0 := blk_cell (i := 0) (v := .int .i64 0) hg rfl
    go_enter Try.func97, Try.ntmps97
    go_wp2
    go_ret
    exact ⟨rfl, rfl⟩
set_option maxRecDepth 10000 in
theorem open36_no (p : Value) (w : World) (h : NoL w p) : Calls Try.prog 53 #[p] w fun e w' => e = .returned (.int .i64 0) ∧ w = w' := by
  have H := Lib.hid (there_no p w h)
  go_enter Try.func53, Try.ntmps53
  go_wp2_with fail
  go_fit H.out
  rintro e w1 ⟨rfl, rfl⟩
  go_wp2
  go_ret
  exact ⟨rfl, rfl⟩
theorem counts_no (p : Value) (w : World) (h : NoL w p) : Calls Try.prog 52 #[p] w fun e w' => e = .returned (.tuple #[.int .i64 0, .int .i64 0]) ∧ w = w' := by
  have H := Lib.hid (there_no p w h)
  go_enter Try.func52, Try.ntmps52
  go_wp2_with fail
  go_fit H.out
  rintro e w1 ⟨rfl, rfl⟩
  go_wp2
  go_ret2
  exact ⟨rfl, rfl⟩
theorem fflush_no (p : Value) (w : World) (h : NoL w p) : Calls Try.prog 48 #[p] w fun e w' => e = .returned (.slice none 0 0) ∧ w = w' := by
  have H := Lib.hid (there_no p w h)
  go_enter Try.func48, Try.ntmps48
  go_wp2_with fail
  go_fit H.out
  rintro e w1 ⟨rfl, rfl⟩
  go_wp2
  go_ret
  exact ⟨rfl, rfl⟩
theorem fadd_no (p : Value) (t : Nat) (V : List Int) (w : World) (h : NoL w p) : Calls Try.prog 50 #[p, .agg (rcC t V).toArray] w fun e w' => e = .returned (.slice none 0 0) ∧ Below w.heap.size w w' := by
  have hb := (Below.refl w.heap.size w).alloc (Nat.le_refl _) (.cells (rcC t V).toArray 25)
  have H := Lib.hid (there_no p _ (h.up hb))
  go_enter Try.func50, Try.ntmps50
  go_wp2_with fail
  go_fit H.out
  rintro e w1 ⟨rfl, rfl⟩
  go_wp2
  go_ret
  exact ⟨rfl, hb⟩
set_option maxRecDepth 10000 in
set_option maxHeartbeats 4000000 in
theorem flognil_any (t : Nat) (V : List Int) (w : World) (hV : V.length = 12) :
    Calls Try.prog 14 #[.agg (rcC t V).toArray] w fun e w' => e = .returned (.bool true) ∧ Below w.heap.size w w' := by
  have hb := (Below.refl w.heap.size w).alloc (Nat.le_refl _) (.cells (rcC t V).toArray 25)
  have x0 : RcB (w.alloc (.cells (rcC t V).toArray 25)) w.heap.size t V := heap_alloc_new w _
  have HV := Lib.hid hV
  clear hV
  go_enter Try.func14, Try.ntmps14
  go_wp2_with fail
  generalize (w.alloc (.cells (rcC t V).toArray 25)) = w1 at *
  go_loopw [3, 4] (fun p i wr => ∃ k : Nat, k ≤ 2 ∧ i = .int .i64 k ∧ NoL wr p ∧ RcB wr w.heap.size t V ∧ Below w.heap.size w wr) (fun _ i _ => 2 - (intOf i).toNat)
  case atStart => exact ⟨0, by omega, rfl, .inl rfl, x0, hb⟩
  case round =>
    clear x0 hb w1
    obtain ⟨k, hk, rfl, hp, x0, hb⟩ := hrel
    by_cases hlt : k < 2
    · have hlt' : (k : Int) < 2 := by omega
      have Hadd := Lib.hid (fadd_no _ t V wr hp)
      go_wp2_with (first | (with_reducible refine stop_loadT 25 ?_) | (with_reducible refine stop_storeT 25 ?_) | (with_reducible refine stop_loadG 25 ?_))
      refine go_ (wpList_load_mid rfl _ _ rfl w.heap.size 0 rfl _ _ x0.all Try.underlying25 rfl (by rw [rcC_size t V HV.out]; kernel_rfl) ?_)
      go_wp2_with fail
      go_fit Hadd.out
      rintro e w2 ⟨rfl, hbx⟩
      replace hp := hp.up hbx
      replace x0 : RcB w2 w.heap.size t V := blk_old x0 hbx (blk_lt x0)
      replace hb := bnx hb hbx
      clear hbx Hadd
      have Hfl := Lib.hid (fflush_no _ w2 hp)
      have Hco := Lib.hid (counts_no _ w2 hp)
      have Hop := Lib.hid (open36_no _ w2 hp)
      clear hp
      go_wp2_with fail
      go_fit Hfl.out
      rintro e w3 ⟨rfl, rfl⟩
      go_wp2_with fail
      go_fit Hco.out
      rintro e w3 ⟨rfl, rfl⟩
      go_wp2_with fail
      go_fit Hop.out
      rintro e w3 ⟨rfl, rfl⟩
      have hbx : Below w2.heap.size w2 (w2.alloc (.cells #[.int .i64 0, .slice none 0 0, .int .i64 0, .int .i64 0, .int .i64 0] 78)) := (Below.refl _ _).alloc (Nat.le_refl _) _
      have h9 := heap_alloc_new w2 (.cells #[.int .i64 0, .slice none 0 0, .int .i64 0, .int .i64 0, .int .i64 0] 78)
      replace x0 : RcB _ w.heap.size t V := blk_old x0 hbx (blk_lt x0)
      replace hb := bnx hb hbx
      clear hbx Hfl Hco Hop
      go_wp2
      go_roundw
      case rel => exact ⟨k + 1, by omega, by go_num, .inr ⟨_, rfl, h9⟩, x0, hb⟩
      case measure => simp [intOf]; omega
    · obtain rfl : k = 2 := by omega
      go_wp2_with fail
      go_fit (knows36 wr)
      rintro e w2 ⟨rfl, hbx⟩
      go_wp2
      go_ret
      exact ⟨rfl, bnx hb hbx⟩

end Go.Proofs.Ytplgcfjcdjlnbaa
