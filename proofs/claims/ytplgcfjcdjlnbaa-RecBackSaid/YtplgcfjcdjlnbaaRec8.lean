/-
  The document's TakeKey of a record, walked.
-/
import Derived.Test.YtplgcfjcdjlnbaaRec7
set_option linter.unusedSimpArgs false
set_option linter.unusedVariables false
namespace Go.Proofs.Ytplgcfjcdjlnbaa
open Go.RowKit NumLaw
attribute [local go_sem] Addr.add_mid

set_option maxRecDepth 10000 in
set_option maxHeartbeats 4000000 in
theorem qTakeKey_any (A : Option Addr) (n c B : Nat) (b : List UInt8) (w : World) (h : Rd w B 1 A n c (bv b)) (hB : B ≤ w.heap.size) (hn : n ≤ 1000000) :
    Calls Try.prog 27 #[.slice A n c] w (RetRec (keT b) (keV b) (keN b) (keE b) w) := by
  have hlb := h.blen
  have hle := h.le
  have hmx := h.max
  unfold maxLen at hmx
  obtain ⟨i0, hi⟩ := info_parts u8_info
  have hb1 : Below w.heap.size w (w.alloc (.cells #[.int .u32 0, .int .i32 0, .int .i32 0, .int .i32 0, .int .i32 0, .int .i32 0, .int .i32 0, .int .i32 0, .int .i32 0, .int .i32 0, .int .i32 0, .int .i32 0, .int .i32 0] 25)) := (Below.refl _ _).alloc (Nat.le_refl _) _
  have hres := heap_alloc_new w (.cells #[.int .u32 0, .int .i32 0, .int .i32 0, .int .i32 0, .int .i32 0, .int .i32 0, .int .i32 0, .int .i32 0, .int .i32 0, .int .i32 0, .int .i32 0, .int .i32 0, .int .i32 0] 25)
  have Hlb := Lib.hid hlb
  by_cases h52 : n < 52
  · have e1 : keT b = 0 := by unfold keT; rw [if_pos (by omega)]
    have e2 : keV b = z12 := by unfold keV; rw [if_pos (by omega)]
    have e3 : keN b = 0 := by unfold keN; rw [if_pos (by omega)]
    have e4 : keE b = 2 := by unfold keE; rw [if_pos (by omega)]
    rw [e1, e2, e3, e4]
    clear hlb hi e1 e2 e3 e4
    go_enter Try.func27, Try.ntmps27
    go_wp2_with (first | (with_reducible refine stop_loadT 25 ?_) | (with_reducible refine stop_storeT 25 ?_))
    generalize (w.alloc (.cells #[.int .u32 0, .int .i32 0, .int .i32 0, .int .i32 0, .int .i32 0, .int .i32 0, .int .i32 0, .int .i32 0, .int .i32 0, .int .i32 0, .int .i32 0, .int .i32 0, .int .i32 0] 25)) = w1 at *
    replace hres : RcB w1 w.heap.size 0 z12 := hres
    refine go_ (wpList_store_row rfl _ _ _ rfl w.heap.size (rcC 0 z12).toArray rfl rfl _ _ hres (by kernel_rfl) (by kernel_rfl) (by kernel_rfl) ?_)
    obtain ⟨hz, hAz⟩ := rc_store 0 z12 rfl w1 w.heap.size hres
    have hbz := below_awG hb1 hAz (fun k hk => by omega) hb1.size
    generalize (w1.setRow w.heap.size (rcC 0 z12).toArray) = w5 at *
    go_wp2
    exact bodyPost_ret (results_cell3 (fn := Try.f27) Try.results27 _ _ w.heap.size _ _ _ _ rfl hz Try.underlying25 rfl (by kernel_rfl)) rfl ⟨rfl, hbz⟩
  have e1 : keT b = num (b.take 4) := by unfold keT; rw [if_neg (by omega)]
  have e2 : keV b = kvs b := by unfold keV; rw [if_neg (by omega)]
  have e3 : keN b = 52 := by unfold keN; rw [if_neg (by omega)]
  have e4 : keE b = 0 := by unfold keE; rw [if_neg (by omega)]
  rw [e1, e2, e3, e4]
  have hTl := num4_lt (b.take 4) (by rw [List.length_take]; omega)
  obtain ⟨T, hT⟩ : ∃ T, T = num (b.take 4) := ⟨_, rfl⟩
  rw [← hT] at hTl ⊢
  have hwk : IntKind.u32.wrap (T : Int) = (T : Int) := by rw [IntKind.wrap_u32]; omega
  have HT := Lib.hid hT
  clear hlb e1 e2 e3 e4 hT
  have hcut : ∀ w, (Instr.slice 26 (.slice A n c) none (some (.int .i64 4)) none).run Try.prog w = .ok (.slice A 4 c) w := run_cut_h (P := Try.prog) Try.underlying26 hi.1 A n c 4 (by omega)
  have Hi := Lib.hid hi
  clear hi
  go_enter Try.func27, Try.ntmps27
  go_wp2_with fail
  generalize (w.alloc (.cells #[.int .u32 0, .int .i32 0, .int .i32 0, .int .i32 0, .int .i32 0, .int .i32 0, .int .i32 0, .int .i32 0, .int .i32 0, .int .i32 0, .int .i32 0, .int .i32 0, .int .i32 0] 25)) = w1 at *
  replace hres : RcB w1 w.heap.size 0 z12 := hres
  have hr1 := h.up (hb1.mono hB)
  go_fit (number_any A 4 c B (b.take 4) w1 (hr1.btake (by omega)) (by omega))
  rw [← HT.out]
  rintro e w2 ⟨rfl, rfl⟩
  clear hcut
  have hbx : Below w1.heap.size w1 (w1.alloc (.cells #[.int .u32 T, .int .i32 0, .int .i32 0, .int .i32 0, .int .i32 0, .int .i32 0, .int .i32 0, .int .i32 0, .int .i32 0, .int .i32 0, .int .i32 0, .int .i32 0, .int .i32 0] 25)) := (Below.refl _ _).alloc (Nat.le_refl _) _
  have hbox := heap_alloc_new w1 (.cells #[.int .u32 T, .int .i32 0, .int .i32 0, .int .i32 0, .int .i32 0, .int .i32 0, .int .i32 0, .int .i32 0, .int .i32 0, .int .i32 0, .int .i32 0, .int .i32 0, .int .i32 0] 25)
  have hres4 := blk_old hres hbx (blk_lt hres)
  have hb4 := bnx hb1 hbx
  have hw3s : w.heap.size < w1.heap.size := blk_lt hres
  clear hres hb1 hbx hr1
  go_wp2_with fail
  generalize (w1.alloc (.cells #[.int .u32 T, .int .i32 0, .int .i32 0, .int .i32 0, .int .i32 0, .int .i32 0, .int .i32 0, .int .i32 0, .int .i32 0, .int .i32 0, .int .i32 0, .int .i32 0, .int .i32 0] 25)) = w4 at *
  generalize w1.heap.size = g6 at *
  replace hbox : RcB w4 g6 T z12 := hbox
  go_loopw [6] (fun i wr => ∃ k : Nat, k ≤ 12 ∧ i = .int .i64 k ∧ RcB wr g6 T (VK (kvs b) z12 k) ∧ RcB wr w.heap.size 0 z12 ∧ Below w.heap.size w wr) (fun i _ => 12 - (intOf i).toNat)
  case atStart => exact ⟨0, by omega, rfl, by rw [VK_zero]; exact hbox, hres4, hb4⟩
  case round =>
    clear hbox hres4 hb4 w4
    obtain ⟨k, hk, rfl, hbox, hres, hb⟩ := hrel
    by_cases hlt : k < 12
    · have h32 := kvAt_32 b k
      have hset := VK_set (kvs_at b hlt) (show k < z12.length from hlt)
      unfold in32 at h32
      have hml := num4_lt ((b.drop (4 + 4 * k)).take 4) (by rw [List.length_take]; omega)
      have hkv : sgn 4 (num ((b.drop (4 + 4 * k)).take 4)) = kvAt b k := rfl
      obtain ⟨x, hx⟩ : ∃ x, x = kvAt b k := ⟨_, rfl⟩
      rw [← hx] at h32 hset hkv
      have hwx : IntKind.i32.wrap x = x := i32_wrap_in h32
      have Hset := Lib.hid hset
      clear hset hx
      have q1 : IntKind.i64.wrap (4 * (k : Int)) = 4 * (k : Int) := by rw [IntKind.wrap_i64]; omega
      have q2 : IntKind.i64.wrap (4 + 4 * (k : Int)) = 4 + 4 * (k : Int) := by rw [IntKind.wrap_i64]; omega
      have q3 : IntKind.i64.wrap (8 + 4 * (k : Int)) = 8 + 4 * (k : Int) := by rw [IntKind.wrap_i64]; omega
      have hcut : ∀ w, (Instr.slice 26 (.slice A n c) (some (.int .i64 (4 + 4 * (k : Int)))) (some (.int .i64 (8 + 4 * (k : Int)))) none).run Try.prog w = .ok (.slice (cutA A c (4 + 4 * k) 1) 4 (c - (4 + 4 * k))) w := fun w => by
        have := run_cut_lh (P := Try.prog) Try.underlying26 Hi.out.1 Hi.out.2.2.1 A n c (4 + 4 * k) (8 + 4 * k) (by omega) (by omega) w
        rwa [show 8 + 4 * k - (4 + 4 * k) = 4 by omega, show ((8 + 4 * k : Nat) : Int) = 8 + 4 * (k : Int) by omega, show ((4 + 4 * k : Nat) : Int) = 4 + 4 * (k : Int) by omega] at this
      have hrp := ((h.up (hb.mono hB)).bdrop (k := 4 + 4 * k) (by omega)).btake (k := 4) (by omega)
      have hnum := number_any (cutA A c (4 + 4 * k) 1) 4 (c - (4 + 4 * k)) B ((b.drop (4 + 4 * k)).take 4) wr hrp (by omega)
      obtain ⟨m, hm⟩ : ∃ m, m = num ((b.drop (4 + 4 * k)).take 4) := ⟨_, rfl⟩
      rw [← hm] at hnum hml hkv
      have Hkv := Lib.hid hkv
      clear hkv hm hrp
      go_wp2_with fail
      go_fit hnum
      rintro e w6 ⟨rfl, rfl⟩
      go_wp2_with fail
      go_fit (signed_any 4 m wr (by omega) (by omega) hml)
      rw [Hkv.out]
      rintro e w6 ⟨rfl, rfl⟩
      have hl12 : (VK (kvs b) z12 k).length = 12 := VK_len (kvs_len b) rfl hk
      obtain ⟨y, hy⟩ : ∃ y, (VK (kvs b) z12 k)[k]? = some y := ⟨_, List.getElem?_eq_getElem (by omega)⟩
      have s1 := hbox.at_ hy
      have s2 : wr.frozen? ⟨g6, 1 + k, none⟩ = false := blk_free (i := 1 + k) hbox
      have hA : Aw (fun j => j = g6) wr (wr.setCell ⟨g6, 1 + k, none⟩ (.int .i32 x)) := (Aw.refl _ _).set _ rfl
      have hbox7 := blk_set (i := 1 + k) hbox (.int .i32 x)
      rw [rcC_setV, Hset.out] at hbox7
      have hres7 : RcB (wr.setCell ⟨g6, 1 + k, none⟩ (.int .i32 x)) w.heap.size 0 z12 := hA.keep hres (by omega)
      have hb7 := below_awG hb hA (fun j hj => by omega) hb.size
      clear hbox hres hb hl12 hy hA hcut hnum q1 q2 q3 hml
      go_wp2
      go_roundw
      case rel => exact ⟨k + 1, by omega, by go_num, hbox7, hres7, hb7⟩
      case measure => simp [intOf]; omega
    · obtain rfl : k = 12 := by omega
      rw [VK_full (kvs_len b) rfl] at hbox
      go_wp2_with (first | (with_reducible refine stop_loadT 25 ?_) | (with_reducible refine stop_storeT 25 ?_))
      refine go_ (wpList_load_mid rfl _ _ rfl g6 0 rfl _ _ hbox.all Try.underlying25 rfl (by rw [rcC_size T (kvs b) (kvs_len b)]; kernel_rfl) ?_)
      go_wp2_with (first | (with_reducible refine stop_loadT 25 ?_) | (with_reducible refine stop_storeT 25 ?_))
      refine go_ (wpList_store_row rfl _ _ _ rfl w.heap.size (rcC T (kvs b)).toArray rfl rfl _ _ hres (by rw [List.size_toArray, rcC_size T (kvs b) (kvs_len b)]; kernel_rfl) (by rw [List.size_toArray, List.size_toArray, rcC_size T (kvs b) (kvs_len b)]; rfl) (all_oneCell_toArray (rcC_one T (kvs b))) ?_)
      obtain ⟨hz, hAz⟩ := rc_store T (kvs b) (kvs_len b) wr w.heap.size hres
      have hbz := below_awG hb hAz (fun k hk => by omega) hb.size
      generalize (wr.setRow w.heap.size (rcC T (kvs b)).toArray) = w5 at *
      go_wp2
      exact bodyPost_ret (results_cell3 (fn := Try.f27) Try.results27 _ _ w.heap.size _ _ _ _ rfl hz Try.underlying25 rfl (by rw [List.size_toArray, rcC_size T (kvs b) (kvs_len b)]; kernel_rfl)) rfl ⟨rfl, hbz⟩


end Go.Proofs.Ytplgcfjcdjlnbaa
