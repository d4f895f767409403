/-
  the document's Take of tlm, and TlmTakes walked (printed by gen_sch6.py).
-/
import Derived.Test.YtonejdjhdjckjaaGreatKM4
import Derived.Test.YtonejdjhdjckjaaGreatKM3
set_option linter.unusedSimpArgs false
set_option linter.unusedVariables false
namespace Go.Proofs.YtonejdjhdjckjaaGreat
open Go.RowKit NumLaw
attribute [local go_sem] Addr.add_mid
attribute [-go_sem] run_eql_struct run_neq_struct

theorem take_254 {b b' : List UInt8} {N : Nat} (h : b = 254 :: b') (hN : 3 ≤ N) : b.take N = 254 :: ((b.drop 1).take (N - 3) ++ (b.drop (N - 2)).take 2) := by
  subst h
  obtain ⟨k, rfl⟩ : ∃ k, N = k + 3 := ⟨N - 3, by omega⟩
  rw [show k + 3 - 3 = k by omega, show k + 3 - 2 = k + 1 by omega]
  show 254 :: b'.take (k + 2) = 254 :: (b'.take k ++ (b'.drop k).take 2)
  rw [List.take_add]
set_option maxRecDepth 20000 in
set_option maxHeartbeats 16000000 in
theorem qtltake_any (A : Option Addr) (n c : Nat) (b : List UInt8) (w : World) (h : Rd w w.heap.size 1 A n c (bv b)) (hn : n ≤ 1000000) :
    Calls Tryz.prog 6 #[.slice A n c] w (RetTl w b) := by
  have hlb := h.blen
  have hmx := h.max
  have hle := h.le
  unfold maxLen at hmx
  have hres : (w.alloc (.cells #[.int .i64 0, .int .i64 0, .int .i64 0, .int .i64 0, .slice none 0 0] 28)).heap[w.heap.size]? = some (.cells #[.int .i64 0, .int .i64 0, .int .i64 0, .int .i64 0, .slice none 0 0] 28) := heap_alloc_new w _
  have h0 : Below w.heap.size w (w.alloc (.cells #[.int .i64 0, .int .i64 0, .int .i64 0, .int .i64 0, .slice none 0 0] 28)) := (Below.refl _ _).alloc (Nat.le_refl _) _
  by_cases hn0 : n = 0
  · subst hn0
    have HE : Hid (tkE b = 2 ∧ tkN b = 0) := Lib.hid (tkE_of1 (by unfold tkE1; rw [if_pos hlb]) (by omega))
    clear h hlb
    go_enter Tryz.func6, Tryz.ntmps6
    go_wp2_with (first | (with_reducible refine stop_loadT 28 ?_) | (with_reducible refine stop_storeT 28 ?_))
    refine go_ (wpList_store_row rfl _ _ _ rfl w.heap.size #[.int .i64 0, .int .i64 0, .int .i64 0, .int .i64 0, .slice none 0 0] rfl rfl _ _ hres (by kernel_rfl) rfl (by kernel_rfl) ?_)
    have hres5 := setRow_heap _ _ _ (#[.int .i64 0, .int .i64 0, .int .i64 0, .int .i64 0, .slice none 0 0] : Array Value) _ _ hres
    have hb5 := below_setRow h0 (Nat.le_refl _) (#[.int .i64 0, .int .i64 0, .int .i64 0, .int .i64 0, .slice none 0 0] : Array Value)
    generalize ((w.alloc (.cells #[.int .i64 0, .int .i64 0, .int .i64 0, .int .i64 0, .slice none 0 0] 28)).setRow w.heap.size #[.int .i64 0, .int .i64 0, .int .i64 0, .int .i64 0, .slice none 0 0]) = v5 at *
    have e0 := blk_cell (i := 0) (v := .int .i64 0) hres5 rfl
    have e1 := blk_cell (i := 1) (v := .int .i64 0) hres5 rfl
    have e2 := blk_cell (i := 2) (v := .int .i64 0) hres5 rfl
    have e3 := blk_cell (i := 3) (v := .int .i64 0) hres5 rfl
    have e4 := blk_cell (i := 4) (v := .slice none 0 0) hres5 rfl
    go_wp2
    exact bodyPost_ret (v := .tuple #[.agg #[.int .i64 0, .int .i64 0, .int .i64 0, .int .i64 0, .slice none 0 0], .int .i64 0, .int .i64 2]) (by simp [results, go_sem, e0, e1, e2, e3, e4]) rfl (tl_out (E := 2) (N := 0) HE.out.1 (by decide) HE.out.2 hb5)
  have hn0' : ¬ (n : Int) = 0 := by omega
  have hnn0 : ((n : Int) == 0) = false := by simp; exact hn0
  have hn1 : (0 : Int) < (n : Int) := by omega
  obtain ⟨x0, b', hbx⟩ : ∃ x0 b', b = x0 :: b' := by
    cases b with
    | nil => exact absurd hlb.symm hn0
    | cons x l => exact ⟨x, l, rfl⟩
  obtain ⟨ad, x0', rfl, hx0, k0⟩ := h.byte (show 0 < n by omega)
  obtain rfl : x0 = x0' := by rw [hbx] at hx0; injection hx0
  have had : ad.block < w.heap.size := by obtain ⟨_, e, hb, _⟩ := h.at_ (by omega); injection e with e; rw [e]; exact hb
  have hsp := World.cell?_spot k0
  obtain ⟨g, off, sp⟩ := ad
  simp only [Addr.add] at hsp
  obtain rfl : sp = none := by
    cases sp with
    | none => rfl
    | some s => simp at hsp
  replace had : g < w.heap.size := had
  rw [Addr.add_mid, Nat.add_zero] at k0
  have k0w := (h0.cell (p := ⟨g, off, none⟩) had).trans k0
  by_cases hx : x0 = 254
  case neg =>
    have HE : Hid (tkE b = 3 ∧ tkN b = 0) := Lib.hid (tkE_of1 (by
      unfold tkE1
      rw [if_neg (by omega), hbx]
      show (if ¬ x0 = 254 then 3 else _) = 3
      rw [if_pos hx]) (by omega))
    have hq : ((x0.toNat : Int) != 254) = true := by
      have : ¬ x0.toNat = 254 := fun e => hx (UInt8.toNat_inj.1 e)
      simp; omega
    have hq2 : ¬ (x0.toNat : Int) = 254 := by intro e; rw [e] at hq; exact absurd hq (by decide)
    clear h hlb hx0 k0 hbx hx
    go_enter Tryz.func6, Tryz.ntmps6
    go_wp2_with (first | (with_reducible refine stop_loadT 28 ?_) | (with_reducible refine stop_storeT 28 ?_))
    refine go_ (wpList_store_row rfl _ _ _ rfl w.heap.size #[.int .i64 0, .int .i64 0, .int .i64 0, .int .i64 0, .slice none 0 0] rfl rfl _ _ hres (by kernel_rfl) rfl (by kernel_rfl) ?_)
    have hres5 := setRow_heap _ _ _ (#[.int .i64 0, .int .i64 0, .int .i64 0, .int .i64 0, .slice none 0 0] : Array Value) _ _ hres
    have hb5 := below_setRow h0 (Nat.le_refl _) (#[.int .i64 0, .int .i64 0, .int .i64 0, .int .i64 0, .slice none 0 0] : Array Value)
    generalize ((w.alloc (.cells #[.int .i64 0, .int .i64 0, .int .i64 0, .int .i64 0, .slice none 0 0] 28)).setRow w.heap.size #[.int .i64 0, .int .i64 0, .int .i64 0, .int .i64 0, .slice none 0 0]) = v5 at *
    have e0 := blk_cell (i := 0) (v := .int .i64 0) hres5 rfl
    have e1 := blk_cell (i := 1) (v := .int .i64 0) hres5 rfl
    have e2 := blk_cell (i := 2) (v := .int .i64 0) hres5 rfl
    have e3 := blk_cell (i := 3) (v := .int .i64 0) hres5 rfl
    have e4 := blk_cell (i := 4) (v := .slice none 0 0) hres5 rfl
    go_wp2
    exact bodyPost_ret (v := .tuple #[.agg #[.int .i64 0, .int .i64 0, .int .i64 0, .int .i64 0, .slice none 0 0], .int .i64 0, .int .i64 3]) (by simp [results, go_sem, e0, e1, e2, e3, e4]) rfl (tl_out (E := 3) (N := 0) HE.out.1 (by decide) HE.out.2 hb5)
  subst hx
  have e254 : ((254 : UInt8).toNat : Int) = 254 := rfl
  rw [e254] at k0w k0
  by_cases h6 : n < 6
  · have HE : Hid (tkE b = 2 ∧ tkN b = 0) := Lib.hid (tkE_of1 (by
      unfold tkE1
      rw [if_neg (by omega), hbx]
      show (if ¬ (254 : UInt8) = 254 then 3 else _) = 2
      rw [if_neg (fun h => h rfl), ← hbx, if_pos (by omega)]) (by omega))
    have h6' : (n : Int) < 6 := by omega
    clear h hlb hx0 k0 hbx
    go_enter Tryz.func6, Tryz.ntmps6
    go_wp2_with (first | (with_reducible refine stop_loadT 28 ?_) | (with_reducible refine stop_storeT 28 ?_))
    refine go_ (wpList_store_row rfl _ _ _ rfl w.heap.size #[.int .i64 0, .int .i64 0, .int .i64 0, .int .i64 0, .slice none 0 0] rfl rfl _ _ hres (by kernel_rfl) rfl (by kernel_rfl) ?_)
    have hres5 := setRow_heap _ _ _ (#[.int .i64 0, .int .i64 0, .int .i64 0, .int .i64 0, .slice none 0 0] : Array Value) _ _ hres
    have hb5 := below_setRow h0 (Nat.le_refl _) (#[.int .i64 0, .int .i64 0, .int .i64 0, .int .i64 0, .slice none 0 0] : Array Value)
    generalize ((w.alloc (.cells #[.int .i64 0, .int .i64 0, .int .i64 0, .int .i64 0, .slice none 0 0] 28)).setRow w.heap.size #[.int .i64 0, .int .i64 0, .int .i64 0, .int .i64 0, .slice none 0 0]) = v5 at *
    have e0 := blk_cell (i := 0) (v := .int .i64 0) hres5 rfl
    have e1 := blk_cell (i := 1) (v := .int .i64 0) hres5 rfl
    have e2 := blk_cell (i := 2) (v := .int .i64 0) hres5 rfl
    have e3 := blk_cell (i := 3) (v := .int .i64 0) hres5 rfl
    have e4 := blk_cell (i := 4) (v := .slice none 0 0) hres5 rfl
    go_wp2
    exact bodyPost_ret (v := .tuple #[.agg #[.int .i64 0, .int .i64 0, .int .i64 0, .int .i64 0, .slice none 0 0], .int .i64 0, .int .i64 2]) (by simp [results, go_sem, e0, e1, e2, e3, e4]) rfl (tl_out (E := 2) (N := 0) HE.out.1 (by decide) HE.out.2 hb5)
  have h6' : ¬ (n : Int) < 6 := by omega
  obtain ⟨x0, x1, x2, x3, x4, x5, r, hbs⟩ := six_of (b := b) (by omega)
  obtain rfl : x0 = 254 := by rw [hbx] at hbs; injection hbs with e _; exact e.symm
  have hrl : r.length + 6 = n := by rw [← hlb, hbs]; simp
  obtain ⟨y1, hy1⟩ : ∃ y, y = x1.toNat := ⟨_, rfl⟩
  obtain ⟨y5, hy5⟩ : ∃ y, y = x5.toNat := ⟨_, rfl⟩
  have hy1l : y1 ≤ 255 := by have := x1.toNat_lt; omega
  have hy5l : y5 ≤ 255 := by have := x5.toNat_lt; omega
  have kk : ∀ (j : Nat) (x : UInt8), b[j]? = some x → ∀ wq, Below w.heap.size w wq → wq.cell? ⟨g, off + j, none⟩ = some (.int .u8 (x.toNat : Int)) := fun j x hj wq hbq => by
    have hjn : j < n := by rw [← hlb]; exact (List.getElem?_eq_some_iff.1 hj).1
    obtain ⟨ad', x', e, hx', hc⟩ := h.byte hjn
    injection e with e
    rw [hj] at hx'
    injection hx' with hx'
    rw [← e, Addr.add_mid] at hc
    rw [hx']
    exact (hbq.cell (p := ⟨g, off + j, none⟩) had).trans hc
  have k1 : ∀ wq, Below w.heap.size w wq → wq.cell? ⟨g, off + 1, none⟩ = some (.int .u8 (y1 : Int)) := fun wq hq => by rw [hy1]; exact kk 1 x1 (by rw [hbs]; rfl) wq hq
  have k5 : ∀ wq, Below w.heap.size w wq → wq.cell? ⟨g, off + 5, none⟩ = some (.int .u8 (y5 : Int)) := fun wq hq => by rw [hy5]; exact kk 5 x5 (by rw [hbs]; rfl) wq hq
  have k2 := kk 2 x2 (by rw [hbs]; rfl)
  have k3 := kk 3 x3 (by rw [hbs]; rfl)
  have k4 := kk 4 x4 (by rw [hbs]; rfl)
  have hE1 : tkE1 b = tkF 254 x1 x5 r [x1, x2, x3, x4, x5] := by rw [hbs, tkE1_six]
  have hid : tkId b = (y5 : Int) := by rw [hbs, hy5]; rfl
  have hN0 : tkN0 b = szS (y5 : Int) := by rw [← hid]; rfl
  have hP : tkP b = if tkE b = 0 then ⟨(x2.toNat : Int), (x3.toNat : Int), (x4.toNat : Int), (y5 : Int), sTV (frm (y5 : Int)) (tkBody b)⟩ else zPk := by rw [← hid]; unfold tkP; rw [hbs]; rfl
  have hsz := fun w => qtsize_any (y5 : Int) w
  have hgeN := @szS_ge (y5 : Int)
  have hszb : szS (y5 : Int) ≤ 208 := by have := wd_200 (y5 : Int); unfold szS; split <;> omega
  have hF : tkF 254 x1 x5 r [x1, x2, x3, x4, x5] = if szS (y5 : Int) = 0 then 6 else if ¬ y1 + 8 = szS (y5 : Int) then 3 else if n < szS (y5 : Int) then 2 else if ¬ (b.drop (szS (y5 : Int) - 2)).take 2 = sm2 (frm (y5 : Int)) ((b.drop 1).take (szS (y5 : Int) - 3)) then 4 else 0 := by
    rw [← hE1]
    unfold tkE1
    have g0 : b.getD 0 0 = 254 := by rw [hbs]; rfl
    have n0 : ¬ ¬ b.getD 0 0 = 254 := fun h => h g0
    have e1 : (b.getD 1 0).toNat = y1 := by rw [hbs, hy1]; rfl
    rw [if_neg (show ¬ b.length = 0 by omega), if_neg n0, hlb, if_neg h6, hN0, hid, e1]
  obtain ⟨N, hN⟩ : ∃ N, N = szS (y5 : Int) := ⟨_, rfl⟩
  rw [← hN] at hN0 hsz hgeN hszb hF
  rw [hF] at hE1
  have hw5 : wrap64 (y5 : Int) = (y5 : Int) := by unfold wrap64; omega
  have hw1 : wrap64 (y1 : Int) = (y1 : Int) := by unfold wrap64; omega
  have Hw5 := Lib.hid hw5
  have Hw1 := Lib.hid hw1
  have HE1 := Lib.hid hE1
  have HN0 := Lib.hid hN0
  have HP := Lib.hid hP
  have Hsz := Lib.hid hsz
  have Hid5 := Lib.hid hid
  have K2 := Lib.hid k2
  have K3 := Lib.hid k3
  have K4 := Lib.hid k4
  have K1 := Lib.hid k1
  have k5w := k5 _ h0
  have hn5 : (5 : Int) < (n : Int) := by omega
  have hn1' : (1 : Int) < (n : Int) := by omega
  have hn5n : 5 < n := by omega
  have hn1n : 1 < n := by omega
  have Hbx0 := Lib.hid hbx
  clear hw5 hw1 hE1 hN0 hP hsz hid k2 k3 k4 k1 k5 kk hF hbx hx0 k0 hN hy1 hy5 e254 hbs hrl hlb
  by_cases hN00 : N = 0
  · subst hN00
    have HE : Hid (tkE b = 6 ∧ tkN b = 0) := Lib.hid (tkE_of1 (by rw [HE1.out, if_pos rfl]) (by omega))
    clear h
    go_enter Tryz.func6, Tryz.ntmps6
    have hw5 := Hw5.out
    go_wp2_with fail
    go_fit (Hsz.out _)
    rintro e w2 ⟨rfl, hbx⟩
    have hb2 := bnx h0 hbx
    replace hres := blk_old hres hbx (blk_lt hres)
    clear hbx h0 k0w k5w hw5
    go_wp2_with (first | (with_reducible refine stop_loadT 28 ?_) | (with_reducible refine stop_storeT 28 ?_))
    refine go_ (wpList_store_row rfl _ _ _ rfl w.heap.size #[.int .i64 0, .int .i64 0, .int .i64 0, .int .i64 0, .slice none 0 0] rfl rfl _ _ hres (by kernel_rfl) rfl (by kernel_rfl) ?_)
    have hres5 := setRow_heap _ _ _ (#[.int .i64 0, .int .i64 0, .int .i64 0, .int .i64 0, .slice none 0 0] : Array Value) _ _ hres
    have hb5 := below_setRow hb2 (Nat.le_refl _) (#[.int .i64 0, .int .i64 0, .int .i64 0, .int .i64 0, .slice none 0 0] : Array Value)
    generalize (w2.setRow w.heap.size #[.int .i64 0, .int .i64 0, .int .i64 0, .int .i64 0, .slice none 0 0]) = v5 at *
    have e0 := blk_cell (i := 0) (v := .int .i64 0) hres5 rfl
    have e1 := blk_cell (i := 1) (v := .int .i64 0) hres5 rfl
    have e2 := blk_cell (i := 2) (v := .int .i64 0) hres5 rfl
    have e3 := blk_cell (i := 3) (v := .int .i64 0) hres5 rfl
    have e4 := blk_cell (i := 4) (v := .slice none 0 0) hres5 rfl
    go_wp2
    exact bodyPost_ret (v := .tuple #[.agg #[.int .i64 0, .int .i64 0, .int .i64 0, .int .i64 0, .slice none 0 0], .int .i64 0, .int .i64 6]) (by simp [results, go_sem, e0, e1, e2, e3, e4]) rfl (tl_out (E := 6) (N := 0) HE.out.1 (by decide) HE.out.2 hb5)
  have hN8 := hgeN hN00
  have hN0' : ¬ (N : Int) = 0 := by omega
  have hN0q : ((N : Int) == 0) = false := by simp; exact hN00
  obtain ⟨a8, ha8⟩ : ∃ a : Nat, a = y1 + 8 := ⟨_, rfl⟩
  have hwa : IntKind.i64.wrap ((y1 : Int) + 8) = (a8 : Int) := by rw [IntWalk.i64_in _ (by omega)]; omega
  have Hwa := Lib.hid hwa
  clear hwa
  by_cases hfm : a8 = N
  case neg =>
    have HE : Hid (tkE b = 3 ∧ tkN b = 0) := Lib.hid (tkE_of1 (by rw [HE1.out, if_neg hN00, if_pos (by omega)]) (by omega))
    have hq : ((a8 : Int) != (N : Int)) = true := by simp; omega
    have hq2 : ¬ (a8 : Int) = (N : Int) := by omega
    clear h ha8
    go_enter Tryz.func6, Tryz.ntmps6
    have hw5 := Hw5.out
    go_wp2_with fail
    go_fit (Hsz.out _)
    rintro e w2 ⟨rfl, hbx⟩
    have hb2 := bnx h0 hbx
    replace hres := blk_old hres hbx (blk_lt hres)
    have k1w := K1.out w2 hb2
    have hw1 := Hw1.out
    have hwa := Hwa.out
    clear hbx h0 k0w k5w hw5
    go_wp2_with (first | (with_reducible refine stop_loadT 28 ?_) | (with_reducible refine stop_storeT 28 ?_))
    refine go_ (wpList_store_row rfl _ _ _ rfl w.heap.size #[.int .i64 0, .int .i64 0, .int .i64 0, .int .i64 0, .slice none 0 0] rfl rfl _ _ hres (by kernel_rfl) rfl (by kernel_rfl) ?_)
    have hres5 := setRow_heap _ _ _ (#[.int .i64 0, .int .i64 0, .int .i64 0, .int .i64 0, .slice none 0 0] : Array Value) _ _ hres
    have hb5 := below_setRow hb2 (Nat.le_refl _) (#[.int .i64 0, .int .i64 0, .int .i64 0, .int .i64 0, .slice none 0 0] : Array Value)
    generalize (w2.setRow w.heap.size #[.int .i64 0, .int .i64 0, .int .i64 0, .int .i64 0, .slice none 0 0]) = v5 at *
    have e0 := blk_cell (i := 0) (v := .int .i64 0) hres5 rfl
    have e1 := blk_cell (i := 1) (v := .int .i64 0) hres5 rfl
    have e2 := blk_cell (i := 2) (v := .int .i64 0) hres5 rfl
    have e3 := blk_cell (i := 3) (v := .int .i64 0) hres5 rfl
    have e4 := blk_cell (i := 4) (v := .slice none 0 0) hres5 rfl
    go_wp2
    exact bodyPost_ret (v := .tuple #[.agg #[.int .i64 0, .int .i64 0, .int .i64 0, .int .i64 0, .slice none 0 0], .int .i64 0, .int .i64 3]) (by simp [results, go_sem, e0, e1, e2, e3, e4]) rfl (tl_out (E := 3) (N := 0) HE.out.1 (by decide) HE.out.2 hb5)
  have hq8 : ((a8 : Int) != (N : Int)) = false := by simp; omega
  by_cases hsh : n < N
  · have HE : Hid (tkE b = 2 ∧ tkN b = 0) := Lib.hid (tkE_of1 (by rw [HE1.out, if_neg hN00, if_neg (by omega), if_pos hsh]) (by omega))
    have hsh' : (n : Int) < (N : Int) := by omega
    clear h ha8
    go_enter Tryz.func6, Tryz.ntmps6
    have hw5 := Hw5.out
    go_wp2_with fail
    go_fit (Hsz.out _)
    rintro e w2 ⟨rfl, hbx⟩
    have hb2 := bnx h0 hbx
    replace hres := blk_old hres hbx (blk_lt hres)
    have k1w := K1.out w2 hb2
    have hw1 := Hw1.out
    have hwa := Hwa.out
    clear hbx h0 k0w k5w hw5
    go_wp2_with (first | (with_reducible refine stop_loadT 28 ?_) | (with_reducible refine stop_storeT 28 ?_))
    refine go_ (wpList_store_row rfl _ _ _ rfl w.heap.size #[.int .i64 0, .int .i64 0, .int .i64 0, .int .i64 0, .slice none 0 0] rfl rfl _ _ hres (by kernel_rfl) rfl (by kernel_rfl) ?_)
    have hres5 := setRow_heap _ _ _ (#[.int .i64 0, .int .i64 0, .int .i64 0, .int .i64 0, .slice none 0 0] : Array Value) _ _ hres
    have hb5 := below_setRow hb2 (Nat.le_refl _) (#[.int .i64 0, .int .i64 0, .int .i64 0, .int .i64 0, .slice none 0 0] : Array Value)
    generalize (w2.setRow w.heap.size #[.int .i64 0, .int .i64 0, .int .i64 0, .int .i64 0, .slice none 0 0]) = v5 at *
    have e0 := blk_cell (i := 0) (v := .int .i64 0) hres5 rfl
    have e1 := blk_cell (i := 1) (v := .int .i64 0) hres5 rfl
    have e2 := blk_cell (i := 2) (v := .int .i64 0) hres5 rfl
    have e3 := blk_cell (i := 3) (v := .int .i64 0) hres5 rfl
    have e4 := blk_cell (i := 4) (v := .slice none 0 0) hres5 rfl
    go_wp2
    exact bodyPost_ret (v := .tuple #[.agg #[.int .i64 0, .int .i64 0, .int .i64 0, .int .i64 0, .slice none 0 0], .int .i64 0, .int .i64 2]) (by simp [results, go_sem, e0, e1, e2, e3, e4]) rfl (tl_out (E := 2) (N := 0) HE.out.1 (by decide) HE.out.2 hb5)
  have hsh' : ¬ (n : Int) < (N : Int) := by omega
  have HE2 : Hid (tkE1 b = if ¬ (b.drop (N - 2)).take 2 = sm2 (frm (y5 : Int)) ((b.drop 1).take (N - 3)) then 4 else 0) := Lib.hid (by rw [HE1.out, if_neg hN00, if_neg (by omega), if_neg hsh])
  obtain ⟨m2, hm2⟩ : ∃ m : Nat, m = N - 2 := ⟨_, rfl⟩
  have hwm2 : IntKind.i64.wrap ((N : Int) - 2) = (m2 : Int) := by rw [IntWalk.i64_in _ (by omega)]; omega
  have Hwm2 := Lib.hid hwm2
  obtain ⟨i0, hi⟩ := info_parts u8_info
  have hcutS : ∀ w, (Instr.slice 22 (.slice (some ⟨g, off, none⟩) n c) (some (.int .i64 1)) (some (.int .i64 (m2 : Int))) none).run Tryz.prog w = .ok (.slice (cutA (some ⟨g, off, none⟩) c 1 1) (N - 3) (c - 1)) w := fun w => by
    have := run_cut_lh (P := Tryz.prog) Tryz.underlying22 hi.1 hi.2.2.1 (some ⟨g, off, none⟩) n c 1 m2 (by omega) (by omega) w
    rwa [show m2 - 1 = N - 3 by omega] at this
  have HcutS := Lib.hid hcutS
  have HcutN := Lib.hid (run_cut_h (P := Tryz.prog) Tryz.underlying22 hi.1 (some ⟨g, off, none⟩) n c N (by omega))
  have hcutB : ∀ w, (Instr.slice 22 (.slice (some ⟨g, off, none⟩) n c) (some (.int .i64 6)) (some (.int .i64 (m2 : Int))) none).run Tryz.prog w = .ok (.slice (cutA (some ⟨g, off, none⟩) c 6 1) (N - 8) (c - 6)) w := fun w => by
    have := run_cut_lh (P := Tryz.prog) Tryz.underlying22 hi.1 hi.2.2.1 (some ⟨g, off, none⟩) n c 6 m2 (by omega) (by omega) w
    rwa [show m2 - 6 = N - 8 by omega] at this
  have HcutB := Lib.hid hcutB
  have HrS : Hid (Rd w w.heap.size 1 (cutA (some ⟨g, off, none⟩) c 1 1) (N - 3) (c - 1) (bv ((b.drop 1).take (N - 3)))) := Lib.hid (by
    have := (h.btake (k := m2) (by omega)).bdrop (k := 1) (by omega)
    rwa [show m2 - 1 = N - 3 by omega, List.drop_take, show m2 - 1 = N - 3 by omega] at this)
  have HrB : Hid (Rd w w.heap.size 1 (cutA (some ⟨g, off, none⟩) c 6 1) (N - 8) (c - 6) (bv (tkBody b))) := Lib.hid (by
    have := (h.btake (k := m2) (by omega)).bdrop (k := 6) (by omega)
    unfold tkBody
    rw [HN0.out]
    rwa [show m2 - 6 = N - 8 by omega, List.drop_take, show m2 - 6 = N - 8 by omega] at this)
  have HrN : Hid (Rd w w.heap.size 1 (some ⟨g, off, none⟩) N c (bv (b.take N))) := Lib.hid (h.btake (k := N) (by omega))
  have hm2p : 6 ≤ m2 := by omega
  have hn2i : (2 : Int) < (n : Int) := by omega
  have hn3i : (3 : Int) < (n : Int) := by omega
  have hn4i : (4 : Int) < (n : Int) := by omega
  have hn2n : 2 < n := by omega
  have hn3n : 3 < n := by omega
  have hn4n : 4 < n := by omega
  have Hl1 := Lib.hid (take_254 Hbx0.out (show 3 ≤ N by omega))
  clear h ha8 hwm2 hi hcutS hcutB hfm hgeN hm2
  go_enter Tryz.func6, Tryz.ntmps6
  have hw5 := Hw5.out
  go_wp2_with fail
  go_fit (Hsz.out _)
  rintro e w2 ⟨rfl, hbx⟩
  have hb2 := bnx h0 hbx
  replace hres := blk_old hres hbx (blk_lt hres)
  have k1w := K1.out w2 hb2
  have hw1 := Hw1.out
  have hwa := Hwa.out
  have hwm2 := Hwm2.out
  have hrl := blk_lt hres
  clear hbx h0 k0w k5w hw5
  have Hse := Lib.hid (fun w h hB => sealed_any (y5 : Int) (cutA (some ⟨g, off, none⟩) c 1 1) (N - 3) (c - 1) w.heap.size ((b.drop 1).take (N - 3)) w h hB (by omega))
  obtain ⟨X, hX⟩ : ∃ X, X = 254 :: ((b.drop 1).take (N - 3) ++ sm2 (frm (y5 : Int)) ((b.drop 1).take (N - 3))) := ⟨_, rfl⟩
  obtain ⟨Y, hY⟩ : ∃ Y, Y = b.take N := ⟨_, rfl⟩
  rw [← hX] at Hse
  rw [← hY] at HrN
  have hXY : X = Y ↔ (b.drop (N - 2)).take 2 = sm2 (frm (y5 : Int)) ((b.drop 1).take (N - 3)) := by
    rw [hX, hY, Hl1.out, List.cons.injEq, List.append_cancel_left_eq]
    exact ⟨fun h => h.2.symm, fun h => ⟨rfl, h.symm⟩⟩
  have HXY := Lib.hid hXY
  have hrn2 := HrN.out.up hb2
  have hrs2 := (HrS.out.up hb2).more hb2.size
  clear hX hY hXY
  go_wp2_with fail
  refine Ord.region_ (fun w' => Below w2.heap.size w2 w') false [50] (by kernel_rfl) (by kernel_rfl) (Below.refl _ _).drew ?_
  have hS : Below w2.heap.size w2 w2.drew := (Below.refl _ _).drew
  generalize w2.drew = w3 at *
  clear k1w hw1 hwa
  ((with_reducible refine Ord.e_p (v := ?_) ?_ ?_ ?_ ?_); rotate_left; (· exact rfl); (· kernel_rfl); (· intro w2; go_simp; try with_reducible rfl))
  (try simp only [Act.put, List.setIfInBounds_toArray, List.set_cons_zero, List.set_cons_succ])
  ((with_reducible refine Ord.e_p (v := ?_) ?_ ?_ ?_ ?_); rotate_left; (· exact rfl); (· kernel_rfl); (· intro w2; go_simp; try with_reducible rfl))
  (try simp only [Act.put, List.setIfInBounds_toArray, List.set_cons_zero, List.set_cons_succ])
  ((with_reducible refine Ord.e_p (v := ?_) ?_ ?_ ?_ ?_); rotate_left; (· exact rfl); (· kernel_rfl); (· intro w2; go_simp; try with_reducible rfl))
  (try simp only [Act.put, List.setIfInBounds_toArray, List.set_cons_zero, List.set_cons_succ])
  refine Ord.e_p (v := .int .i64 (m2 : Int)) rfl (by kernel_rfl) (fun w2 => by have hwm2 := Hwm2.out; go_simp) ?_
  (try simp only [Act.put, List.setIfInBounds_toArray, List.set_cons_zero, List.set_cons_succ])
  refine Ord.e_p (v := .slice (cutA (some ⟨g, off, none⟩) c 1 1) (N - 3) (c - 1)) rfl (by kernel_rfl) (fun w2 => by have hcut := HcutS.out w2; go_simp) ?_
  (try simp only [Act.put, List.setIfInBounds_toArray, List.set_cons_zero, List.set_cons_succ])
  refine Ord.e_x rfl (by kernel_rfl) ?_
  go_wp2_with fail
  go_fit (Hse.out w3 ((hrs2.up hS).more hS.size) (Nat.le_refl _))
  rintro e w4 ⟨A4, c4, n4, rfl, own4, hbx⟩
  have hr4 := Rd.own own4
  have hS4 := bnx hS hbx
  clear hS hbx own4
  go_wp2_with fail
  refine Ord.Seg.go hS4 (fun h => by cases h) ?_
  (try simp only [Act.put, List.setIfInBounds_toArray, List.set_cons_zero, List.set_cons_succ])
  refine Ord.e_str Tryz.underlying22 Tryz.underlying5 Tryz.underlying9 hr4 rfl (by kernel_rfl) (by kernel_rfl) ?_
  (try simp only [Act.put, List.setIfInBounds_toArray, List.set_cons_zero, List.set_cons_succ])
  ((with_reducible refine Ord.e_p (v := ?_) ?_ ?_ ?_ ?_); rotate_left; (· exact rfl); (· kernel_rfl); (· intro w2; go_simp; try with_reducible rfl))
  (try simp only [Act.put, List.setIfInBounds_toArray, List.set_cons_zero, List.set_cons_succ])
  ((with_reducible refine Ord.e_p (v := ?_) ?_ ?_ ?_ ?_); rotate_left; (· exact rfl); (· kernel_rfl); (· intro w2; go_simp; try with_reducible rfl))
  (try simp only [Act.put, List.setIfInBounds_toArray, List.set_cons_zero, List.set_cons_succ])
  refine Ord.e_p (v := .slice (some ⟨g, off, none⟩) N c) rfl (by kernel_rfl) (fun w2 => by have hcut := HcutN.out w2; go_simp) ?_
  (try simp only [Act.put, List.setIfInBounds_toArray, List.set_cons_zero, List.set_cons_succ])
  refine Ord.e_strS Tryz.underlying22 Tryz.underlying5 Tryz.underlying9 (fun w' hS => hrn2.up ((show Below _ w2 w' from hS).mono hb2.size)) hS4 (Nat.le_trans hb2.size hS4.size) rfl (by kernel_rfl) ?_
  (try simp only [Act.put, List.setIfInBounds_toArray, List.set_cons_zero, List.set_cons_succ])
  have hb8 := bnx hb2 hS4
  have hres8 := blk_old hres hS4 hrl
  by_cases hsm : X = Y
  case neg =>
    have HE : Hid (tkE b = 4 ∧ tkN b = 0) := Lib.hid (tkE_of1 (by rw [HE2.out, if_pos (fun h => hsm (HXY.out.2 h))]) (by omega))
    have hsa : ¬ X.toArray = Y.toArray := fun h => hsm (List.toArray_inj h)
    refine Ord.e_p (v := .bool true) rfl (by kernel_rfl) (fun w2 => by go_simp) ?_
    (try simp only [Act.put, List.setIfInBounds_toArray, List.set_cons_zero, List.set_cons_succ])
    refine Ord.e_nil ?_
    replace hres := hres8
    clear hr4 hS4 hrn2 hrs2 hres8 hsa hsm
    generalize w4 = w8 at *
    go_wp2_with (first | (with_reducible refine stop_loadT 28 ?_) | (with_reducible refine stop_storeT 28 ?_))
    refine go_ (wpList_store_row rfl _ _ _ rfl w.heap.size #[.int .i64 0, .int .i64 0, .int .i64 0, .int .i64 0, .slice none 0 0] rfl rfl _ _ hres (by kernel_rfl) rfl (by kernel_rfl) ?_)
    have hres5 := setRow_heap _ _ _ (#[.int .i64 0, .int .i64 0, .int .i64 0, .int .i64 0, .slice none 0 0] : Array Value) _ _ hres
    have hb5 := below_setRow hb8 (Nat.le_refl _) (#[.int .i64 0, .int .i64 0, .int .i64 0, .int .i64 0, .slice none 0 0] : Array Value)
    generalize (w8.setRow w.heap.size #[.int .i64 0, .int .i64 0, .int .i64 0, .int .i64 0, .slice none 0 0]) = v5 at *
    have e0 := blk_cell (i := 0) (v := .int .i64 0) hres5 rfl
    have e1 := blk_cell (i := 1) (v := .int .i64 0) hres5 rfl
    have e2 := blk_cell (i := 2) (v := .int .i64 0) hres5 rfl
    have e3 := blk_cell (i := 3) (v := .int .i64 0) hres5 rfl
    have e4 := blk_cell (i := 4) (v := .slice none 0 0) hres5 rfl
    go_wp2
    exact bodyPost_ret (v := .tuple #[.agg #[.int .i64 0, .int .i64 0, .int .i64 0, .int .i64 0, .slice none 0 0], .int .i64 0, .int .i64 4]) (by simp [results, go_sem, e0, e1, e2, e3, e4]) rfl (tl_out (E := 4) (N := 0) HE.out.1 (by decide) HE.out.2 hb5)
  subst hsm
  refine Ord.e_p (v := .bool false) rfl (by kernel_rfl) (fun w2 => by go_simp) ?_
  (try simp only [Act.put, List.setIfInBounds_toArray, List.set_cons_zero, List.set_cons_succ])
  refine Ord.e_nil ?_
  have hE10 : tkE1 b = 0 := by rw [HE2.out, if_neg (fun h => h (HXY.out.1 rfl))]
  have hTE : tkE b = sTE (frm (y5 : Int)) (tkBody b) := by unfold tkE; rw [if_pos hE10, Hid5.out]
  have hTN : tkN b = N := by unfold tkN; rw [if_pos hE10, HN0.out]
  have HTE := Lib.hid hTE
  have HTN := Lib.hid hTN
  replace hres := hres8
  have hcutB := HcutB.out
  clear hr4 hS4 hrn2 hrs2 hres8 hE10 hTE hTN
  generalize w4 = w8 at *
  go_wp2_with fail
  go_fit (qtake31_any (y5 : Int) _ (N - 8) (c - 6) _ w8 ((HrB.out.up hb8).more hb8.size))
  rintro e w9 ⟨A9, n9, c9, rfl, own9, hbx⟩
  have hb9 := bnx hb8 hbx
  have hres8 := hres
  replace hres := blk_old hres hbx (blk_lt hres)
  have hr9 := Rd.own own9
  rw [← HTE.out]
  by_cases hz : tkE b = 0
  case neg =>
    obtain ⟨err, herr⟩ : ∃ err, err = tkE b := ⟨_, rfl⟩
    rw [← herr] at hz ⊢
    have HE : Hid (tkE b = err ∧ tkN b = N) := Lib.hid ⟨herr.symm, HTN.out⟩
    have hz' : ¬ (err : Int) = 0 := by omega
    have hzq : ((err : Int) != 0) = true := by simp; exact hz
    clear hbx own9 hr9 hb8 herr hres8
    go_wp2_with (first | (with_reducible refine stop_loadT 28 ?_) | (with_reducible refine stop_storeT 28 ?_))
    refine go_ (wpList_store_row rfl _ _ _ rfl w.heap.size #[.int .i64 0, .int .i64 0, .int .i64 0, .int .i64 0, .slice none 0 0] rfl rfl _ _ hres (by kernel_rfl) rfl (by kernel_rfl) ?_)
    have hres5 := setRow_heap _ _ _ (#[.int .i64 0, .int .i64 0, .int .i64 0, .int .i64 0, .slice none 0 0] : Array Value) _ _ hres
    have hb5 := below_setRow hb9 (Nat.le_refl _) (#[.int .i64 0, .int .i64 0, .int .i64 0, .int .i64 0, .slice none 0 0] : Array Value)
    generalize (w9.setRow w.heap.size #[.int .i64 0, .int .i64 0, .int .i64 0, .int .i64 0, .slice none 0 0]) = v5 at *
    have e0 := blk_cell (i := 0) (v := .int .i64 0) hres5 rfl
    have e1 := blk_cell (i := 1) (v := .int .i64 0) hres5 rfl
    have e2 := blk_cell (i := 2) (v := .int .i64 0) hres5 rfl
    have e3 := blk_cell (i := 3) (v := .int .i64 0) hres5 rfl
    have e4 := blk_cell (i := 4) (v := .slice none 0 0) hres5 rfl
    go_wp2
    exact bodyPost_ret (v := .tuple #[.agg #[.int .i64 0, .int .i64 0, .int .i64 0, .int .i64 0, .slice none 0 0], .int .i64 (N : Int), .int .i64 (err : Int)]) (by simp [results, go_sem, e0, e1, e2, e3, e4]) rfl (tl_out (E := err) (N := N) HE.out.1 hz HE.out.2 hb5)
  have HP2 : Hid (tkP b = ⟨(x2.toNat : Int), (x3.toNat : Int), (x4.toNat : Int), (y5 : Int), sTV (frm (y5 : Int)) (tkBody b)⟩) := Lib.hid (by rw [HP.out, if_pos hz])
  have Hz := Lib.hid hz
  rw [hz]
  have k2w := K2.out w9 hb9
  have k3w := K3.out w9 hb9
  have k4w := K4.out w9 hb9
  have hx2 := x2.toNat_lt
  have hx3 := x3.toNat_lt
  have hx4 := x4.toNat_lt
  have hw2 : IntKind.i64.wrap (x2.toNat : Int) = (x2.toNat : Int) := IntWalk.i64_in _ (by omega)
  have hw3 : IntKind.i64.wrap (x3.toNat : Int) = (x3.toNat : Int) := IntWalk.i64_in _ (by omega)
  have hw4 : IntKind.i64.wrap (x4.toNat : Int) = (x4.toNat : Int) := IntWalk.i64_in _ (by omega)
  have hs89 : w.heap.size < w8.heap.size := blk_lt hres8
  clear hbx hr9 hb8 hz hres8
  go_wp2_with fail
  refine Ord.region_ (fun w' => w'.cell? ⟨g, off + 2, none⟩ = some (.int .u8 (x2.toNat : Int)) ∧ w'.cell? ⟨g, off + 3, none⟩ = some (.int .u8 (x3.toNat : Int)) ∧ w'.cell? ⟨g, off + 4, none⟩ = some (.int .u8 (x4.toNat : Int))) false [] (by kernel_rfl) (by kernel_rfl) ⟨k2w, k3w, k4w⟩ ?_
  replace k2w : w9.drew.cell? _ = _ := k2w
  replace k3w : w9.drew.cell? _ = _ := k3w
  replace k4w : w9.drew.cell? _ = _ := k4w
  replace hb9 := hb9.drew
  replace hres : w9.drew.heap[w.heap.size]? = _ := hres
  replace own9 : w9.drew.ownsRow w8.heap.size 2 1 _ _ _ := own9
  generalize w9.drew = wd at *
  ((with_reducible refine Ord.e_p (v := ?_) ?_ ?_ ?_ ?_); rotate_left; (· exact rfl); (· kernel_rfl); (· intro w2; go_simp; try with_reducible rfl))
  (try simp only [Act.put, List.setIfInBounds_toArray, List.set_cons_zero, List.set_cons_succ])
  ((with_reducible refine Ord.e_p (v := ?_) ?_ ?_ ?_ ?_); rotate_left; (· exact rfl); (· kernel_rfl); (· intro w2; go_simp; try with_reducible rfl))
  (try simp only [Act.put, List.setIfInBounds_toArray, List.set_cons_zero, List.set_cons_succ])
  refine Ord.e_loadS (ad := ⟨g, off + 2, none⟩) Tryz.underlying5 rfl (fun w' hS => hS.1) ⟨k2w, k3w, k4w⟩ rfl (by kernel_rfl) ?_
  (try simp only [Act.put, List.setIfInBounds_toArray, List.set_cons_zero, List.set_cons_succ])
  refine Ord.e_p (v := .int .i64 (x2.toNat : Int)) rfl (by kernel_rfl) (fun w2 => by go_simp) ?_
  (try simp only [Act.put, List.setIfInBounds_toArray, List.set_cons_zero, List.set_cons_succ])
  ((with_reducible refine Ord.e_p (v := ?_) ?_ ?_ ?_ ?_); rotate_left; (· exact rfl); (· kernel_rfl); (· intro w2; go_simp; try with_reducible rfl))
  (try simp only [Act.put, List.setIfInBounds_toArray, List.set_cons_zero, List.set_cons_succ])
  ((with_reducible refine Ord.e_p (v := ?_) ?_ ?_ ?_ ?_); rotate_left; (· exact rfl); (· kernel_rfl); (· intro w2; go_simp; try with_reducible rfl))
  (try simp only [Act.put, List.setIfInBounds_toArray, List.set_cons_zero, List.set_cons_succ])
  refine Ord.e_loadS (ad := ⟨g, off + 3, none⟩) Tryz.underlying5 rfl (fun w' hS => hS.2.1) ⟨k2w, k3w, k4w⟩ rfl (by kernel_rfl) ?_
  (try simp only [Act.put, List.setIfInBounds_toArray, List.set_cons_zero, List.set_cons_succ])
  refine Ord.e_p (v := .int .i64 (x3.toNat : Int)) rfl (by kernel_rfl) (fun w2 => by go_simp) ?_
  (try simp only [Act.put, List.setIfInBounds_toArray, List.set_cons_zero, List.set_cons_succ])
  ((with_reducible refine Ord.e_p (v := ?_) ?_ ?_ ?_ ?_); rotate_left; (· exact rfl); (· kernel_rfl); (· intro w2; go_simp; try with_reducible rfl))
  (try simp only [Act.put, List.setIfInBounds_toArray, List.set_cons_zero, List.set_cons_succ])
  ((with_reducible refine Ord.e_p (v := ?_) ?_ ?_ ?_ ?_); rotate_left; (· exact rfl); (· kernel_rfl); (· intro w2; go_simp; try with_reducible rfl))
  (try simp only [Act.put, List.setIfInBounds_toArray, List.set_cons_zero, List.set_cons_succ])
  refine Ord.e_loadS (ad := ⟨g, off + 4, none⟩) Tryz.underlying5 rfl (fun w' hS => hS.2.2) ⟨k2w, k3w, k4w⟩ rfl (by kernel_rfl) ?_
  (try simp only [Act.put, List.setIfInBounds_toArray, List.set_cons_zero, List.set_cons_succ])
  refine Ord.e_p (v := .int .i64 (x4.toNat : Int)) rfl (by kernel_rfl) (fun w2 => by go_simp) ?_
  (try simp only [Act.put, List.setIfInBounds_toArray, List.set_cons_zero, List.set_cons_succ])
  ((with_reducible refine Ord.e_p (v := ?_) ?_ ?_ ?_ ?_); rotate_left; (· exact rfl); (· kernel_rfl); (· intro w2; go_simp; try with_reducible rfl))
  (try simp only [Act.put, List.setIfInBounds_toArray, List.set_cons_zero, List.set_cons_succ])
  ((with_reducible refine Ord.e_p (v := ?_) ?_ ?_ ?_ ?_); rotate_left; (· exact rfl); (· kernel_rfl); (· intro w2; go_simp; try with_reducible rfl))
  (try simp only [Act.put, List.setIfInBounds_toArray, List.set_cons_zero, List.set_cons_succ])
  ((with_reducible refine Ord.e_p (v := ?_) ?_ ?_ ?_ ?_); rotate_left; (· exact rfl); (· kernel_rfl); (· intro w2; go_simp; try with_reducible rfl))
  (try simp only [Act.put, List.setIfInBounds_toArray, List.set_cons_zero, List.set_cons_succ])
  ((with_reducible refine Ord.e_p (v := ?_) ?_ ?_ ?_ ?_); rotate_left; (· exact rfl); (· kernel_rfl); (· intro w2; go_simp; try with_reducible rfl))
  (try simp only [Act.put, List.setIfInBounds_toArray, List.set_cons_zero, List.set_cons_succ])
  ((with_reducible refine Ord.e_p (v := ?_) ?_ ?_ ?_ ?_); rotate_left; (· exact rfl); (· kernel_rfl); (· intro w2; go_simp; try with_reducible rfl))
  (try simp only [Act.put, List.setIfInBounds_toArray, List.set_cons_zero, List.set_cons_succ])
  refine Ord.e_x rfl (by kernel_rfl) ?_
  go_wp2_with (first | (with_reducible refine stop_loadT 28 ?_) | (with_reducible refine stop_storeT 28 ?_))
  refine go_ (wpList_store_row rfl _ _ _ rfl w.heap.size #[.int .i64 (x2.toNat : Int), .int .i64 (x3.toNat : Int), .int .i64 (x4.toNat : Int), .int .i64 (y5 : Int), .slice A9 n9 c9] rfl rfl _ _ hres (by kernel_rfl) rfl (by kernel_rfl) ?_)
  have hres5 := setRow_heap _ _ _ (#[.int .i64 (x2.toNat : Int), .int .i64 (x3.toNat : Int), .int .i64 (x4.toNat : Int), .int .i64 (y5 : Int), .slice A9 n9 c9] : Array Value) _ _ hres
  have hb5 := below_setRow hb9 (Nat.le_refl _) (#[.int .i64 (x2.toNat : Int), .int .i64 (x3.toNat : Int), .int .i64 (x4.toNat : Int), .int .i64 (y5 : Int), .slice A9 n9 c9] : Array Value)
  have q2 := (cell_setRow_other wd w.heap.size #[.int .i64 (x2.toNat : Int), .int .i64 (x3.toNat : Int), .int .i64 (x4.toNat : Int), .int .i64 (y5 : Int), .slice A9 n9 c9] ⟨g, off + 2, none⟩ (Nat.ne_of_lt had)).trans k2w
  have q3 := (cell_setRow_other wd w.heap.size #[.int .i64 (x2.toNat : Int), .int .i64 (x3.toNat : Int), .int .i64 (x4.toNat : Int), .int .i64 (y5 : Int), .slice A9 n9 c9] ⟨g, off + 3, none⟩ (Nat.ne_of_lt had)).trans k3w
  have q4 := (cell_setRow_other wd w.heap.size #[.int .i64 (x2.toNat : Int), .int .i64 (x3.toNat : Int), .int .i64 (x4.toNat : Int), .int .i64 (y5 : Int), .slice A9 n9 c9] ⟨g, off + 4, none⟩ (Nat.ne_of_lt had)).trans k4w
  have own5 := own_setRow own9 hs89 (#[.int .i64 (x2.toNat : Int), .int .i64 (x3.toNat : Int), .int .i64 (x4.toNat : Int), .int .i64 (y5 : Int), .slice A9 n9 c9] : Array Value)
  generalize (wd.setRow w.heap.size #[.int .i64 (x2.toNat : Int), .int .i64 (x3.toNat : Int), .int .i64 (x4.toNat : Int), .int .i64 (y5 : Int), .slice A9 n9 c9]) = v5 at *
  have e0 := blk_cell (i := 0) (v := .int .i64 (x2.toNat : Int)) hres5 rfl
  have e1 := blk_cell (i := 1) (v := .int .i64 (x3.toNat : Int)) hres5 rfl
  have e2 := blk_cell (i := 2) (v := .int .i64 (x4.toNat : Int)) hres5 rfl
  have e3 := blk_cell (i := 3) (v := .int .i64 (y5 : Int)) hres5 rfl
  have e4 := blk_cell (i := 4) (v := .slice A9 n9 c9) hres5 rfl
  clear k2w k3w k4w hb9 hres own9 hw2 hw3 hw4 hres5
  go_wp2_with fail
  refine Ord.Seg.go ⟨q2, q3, q4⟩ (fun h => by cases h) ?_
  (try simp only [Act.put, List.setIfInBounds_toArray, List.set_cons_zero, List.set_cons_succ])
  ((with_reducible refine Ord.e_p (v := ?_) ?_ ?_ ?_ ?_); rotate_left; (· exact rfl); (· kernel_rfl); (· intro w2; go_simp; try with_reducible rfl))
  (try simp only [Act.put, List.setIfInBounds_toArray, List.set_cons_zero, List.set_cons_succ])
  ((with_reducible refine Ord.e_p (v := ?_) ?_ ?_ ?_ ?_); rotate_left; (· exact rfl); (· kernel_rfl); (· intro w2; go_simp; try with_reducible rfl))
  (try simp only [Act.put, List.setIfInBounds_toArray, List.set_cons_zero, List.set_cons_succ])
  refine Ord.e_nil ?_
  go_wp2
  refine bodyPost_ret (v := .tuple #[.agg #[.int .i64 (x2.toNat : Int), .int .i64 (x3.toNat : Int), .int .i64 (x4.toNat : Int), .int .i64 (y5 : Int), .slice A9 n9 c9], .int .i64 (N : Int), .int .i64 0]) (by simp [results, go_sem, e0, e1, e2, e3, e4]) rfl ⟨A9, n9, c9, by rw [HP2.out, HTN.out, Hz.out]; rfl, by rw [HP2.out]; exact Rd.own own5, hb5⟩
set_option maxRecDepth 20000 in
set_option maxHeartbeats 8000000 in
theorem tltakes_any (A : Option Addr) (n c : Nat) (b : List UInt8) (w : World) (h : Rd w w.heap.size 1 A n c (bv b)) :
    Calls Tryz.prog 3 #[.slice A n c] w fun e w' => e = .returned (.bool true) ∧ Below w.heap.size w w' := by
  have hmx := h.max
  have hle := h.le
  unfold maxLen at hmx
  by_cases g1 : 1000 < n
  · have g1' : (1000 : Int) < (n : Int) := by omega
    go_enter Tryz.func3, Tryz.ntmps3
    go_wp2_with fail
    go_fit (knows32 _)
    rintro e w1 ⟨rfl, hb⟩
    go_wp2
    go_ret
    exact ⟨rfl, hb⟩
  have g1' : ¬ (1000 : Int) < (n : Int) := by omega
  go_enter Tryz.func3, Tryz.ntmps3
  go_wp2_with fail
  go_fit (knows32 _)
  rintro e w1 ⟨rfl, hb1⟩
  replace h := h.nx hb1
  go_wp2_with fail
  go_fit (tltake_any A n c b w1 h (by omega))
  unfold RetTl
  rintro e w2 ⟨Ap, np, kp, rfl, hrp, hbx⟩
  have hb2 := bnx hb1 hbx
  replace h := h.nx hbx
  clear hb1 hbx
  have Hq := Lib.hid (fun w h => qtltake_any A n c b w h (by omega))
  unfold RetTl at Hq
  generalize tkP b = P at *
  generalize tkN b = oN at *
  generalize tkE b = oE at *
  obtain ⟨psq, psy, pco, pid, pv⟩ := P
  dsimp only at hrp Hq ⊢
  have a3 := heap_alloc_new w2 (.cells #[.int .i64 psq, .int .i64 psy, .int .i64 pco, .int .i64 pid, .slice Ap np kp] 28)
  have hba : Below w2.heap.size w2 (w2.alloc (.cells #[.int .i64 psq, .int .i64 psy, .int .i64 pco, .int .i64 pid, .slice Ap np kp] 28)) := (Below.refl _ _).alloc (Nat.le_refl _) _
  have hb3 := bnx hb2 hba
  have h3 := h.nx hba
  have hrp3 := hrp.nx hba
  obtain ⟨gp, hgp⟩ : ∃ g, g = w2.heap.size := ⟨_, rfl⟩
  rw [← hgp] at a3
  clear hb2 h hrp hba
  go_wp2_with fail
  rw [← hgp]
  generalize (w2.alloc (.cells #[.int .i64 psq, .int .i64 psy, .int .i64 pco, .int .i64 pid, .slice Ap np kp] 28)) = w3 at *
  clear hgp
  go_fit (Hq.out w3 h3)
  rintro e w4 ⟨Aq, nq, kq, rfl, hrq, hbx⟩
  have hb4 := bnx hb3 hbx
  have a4 := blk_old a3 hbx (blk_lt a3)
  have hrp4 := hrp3.nx hbx
  have hcb : Below w4.heap.size w4 (w4.alloc (.cells #[.int .i64 psq, .int .i64 psy, .int .i64 pco, .int .i64 pid, .slice Aq nq kq] 28)) := (Below.refl _ _).alloc (Nat.le_refl _) _
  have a8 := heap_alloc_new w4 (.cells #[.int .i64 psq, .int .i64 psy, .int .i64 pco, .int .i64 pid, .slice Aq nq kq] 28)
  have ap := blk_old a4 hcb (blk_lt a4)
  have hrp8 := hrp4.nx hcb
  have hrq8 := hrq.nx hcb
  have hb8 := bnx hb4 hcb
  clear hbx hb3 a3 hrp3 hb4 a4 hrp4 hcb hrq h3 Hq
  have c0 := blk_cell (i := 0) (v := .int .i64 psq) ap rfl
  have c1 := blk_cell (i := 1) (v := .int .i64 psy) ap rfl
  have c2 := blk_cell (i := 2) (v := .int .i64 pco) ap rfl
  have c3 := blk_cell (i := 3) (v := .int .i64 pid) ap rfl
  have c4 := blk_cell (i := 4) (v := .slice Ap np kp) ap rfl
  have d0 := blk_cell (i := 0) (v := .int .i64 psq) a8 rfl
  have d1 := blk_cell (i := 1) (v := .int .i64 psy) a8 rfl
  have d2 := blk_cell (i := 2) (v := .int .i64 pco) a8 rfl
  have d3 := blk_cell (i := 3) (v := .int .i64 pid) a8 rfl
  have d4 := blk_cell (i := 4) (v := .slice Aq nq kq) a8 rfl
  clear ap a8
  go_wp2_with fail
  go_fit (psame_any psq psy pco pid Ap np kp Aq nq kq pv _ hrp8 hrq8)
  rintro e w9 ⟨rfl, hbx⟩
  have hbf := bnx hb8 hbx
  clear c0 c1 c2 c3 c4 d0 d1 d2 d3 d4 hbx hb8 hrp8 hrq8
  go_wp2_with fail
  go_fit (num32_any _ _)
  rintro e wn ⟨rfl, rfl⟩
  go_wp2_with fail
  go_fit (num32_any _ _)
  rintro e wn ⟨rfl, rfl⟩
  go_wp2
  go_ret
  exact ⟨by simp, hbf⟩

end Go.Proofs.YtonejdjhdjckjaaGreat
