/-
  tlm.Take walked (printed by gen_sch6.py).
-/
import Derived.Test.YtonejdjhdjckjaaKGQ
import Derived.Test.YtonejdjhdjckjaaKGE
import Derived.Lib.BufferOwn
set_option linter.unusedSimpArgs false
set_option linter.unusedVariables false
namespace Go.Proofs.Ytonejdjhdjckjaa
open Go.RowKit NumLaw
attribute [local go_sem] Addr.add_mid
attribute [-go_sem] run_eql_struct run_neq_struct

theorem own_setRow {w : World} {base : Nat} {e : TypeId} {size n : Nat} {v : Value} {xs : List Value} (h : w.ownsRow base e size v n xs) {g : Nat} (hg : g < base) (cs : Array Value) : (w.setRow g cs).ownsRow base e size v n xs := by
  refine ⟨h.1, ?_⟩
  rcases h.2 with h2 | ⟨k, cap, cur, hv, hk, hh, r⟩
  · exact .inl h2
  · exact .inr ⟨k, cap, cur, hv, hk, (setRow_other _ _ _ _ (by omega)).trans hh, r⟩
theorem Rd.cap {w : World} {B size n c : Nat} {A : Option Addr} {xs : List Value} (h : Rd w B size A n c xs) : Rd w B size A n n xs := ⟨h.len, Nat.le_refl _, Nat.le_trans h.le h.max, h.at_⟩
def RetTl (w : World) (b : List UInt8) (e : Ending) (w' : World) : Prop :=
  ∃ (A : Option Addr) (n c : Nat), e = .returned (.tuple #[.agg #[.int .i64 (tkP b).sq, .int .i64 (tkP b).sy, .int .i64 (tkP b).co, .int .i64 (tkP b).id, .slice A n c], .int .i64 (tkN b : Int), .int .i64 (tkE b : Int)]) ∧ Rd w' w'.heap.size 1 A n c ((tkP b).v.map (Value.int .i64)) ∧ Below w.heap.size w w'
theorem tl_out {w w' : World} {b : List UInt8} {E N : Nat} (he : tkE b = E) (h0 : ¬ E = 0) (hN : tkN b = N) (hb : Below w.heap.size w w') : RetTl w b (.returned (.tuple #[.agg #[.int .i64 0, .int .i64 0, .int .i64 0, .int .i64 0, .slice none 0 0], .int .i64 (N : Int), .int .i64 (E : Int)])) w' := by
  have hP : tkP b = zPk := by unfold tkP; rw [if_neg (by rw [he]; exact h0)]
  exact ⟨none, 0, 0, by rw [hP, he, hN]; rfl, by rw [hP]; exact Rd.none_ _ _ _, hb⟩
theorem tkE_of1 {b : List UInt8} {E : Nat} (h : tkE1 b = E) (h0 : ¬ E = 0) : tkE b = E ∧ tkN b = 0 := ⟨by unfold tkE; rw [h, if_neg h0], by unfold tkN; rw [h, if_neg h0]⟩
set_option maxRecDepth 10000 in
set_option maxHeartbeats 2000000 in
theorem cut_any (g : Nat) (A : Option Addr) (n c k : Nat) (w : World) (hg : w.heap[g]? = some (.cells #[.slice A n c] 89)) (hk : k ≤ n) (hc : n ≤ c) (hm : c ≤ maxLen) :
    Calls Try.prog 70 #[.pointer (some ⟨g, 0, none⟩), .int .i64 (k : Int)] w fun e w' => e = .returned (.slice A k k) ∧ w'.heap[g]? = some (.cells #[.slice (cutA A c k 1) (n - k) (c - k)] 89) ∧ w.grownBy w' (some g) := by
  obtain ⟨i0, hi⟩ := info_parts u8_info
  unfold maxLen at hm
  have hcut1 : ∀ w, (Instr.slice 36 (.slice A n c) none (some (.int .i64 (k : Int))) (some (.int .i64 (k : Int)))).run Try.prog w = .ok (.slice A k k) w := run_cut_hm (P := Try.prog) Try.underlying36 hi.1 A n c k (by omega)
  have hcut2 : ∀ w, (Instr.slice 36 (.slice A n c) (some (.int .i64 (k : Int))) none none).run Try.prog w = .ok (.slice (cutA A c k 1) (n - k) (c - k)) w := fun w => run_cut_l (P := Try.prog) Try.underlying36 hi.1 hi.2.2.1 A n c k (by omega) w
  have c0 := blk_cell (i := 0) (v := .slice A n c) hg rfl
  have f0 := blk_free (i := 0) hg
  have h1 := blk_set (i := 0) hg (.slice (cutA A c k 1) (n - k) (c - k))
  have hgr := grownBy_set (grownBy_self w (some g)) 0 (.slice (cutA A c k 1) (n - k) (c - k))
  have Hcut1 := Lib.hid hcut1
  have Hcut2 := Lib.hid hcut2
  clear hcut1 hcut2 hi
  go_enter Try.func70, Try.ntmps70
  have hcut1 := Hcut1.out
  have hcut2 := Hcut2.out
  go_wp2
  go_ret
  exact ⟨rfl, h1, hgr⟩
set_option maxRecDepth 20000 in
set_option maxHeartbeats 16000000 in
theorem tltake_any (A : Option Addr) (n c : Nat) (b : List UInt8) (w : World) (h : Rd w w.heap.size 1 A n c (bv b)) (hn : n ≤ 1000000) :
    Calls Try.prog 38 #[.slice A n c] w (RetTl w b) := by
  have hlb := h.blen
  have hmx := h.max
  have hle := h.le
  unfold maxLen at hmx
  have hres : (w.alloc (.cells #[.int .i64 0, .int .i64 0, .int .i64 0, .int .i64 0, .slice none 0 0] 48)).heap[w.heap.size]? = some (.cells #[.int .i64 0, .int .i64 0, .int .i64 0, .int .i64 0, .slice none 0 0] 48) := heap_alloc_new w _
  have h0 : Below w.heap.size w (w.alloc (.cells #[.int .i64 0, .int .i64 0, .int .i64 0, .int .i64 0, .slice none 0 0] 48)) := (Below.refl _ _).alloc (Nat.le_refl _) _
  by_cases hn0 : n = 0
  · subst hn0
    have HE : Hid (tkE b = 2 ∧ tkN b = 0) := Lib.hid (tkE_of1 (by unfold tkE1; rw [if_pos hlb]) (by omega))
    clear h hlb
    go_enter Try.func38, Try.ntmps38
    go_wp2_with (first | (with_reducible refine stop_loadT 48 ?_) | (with_reducible refine stop_storeT 48 ?_))
    refine go_ (wpList_store_row rfl _ _ _ rfl w.heap.size #[.int .i64 0, .int .i64 0, .int .i64 0, .int .i64 0, .slice none 0 0] rfl rfl _ _ hres (by kernel_rfl) rfl (by kernel_rfl) ?_)
    have hres5 := setRow_heap _ _ _ (#[.int .i64 0, .int .i64 0, .int .i64 0, .int .i64 0, .slice none 0 0] : Array Value) _ _ hres
    have hb5 := below_setRow h0 (Nat.le_refl _) (#[.int .i64 0, .int .i64 0, .int .i64 0, .int .i64 0, .slice none 0 0] : Array Value)
    generalize ((w.alloc (.cells #[.int .i64 0, .int .i64 0, .int .i64 0, .int .i64 0, .slice none 0 0] 48)).setRow w.heap.size #[.int .i64 0, .int .i64 0, .int .i64 0, .int .i64 0, .slice none 0 0]) = v5 at *
    have e0 := blk_cell (i := 0) (v := .int .i64 0) hres5 rfl
    have e1 := blk_cell (i := 1) (v := .int .i64 0) hres5 rfl
    have e2 := blk_cell (i := 2) (v := .int .i64 0) hres5 rfl
    have e3 := blk_cell (i := 3) (v := .int .i64 0) hres5 rfl
    have e4 := blk_cell (i := 4) (v := .slice none 0 0) hres5 rfl
    go_wp2
    exact bodyPost_ret (v := .tuple #[.agg #[.int .i64 0, .int .i64 0, .int .i64 0, .int .i64 0, .slice none 0 0], .int .i64 0, .int .i64 2]) (by simp [results, go_sem, e0, e1, e2, e3, e4]) rfl (tl_out (E := 2) (N := 0) HE.out.1 (by decide) HE.out.2 hb5)
  have hn0' : ¬ (n : Int) = 0 := by omega
  have hnn0 : ((n : Int) == 0) = false := by simp; exact hn0
  have hn1 : (0 : Int) < (n : Int) := by omega
  obtain ⟨x0, b', hbx⟩ : ∃ x0 b', b = x0 :: b' := by
    cases b with
    | nil => exact absurd hlb.symm hn0
    | cons x l => exact ⟨x, l, rfl⟩
  obtain ⟨ad, x0', rfl, hx0, k0⟩ := h.byte (show 0 < n by omega)
  obtain rfl : x0 = x0' := by rw [hbx] at hx0; injection hx0
  have had : ad.block < w.heap.size := by obtain ⟨_, e, hb, _⟩ := h.at_ (by omega); injection e with e; rw [e]; exact hb
  have hsp := World.cell?_spot k0
  obtain ⟨g, off, sp⟩ := ad
  simp only [Addr.add] at hsp
  obtain rfl : sp = none := by
    cases sp with
    | none => rfl
    | some s => simp at hsp
  replace had : g < w.heap.size := had
  rw [Addr.add_mid, Nat.add_zero] at k0
  have k0w := (h0.cell (p := ⟨g, off, none⟩) had).trans k0
  by_cases hx : x0 = 254
  case neg =>
    have HE : Hid (tkE b = 3 ∧ tkN b = 0) := Lib.hid (tkE_of1 (by
      unfold tkE1
      rw [if_neg (by omega), hbx]
      show (if ¬ x0 = 254 then 3 else _) = 3
      rw [if_pos hx]) (by omega))
    have hq : ((x0.toNat : Int) != 254) = true := by
      have : ¬ x0.toNat = 254 := fun e => hx (UInt8.toNat_inj.1 e)
      simp; omega
    have hq2 : ¬ (x0.toNat : Int) = 254 := by intro e; rw [e] at hq; exact absurd hq (by decide)
    clear h hlb hx0 k0 hbx hx
    go_enter Try.func38, Try.ntmps38
    go_wp2_with (first | (with_reducible refine stop_loadT 48 ?_) | (with_reducible refine stop_storeT 48 ?_))
    refine go_ (wpList_store_row rfl _ _ _ rfl w.heap.size #[.int .i64 0, .int .i64 0, .int .i64 0, .int .i64 0, .slice none 0 0] rfl rfl _ _ hres (by kernel_rfl) rfl (by kernel_rfl) ?_)
    have hres5 := setRow_heap _ _ _ (#[.int .i64 0, .int .i64 0, .int .i64 0, .int .i64 0, .slice none 0 0] : Array Value) _ _ hres
    have hb5 := below_setRow h0 (Nat.le_refl _) (#[.int .i64 0, .int .i64 0, .int .i64 0, .int .i64 0, .slice none 0 0] : Array Value)
    generalize ((w.alloc (.cells #[.int .i64 0, .int .i64 0, .int .i64 0, .int .i64 0, .slice none 0 0] 48)).setRow w.heap.size #[.int .i64 0, .int .i64 0, .int .i64 0, .int .i64 0, .slice none 0 0]) = v5 at *
    have e0 := blk_cell (i := 0) (v := .int .i64 0) hres5 rfl
    have e1 := blk_cell (i := 1) (v := .int .i64 0) hres5 rfl
    have e2 := blk_cell (i := 2) (v := .int .i64 0) hres5 rfl
    have e3 := blk_cell (i := 3) (v := .int .i64 0) hres5 rfl
    have e4 := blk_cell (i := 4) (v := .slice none 0 0) hres5 rfl
    go_wp2
    exact bodyPost_ret (v := .tuple #[.agg #[.int .i64 0, .int .i64 0, .int .i64 0, .int .i64 0, .slice none 0 0], .int .i64 0, .int .i64 3]) (by simp [results, go_sem, e0, e1, e2, e3, e4]) rfl (tl_out (E := 3) (N := 0) HE.out.1 (by decide) HE.out.2 hb5)
  subst hx
  have e254 : ((254 : UInt8).toNat : Int) = 254 := rfl
  rw [e254] at k0w k0
  by_cases h6 : n < 6
  · have HE : Hid (tkE b = 2 ∧ tkN b = 0) := Lib.hid (tkE_of1 (by
      unfold tkE1
      rw [if_neg (by omega), hbx]
      show (if ¬ (254 : UInt8) = 254 then 3 else _) = 2
      rw [if_neg (fun h => h rfl), ← hbx, if_pos (by omega)]) (by omega))
    have h6' : (n : Int) < 6 := by omega
    clear h hlb hx0 k0 hbx
    go_enter Try.func38, Try.ntmps38
    go_wp2_with (first | (with_reducible refine stop_loadT 48 ?_) | (with_reducible refine stop_storeT 48 ?_))
    refine go_ (wpList_store_row rfl _ _ _ rfl w.heap.size #[.int .i64 0, .int .i64 0, .int .i64 0, .int .i64 0, .slice none 0 0] rfl rfl _ _ hres (by kernel_rfl) rfl (by kernel_rfl) ?_)
    have hres5 := setRow_heap _ _ _ (#[.int .i64 0, .int .i64 0, .int .i64 0, .int .i64 0, .slice none 0 0] : Array Value) _ _ hres
    have hb5 := below_setRow h0 (Nat.le_refl _) (#[.int .i64 0, .int .i64 0, .int .i64 0, .int .i64 0, .slice none 0 0] : Array Value)
    generalize ((w.alloc (.cells #[.int .i64 0, .int .i64 0, .int .i64 0, .int .i64 0, .slice none 0 0] 48)).setRow w.heap.size #[.int .i64 0, .int .i64 0, .int .i64 0, .int .i64 0, .slice none 0 0]) = v5 at *
    have e0 := blk_cell (i := 0) (v := .int .i64 0) hres5 rfl
    have e1 := blk_cell (i := 1) (v := .int .i64 0) hres5 rfl
    have e2 := blk_cell (i := 2) (v := .int .i64 0) hres5 rfl
    have e3 := blk_cell (i := 3) (v := .int .i64 0) hres5 rfl
    have e4 := blk_cell (i := 4) (v := .slice none 0 0) hres5 rfl
    go_wp2
    exact bodyPost_ret (v := .tuple #[.agg #[.int .i64 0, .int .i64 0, .int .i64 0, .int .i64 0, .slice none 0 0], .int .i64 0, .int .i64 2]) (by simp [results, go_sem, e0, e1, e2, e3, e4]) rfl (tl_out (E := 2) (N := 0) HE.out.1 (by decide) HE.out.2 hb5)
  have h6' : ¬ (n : Int) < 6 := by omega
  obtain ⟨x0, x1, x2, x3, x4, x5, r, hbs⟩ := six_of (b := b) (by omega)
  obtain rfl : x0 = 254 := by rw [hbx] at hbs; injection hbs with e _; exact e.symm
  have hrl : r.length + 6 = n := by rw [← hlb, hbs]; simp
  obtain ⟨y1, hy1⟩ : ∃ y, y = x1.toNat := ⟨_, rfl⟩
  obtain ⟨y5, hy5⟩ : ∃ y, y = x5.toNat := ⟨_, rfl⟩
  have hy1l : y1 ≤ 255 := by have := x1.toNat_lt; omega
  have hy5l : y5 ≤ 255 := by have := x5.toNat_lt; omega
  have kk : ∀ (j : Nat) (x : UInt8), b[j]? = some x → ∀ wq, Below w.heap.size w wq → wq.cell? ⟨g, off + j, none⟩ = some (.int .u8 (x.toNat : Int)) := fun j x hj wq hbq => by
    have hjn : j < n := by rw [← hlb]; exact (List.getElem?_eq_some_iff.1 hj).1
    obtain ⟨ad', x', e, hx', hc⟩ := h.byte hjn
    injection e with e
    rw [hj] at hx'
    injection hx' with hx'
    rw [← e, Addr.add_mid] at hc
    rw [hx']
    exact (hbq.cell (p := ⟨g, off + j, none⟩) had).trans hc
  have k1 : ∀ wq, Below w.heap.size w wq → wq.cell? ⟨g, off + 1, none⟩ = some (.int .u8 (y1 : Int)) := fun wq hq => by rw [hy1]; exact kk 1 x1 (by rw [hbs]; rfl) wq hq
  have k5 : ∀ wq, Below w.heap.size w wq → wq.cell? ⟨g, off + 5, none⟩ = some (.int .u8 (y5 : Int)) := fun wq hq => by rw [hy5]; exact kk 5 x5 (by rw [hbs]; rfl) wq hq
  have k2 := kk 2 x2 (by rw [hbs]; rfl)
  have k3 := kk 3 x3 (by rw [hbs]; rfl)
  have k4 := kk 4 x4 (by rw [hbs]; rfl)
  have hE1 : tkE1 b = tkF 254 x1 x5 r [x1, x2, x3, x4, x5] := by rw [hbs, tkE1_six]
  have hid : tkId b = (y5 : Int) := by rw [hbs, hy5]; rfl
  have hN0 : tkN0 b = szS (y5 : Int) := by rw [← hid]; rfl
  have hP : tkP b = if tkE b = 0 then ⟨(x2.toNat : Int), (x3.toNat : Int), (x4.toNat : Int), (y5 : Int), sTV (frm (y5 : Int)) (tkBody b)⟩ else zPk := by rw [← hid]; unfold tkP; rw [hbs]; rfl
  have hsz := fun w => tsize_any (y5 : Int) w
  have hgeN := @szS_ge (y5 : Int)
  have hszb : szS (y5 : Int) ≤ 208 := by have := wd_200 (y5 : Int); unfold szS; split <;> omega
  have hF : tkF 254 x1 x5 r [x1, x2, x3, x4, x5] = if szS (y5 : Int) = 0 then 6 else if ¬ y1 + 8 = szS (y5 : Int) then 3 else if n < szS (y5 : Int) then 2 else if ¬ (b.drop (szS (y5 : Int) - 2)).take 2 = sm2 (frm (y5 : Int)) ((b.drop 1).take (szS (y5 : Int) - 3)) then 4 else 0 := by
    rw [← hE1]
    unfold tkE1
    have g0 : b.getD 0 0 = 254 := by rw [hbs]; rfl
    have n0 : ¬ ¬ b.getD 0 0 = 254 := fun h => h g0
    have e1 : (b.getD 1 0).toNat = y1 := by rw [hbs, hy1]; rfl
    rw [if_neg (show ¬ b.length = 0 by omega), if_neg n0, hlb, if_neg h6, hN0, hid, e1]
  obtain ⟨N, hN⟩ : ∃ N, N = szS (y5 : Int) := ⟨_, rfl⟩
  rw [← hN] at hN0 hsz hgeN hszb hF
  rw [hF] at hE1
  have hw5 : wrap64 (y5 : Int) = (y5 : Int) := by unfold wrap64; omega
  have hw1 : wrap64 (y1 : Int) = (y1 : Int) := by unfold wrap64; omega
  have Hw5 := Lib.hid hw5
  have Hw1 := Lib.hid hw1
  have HE1 := Lib.hid hE1
  have HN0 := Lib.hid hN0
  have HP := Lib.hid hP
  have Hsz := Lib.hid hsz
  have Hid5 := Lib.hid hid
  have K2 := Lib.hid k2
  have K3 := Lib.hid k3
  have K4 := Lib.hid k4
  have K1 := Lib.hid k1
  have k5w := k5 _ h0
  have hn5 : (5 : Int) < (n : Int) := by omega
  have hn1' : (1 : Int) < (n : Int) := by omega
  have hn5n : 5 < n := by omega
  have hn1n : 1 < n := by omega
  clear hw5 hw1 hE1 hN0 hP hsz hid k2 k3 k4 k1 k5 kk hF hbx hx0 k0 hN hy1 hy5 e254 hbs hrl hlb
  by_cases hN00 : N = 0
  · subst hN00
    have HE : Hid (tkE b = 6 ∧ tkN b = 0) := Lib.hid (tkE_of1 (by rw [HE1.out, if_pos rfl]) (by omega))
    clear h
    go_enter Try.func38, Try.ntmps38
    have hw5 := Hw5.out
    go_wp2_with fail
    go_fit (Hsz.out _)
    rintro e w2 ⟨rfl, hbx⟩
    have hb2 := bnx h0 hbx
    replace hres := blk_old hres hbx (blk_lt hres)
    clear hbx h0 k0w k5w hw5
    go_wp2_with (first | (with_reducible refine stop_loadT 48 ?_) | (with_reducible refine stop_storeT 48 ?_))
    refine go_ (wpList_store_row rfl _ _ _ rfl w.heap.size #[.int .i64 0, .int .i64 0, .int .i64 0, .int .i64 0, .slice none 0 0] rfl rfl _ _ hres (by kernel_rfl) rfl (by kernel_rfl) ?_)
    have hres5 := setRow_heap _ _ _ (#[.int .i64 0, .int .i64 0, .int .i64 0, .int .i64 0, .slice none 0 0] : Array Value) _ _ hres
    have hb5 := below_setRow hb2 (Nat.le_refl _) (#[.int .i64 0, .int .i64 0, .int .i64 0, .int .i64 0, .slice none 0 0] : Array Value)
    generalize (w2.setRow w.heap.size #[.int .i64 0, .int .i64 0, .int .i64 0, .int .i64 0, .slice none 0 0]) = v5 at *
    have e0 := blk_cell (i := 0) (v := .int .i64 0) hres5 rfl
    have e1 := blk_cell (i := 1) (v := .int .i64 0) hres5 rfl
    have e2 := blk_cell (i := 2) (v := .int .i64 0) hres5 rfl
    have e3 := blk_cell (i := 3) (v := .int .i64 0) hres5 rfl
    have e4 := blk_cell (i := 4) (v := .slice none 0 0) hres5 rfl
    go_wp2
    exact bodyPost_ret (v := .tuple #[.agg #[.int .i64 0, .int .i64 0, .int .i64 0, .int .i64 0, .slice none 0 0], .int .i64 0, .int .i64 6]) (by simp [results, go_sem, e0, e1, e2, e3, e4]) rfl (tl_out (E := 6) (N := 0) HE.out.1 (by decide) HE.out.2 hb5)
  have hN8 := hgeN hN00
  have hN0' : ¬ (N : Int) = 0 := by omega
  have hN0q : ((N : Int) == 0) = false := by simp; exact hN00
  obtain ⟨a6, ha6⟩ : ∃ a : Nat, a = 6 + y1 := ⟨_, rfl⟩
  obtain ⟨a8, ha8⟩ : ∃ a : Nat, a = a6 + 2 := ⟨_, rfl⟩
  have hwa : IntKind.i64.wrap (6 + (y1 : Int)) = (a6 : Int) := by rw [IntWalk.i64_in _ (by omega)]; omega
  have hwb : IntKind.i64.wrap ((a6 : Int) + 2) = (a8 : Int) := by rw [IntWalk.i64_in _ (by omega)]; omega
  have Hwa := Lib.hid hwa
  have Hwb := Lib.hid hwb
  clear hwa hwb
  by_cases hfm : a8 = N
  case neg =>
    have HE : Hid (tkE b = 3 ∧ tkN b = 0) := Lib.hid (tkE_of1 (by rw [HE1.out, if_neg hN00, if_pos (by omega)]) (by omega))
    have hq : ((a8 : Int) != (N : Int)) = true := by simp; omega
    have hq2 : ¬ (a8 : Int) = (N : Int) := by omega
    clear h ha6 ha8
    go_enter Try.func38, Try.ntmps38
    have hw5 := Hw5.out
    go_wp2_with fail
    go_fit (Hsz.out _)
    rintro e w2 ⟨rfl, hbx⟩
    have hb2 := bnx h0 hbx
    replace hres := blk_old hres hbx (blk_lt hres)
    have k1w := K1.out w2 hb2
    have hw1 := Hw1.out
    have hwa := Hwa.out
    have hwb := Hwb.out
    clear hbx h0 k0w k5w hw5
    go_wp2_with (first | (with_reducible refine stop_loadT 48 ?_) | (with_reducible refine stop_storeT 48 ?_))
    refine go_ (wpList_store_row rfl _ _ _ rfl w.heap.size #[.int .i64 0, .int .i64 0, .int .i64 0, .int .i64 0, .slice none 0 0] rfl rfl _ _ hres (by kernel_rfl) rfl (by kernel_rfl) ?_)
    have hres5 := setRow_heap _ _ _ (#[.int .i64 0, .int .i64 0, .int .i64 0, .int .i64 0, .slice none 0 0] : Array Value) _ _ hres
    have hb5 := below_setRow hb2 (Nat.le_refl _) (#[.int .i64 0, .int .i64 0, .int .i64 0, .int .i64 0, .slice none 0 0] : Array Value)
    generalize (w2.setRow w.heap.size #[.int .i64 0, .int .i64 0, .int .i64 0, .int .i64 0, .slice none 0 0]) = v5 at *
    have e0 := blk_cell (i := 0) (v := .int .i64 0) hres5 rfl
    have e1 := blk_cell (i := 1) (v := .int .i64 0) hres5 rfl
    have e2 := blk_cell (i := 2) (v := .int .i64 0) hres5 rfl
    have e3 := blk_cell (i := 3) (v := .int .i64 0) hres5 rfl
    have e4 := blk_cell (i := 4) (v := .slice none 0 0) hres5 rfl
    go_wp2
    exact bodyPost_ret (v := .tuple #[.agg #[.int .i64 0, .int .i64 0, .int .i64 0, .int .i64 0, .slice none 0 0], .int .i64 0, .int .i64 3]) (by simp [results, go_sem, e0, e1, e2, e3, e4]) rfl (tl_out (E := 3) (N := 0) HE.out.1 (by decide) HE.out.2 hb5)
  have hq8 : ((a8 : Int) != (N : Int)) = false := by simp; omega
  have hq8' : (a8 : Int) = (N : Int) := by omega
  have Hq8 := Lib.hid hq8'
  clear hq8'
  by_cases hsh : n < N
  · have HE : Hid (tkE b = 2 ∧ tkN b = 0) := Lib.hid (tkE_of1 (by rw [HE1.out, if_neg hN00, if_neg (by omega), if_pos hsh]) (by omega))
    have hsh' : (n : Int) < (N : Int) := by omega
    clear h ha6 ha8
    go_enter Try.func38, Try.ntmps38
    have hw5 := Hw5.out
    go_wp2_with fail
    go_fit (Hsz.out _)
    rintro e w2 ⟨rfl, hbx⟩
    have hb2 := bnx h0 hbx
    replace hres := blk_old hres hbx (blk_lt hres)
    have k1w := K1.out w2 hb2
    have hw1 := Hw1.out
    have hwa := Hwa.out
    have hwb := Hwb.out
    clear hbx h0 k0w k5w hw5
    go_wp2_with (first | (with_reducible refine stop_loadT 48 ?_) | (with_reducible refine stop_storeT 48 ?_))
    refine go_ (wpList_store_row rfl _ _ _ rfl w.heap.size #[.int .i64 0, .int .i64 0, .int .i64 0, .int .i64 0, .slice none 0 0] rfl rfl _ _ hres (by kernel_rfl) rfl (by kernel_rfl) ?_)
    have hres5 := setRow_heap _ _ _ (#[.int .i64 0, .int .i64 0, .int .i64 0, .int .i64 0, .slice none 0 0] : Array Value) _ _ hres
    have hb5 := below_setRow hb2 (Nat.le_refl _) (#[.int .i64 0, .int .i64 0, .int .i64 0, .int .i64 0, .slice none 0 0] : Array Value)
    generalize (w2.setRow w.heap.size #[.int .i64 0, .int .i64 0, .int .i64 0, .int .i64 0, .slice none 0 0]) = v5 at *
    have e0 := blk_cell (i := 0) (v := .int .i64 0) hres5 rfl
    have e1 := blk_cell (i := 1) (v := .int .i64 0) hres5 rfl
    have e2 := blk_cell (i := 2) (v := .int .i64 0) hres5 rfl
    have e3 := blk_cell (i := 3) (v := .int .i64 0) hres5 rfl
    have e4 := blk_cell (i := 4) (v := .slice none 0 0) hres5 rfl
    go_wp2
    exact bodyPost_ret (v := .tuple #[.agg #[.int .i64 0, .int .i64 0, .int .i64 0, .int .i64 0, .slice none 0 0], .int .i64 0, .int .i64 2]) (by simp [results, go_sem, e0, e1, e2, e3, e4]) rfl (tl_out (E := 2) (N := 0) HE.out.1 (by decide) HE.out.2 hb5)
  have hsh' : ¬ (n : Int) < (N : Int) := by omega
  have HE2 : Hid (tkE1 b = if ¬ (b.drop (N - 2)).take 2 = sm2 (frm (y5 : Int)) ((b.drop 1).take (N - 3)) then 4 else 0) := Lib.hid (by rw [HE1.out, if_neg hN00, if_neg (by omega), if_neg hsh])
  obtain ⟨m6, hm6⟩ : ∃ m : Nat, m = N - 6 := ⟨_, rfl⟩
  obtain ⟨m8, hm8⟩ : ∃ m : Nat, m = N - 8 := ⟨_, rfl⟩
  obtain ⟨m2, hm2⟩ : ∃ m : Nat, m = N - 2 := ⟨_, rfl⟩
  have hwm6 : IntKind.i64.wrap ((N : Int) - 6) = (m6 : Int) := by rw [IntWalk.i64_in _ (by omega)]; omega
  have hwm8 : IntKind.i64.wrap ((m6 : Int) - 2) = (m8 : Int) := by rw [IntWalk.i64_in _ (by omega)]; omega
  have hwm2 : IntKind.i64.wrap ((N : Int) - 2) = (m2 : Int) := by rw [IntWalk.i64_in _ (by omega)]; omega
  have Hwm6 := Lib.hid hwm6
  have Hwm8 := Lib.hid hwm8
  have Hwm2 := Lib.hid hwm2
  obtain ⟨i0, hi⟩ := info_parts u8_info
  have hcutS : ∀ w, (Instr.slice 36 (.slice (some ⟨g, off, none⟩) n c) (some (.int .i64 1)) (some (.int .i64 (m2 : Int))) none).run Try.prog w = .ok (.slice (cutA (some ⟨g, off, none⟩) c 1 1) (N - 3) (c - 1)) w := fun w => by
    have := run_cut_lh (P := Try.prog) Try.underlying36 hi.1 hi.2.2.1 (some ⟨g, off, none⟩) n c 1 m2 (by omega) (by omega) w
    rwa [show m2 - 1 = N - 3 by omega] at this
  have HcutS := Lib.hid hcutS
  have HrS : Hid (Rd w w.heap.size 1 (cutA (some ⟨g, off, none⟩) c 1 1) (N - 3) (c - 1) (bv ((b.drop 1).take (N - 3)))) := Lib.hid (by
    have := (h.btake (k := m2) (by omega)).bdrop (k := 1) (by omega)
    rwa [show m2 - 1 = N - 3 by omega, List.drop_take, show m2 - 1 = N - 3 by omega] at this)
  have HrB : Hid (Rd w w.heap.size 1 (cutA (some ⟨g, off, none⟩) c 6 1) m8 m8 (bv (tkBody b))) := Lib.hid (by
    have := ((h.bdrop (k := 6) (by omega)).btake (k := m8) (by omega)).cap
    unfold tkBody
    rwa [HN0.out, ← hm8])
  have HrT : Hid (Rd w w.heap.size 1 (cutA (cutA (some ⟨g, off, none⟩) c 6 1) (c - 6) m8 1) 2 2 (bv ((b.drop (N - 2)).take 2))) := Lib.hid (by
    have := (((h.bdrop (k := 6) (by omega)).bdrop (k := m8) (by omega)).btake (k := 2) (by omega)).cap
    rwa [List.drop_drop, show 6 + m8 = N - 2 by omega] at this)
  have hm8n : m8 + 2 ≤ n - 6 := by omega
  clear h ha6 ha8 hm6 hm8 hm2 hwm6 hwm8 hwm2 hi hcutS hfm hgeN
  go_enter Try.func38, Try.ntmps38
  have hw5 := Hw5.out
  go_wp2_with fail
  go_fit (Hsz.out _)
  rintro e w2 ⟨rfl, hbx⟩
  have hb2 := bnx h0 hbx
  replace hres := blk_old hres hbx (blk_lt hres)
  have k1w := K1.out w2 hb2
  have hw1 := Hw1.out
  have hwa := Hwa.out
  have hwb := Hwb.out
  have hwm6 := Hwm6.out
  have hwm8 := Hwm8.out
  have hge := heap_alloc_new w2 (.cells #[.slice (some ⟨g, off, none⟩) n c] 89)
  have hbe : Below w2.heap.size w2 (w2.alloc (.cells #[.slice (some ⟨g, off, none⟩) n c] 89)) := (Below.refl _ _).alloc (Nat.le_refl _) _
  have hb3 := bnx hb2 hbe
  have hrl := blk_lt hres
  have hres3 := blk_old hres hbe hrl
  have hmL : c ≤ maxLen := by unfold maxLen; omega
  clear hbx h0 k0w k5w hw5 hbe hb2
  go_wp2_with fail
  obtain ⟨ge, hgg⟩ : ∃ g, g = w2.heap.size := ⟨_, rfl⟩
  rw [← hgg] at hge hrl ⊢
  generalize (w2.alloc (.cells #[.slice (some ⟨g, off, none⟩) n c] 89)) = w3 at *
  clear hgg hres k1w hw1 hwa hwb
  go_fit (cut_any ge (some ⟨g, off, none⟩) n c 6 w3 hge (by omega) hle hmL)
  rintro e w4 ⟨rfl, hg4, hgr⟩
  have hb4 := Below.grown hb3 hgr hb3.size (fun j hj => by injection hj with hj; omega)
  have hres4 := (hgr.block _ (blk_lt hres3) (by intro e; injection e with e; omega)).trans hres3
  clear hge hgr hb3 hres3
  go_wp2_with fail
  go_fit (cut_any ge _ (n - 6) (c - 6) m8 w4 hg4 (by omega) (by omega) (by omega))
  rintro e w5 ⟨rfl, hg5, hgr⟩
  have hb5 := Below.grown hb4 hgr hb4.size (fun j hj => by injection hj with hj; omega)
  have hres5 := (hgr.block _ (blk_lt hres4) (by intro e; injection e with e; omega)).trans hres4
  clear hg4 hgr hb4 hres4 hwm6 hwm8
  go_wp2_with fail
  go_fit (cut_any ge _ (n - 6 - m8) (c - 6 - m8) 2 w5 hg5 (by omega) (by omega) (by omega))
  rintro e w6 ⟨rfl, hg6, hgr⟩
  have hb6 := Below.grown hb5 hgr hb5.size (fun j hj => by injection hj with hj; omega)
  have hres6 := (hgr.block _ (blk_lt hres5) (by intro e; injection e with e; omega)).trans hres5
  have hwm2 := Hwm2.out
  have hcutS := HcutS.out
  clear hg5 hgr hb5 hres5 hg6
  go_wp2_with fail
  go_fit (tsum_any (y5 : Int) _ (N - 3) _ w.heap.size _ w6 (HrS.out.up hb6) hb6.size)
  rintro e w7 ⟨A7, c7, n7, rfl, own7, hbx⟩
  have hb7 := bnx hb6 hbx
  have hr7 := Rd.own own7
  have hn7 : n7 = 2 := by have := own_len own7; have e2 : (sm2 (frm (y5 : Int)) ((b.drop 1).take (N - 3))).length = 2 := rfl; omega
  subst hn7
  have hres7 := blk_old hres6 hbx (blk_lt hres6)
  clear hbx hb6 own7 hres6 hwm2 hcutS
  go_wp2_with fail
  go_fit (equal8_any _ 2 2 w.heap.size _ A7 2 c7 w7.heap.size _ w7 (HrT.out.up hb7) hb7.size hr7 (Nat.le_refl _))
  rintro e w8 ⟨rfl, hbx⟩
  have hb8 := bnx hb7 hbx
  have hres := blk_old hres7 hbx (blk_lt hres7)
  clear hbx hb7 hr7 hres7
  by_cases hsm : (b.drop (N - 2)).take 2 = sm2 (frm (y5 : Int)) ((b.drop 1).take (N - 3))
  case neg =>
    have HE : Hid (tkE b = 4 ∧ tkN b = 0) := Lib.hid (tkE_of1 (by rw [HE2.out, if_pos hsm]) (by omega))
    rw [decide_eq_false hsm]
    clear hsm
    go_wp2_with (first | (with_reducible refine stop_loadT 48 ?_) | (with_reducible refine stop_storeT 48 ?_))
    refine go_ (wpList_store_row rfl _ _ _ rfl w.heap.size #[.int .i64 0, .int .i64 0, .int .i64 0, .int .i64 0, .slice none 0 0] rfl rfl _ _ hres (by kernel_rfl) rfl (by kernel_rfl) ?_)
    have hres5 := setRow_heap _ _ _ (#[.int .i64 0, .int .i64 0, .int .i64 0, .int .i64 0, .slice none 0 0] : Array Value) _ _ hres
    have hb5 := below_setRow hb8 (Nat.le_refl _) (#[.int .i64 0, .int .i64 0, .int .i64 0, .int .i64 0, .slice none 0 0] : Array Value)
    generalize (w8.setRow w.heap.size #[.int .i64 0, .int .i64 0, .int .i64 0, .int .i64 0, .slice none 0 0]) = v5 at *
    have e0 := blk_cell (i := 0) (v := .int .i64 0) hres5 rfl
    have e1 := blk_cell (i := 1) (v := .int .i64 0) hres5 rfl
    have e2 := blk_cell (i := 2) (v := .int .i64 0) hres5 rfl
    have e3 := blk_cell (i := 3) (v := .int .i64 0) hres5 rfl
    have e4 := blk_cell (i := 4) (v := .slice none 0 0) hres5 rfl
    go_wp2
    exact bodyPost_ret (v := .tuple #[.agg #[.int .i64 0, .int .i64 0, .int .i64 0, .int .i64 0, .slice none 0 0], .int .i64 0, .int .i64 4]) (by simp [results, go_sem, e0, e1, e2, e3, e4]) rfl (tl_out (E := 4) (N := 0) HE.out.1 (by decide) HE.out.2 hb5)
  rw [decide_eq_true hsm]
  have hE10 : tkE1 b = 0 := by rw [HE2.out, if_neg (fun h => h hsm)]
  have hTE : tkE b = sTE (frm (y5 : Int)) (tkBody b) := by unfold tkE; rw [if_pos hE10, Hid5.out]
  have hTN : tkN b = N := by unfold tkN; rw [if_pos hE10, HN0.out]
  have HTE := Lib.hid hTE
  have HTN := Lib.hid hTN
  clear hsm hE10 hTE hTN
  go_wp2_with fail
  go_fit (take31_any (y5 : Int) _ m8 m8 _ w8 ((HrB.out.up hb8).more hb8.size) (by omega))
  rintro e w9 ⟨A9, n9, c9, rfl, own9, hbx⟩
  have hb9 := bnx hb8 hbx
  have hres8 := hres
  replace hres := blk_old hres hbx (blk_lt hres)
  have hr9 := Rd.own own9
  rw [← HTE.out]
  by_cases hz : tkE b = 0
  case neg =>
    obtain ⟨err, herr⟩ : ∃ err, err = tkE b := ⟨_, rfl⟩
    rw [← herr] at hz ⊢
    have HE : Hid (tkE b = err ∧ tkN b = N) := Lib.hid ⟨herr.symm, HTN.out⟩
    have hz' : ¬ (err : Int) = 0 := by omega
    have hzq : ((err : Int) != 0) = true := by simp; exact hz
    clear hbx own9 hr9 hb8 herr hres8
    go_wp2_with (first | (with_reducible refine stop_loadT 48 ?_) | (with_reducible refine stop_storeT 48 ?_))
    refine go_ (wpList_store_row rfl _ _ _ rfl w.heap.size #[.int .i64 0, .int .i64 0, .int .i64 0, .int .i64 0, .slice none 0 0] rfl rfl _ _ hres (by kernel_rfl) rfl (by kernel_rfl) ?_)
    have hres5 := setRow_heap _ _ _ (#[.int .i64 0, .int .i64 0, .int .i64 0, .int .i64 0, .slice none 0 0] : Array Value) _ _ hres
    have hb5 := below_setRow hb9 (Nat.le_refl _) (#[.int .i64 0, .int .i64 0, .int .i64 0, .int .i64 0, .slice none 0 0] : Array Value)
    generalize (w9.setRow w.heap.size #[.int .i64 0, .int .i64 0, .int .i64 0, .int .i64 0, .slice none 0 0]) = v5 at *
    have e0 := blk_cell (i := 0) (v := .int .i64 0) hres5 rfl
    have e1 := blk_cell (i := 1) (v := .int .i64 0) hres5 rfl
    have e2 := blk_cell (i := 2) (v := .int .i64 0) hres5 rfl
    have e3 := blk_cell (i := 3) (v := .int .i64 0) hres5 rfl
    have e4 := blk_cell (i := 4) (v := .slice none 0 0) hres5 rfl
    go_wp2
    exact bodyPost_ret (v := .tuple #[.agg #[.int .i64 0, .int .i64 0, .int .i64 0, .int .i64 0, .slice none 0 0], .int .i64 (N : Int), .int .i64 (err : Int)]) (by simp [results, go_sem, e0, e1, e2, e3, e4]) rfl (tl_out (E := err) (N := N) HE.out.1 hz HE.out.2 hb5)
  have HP2 : Hid (tkP b = ⟨(x2.toNat : Int), (x3.toNat : Int), (x4.toNat : Int), (y5 : Int), sTV (frm (y5 : Int)) (tkBody b)⟩) := Lib.hid (by rw [HP.out, if_pos hz])
  have Hz := Lib.hid hz
  rw [hz]
  have k2w := K2.out w9 hb9
  have k3w := K3.out w9 hb9
  have k4w := K4.out w9 hb9
  have hx2 := x2.toNat_lt
  have hx3 := x3.toNat_lt
  have hx4 := x4.toNat_lt
  have hw2 : IntKind.i64.wrap (x2.toNat : Int) = (x2.toNat : Int) := IntWalk.i64_in _ (by omega)
  have hw3 : IntKind.i64.wrap (x3.toNat : Int) = (x3.toNat : Int) := IntWalk.i64_in _ (by omega)
  have hw4 : IntKind.i64.wrap (x4.toNat : Int) = (x4.toNat : Int) := IntWalk.i64_in _ (by omega)
  have hs89 : w.heap.size < w8.heap.size := blk_lt hres8
  clear hbx hr9 hb8 hz hres8
  go_wp2_with fail
  refine Ord.region_ (fun w' => w'.cell? ⟨g, off + 2, none⟩ = some (.int .u8 (x2.toNat : Int)) ∧ w'.cell? ⟨g, off + 3, none⟩ = some (.int .u8 (x3.toNat : Int)) ∧ w'.cell? ⟨g, off + 4, none⟩ = some (.int .u8 (x4.toNat : Int))) false [] (by kernel_rfl) (by kernel_rfl) ⟨k2w, k3w, k4w⟩ ?_
  replace k2w : w9.drew.cell? _ = _ := k2w
  replace k3w : w9.drew.cell? _ = _ := k3w
  replace k4w : w9.drew.cell? _ = _ := k4w
  replace hb9 := hb9.drew
  replace hres : w9.drew.heap[w.heap.size]? = _ := hres
  replace own9 : w9.drew.ownsRow w8.heap.size 2 1 _ _ _ := own9
  generalize w9.drew = wd at *
  ((with_reducible refine Ord.e_p (v := ?_) ?_ ?_ ?_ ?_); rotate_left; (· exact rfl); (· kernel_rfl); (· intro w2; go_simp; try with_reducible rfl))
  (try simp only [Act.put, List.setIfInBounds_toArray, List.set_cons_zero, List.set_cons_succ])
  ((with_reducible refine Ord.e_p (v := ?_) ?_ ?_ ?_ ?_); rotate_left; (· exact rfl); (· kernel_rfl); (· intro w2; go_simp; try with_reducible rfl))
  (try simp only [Act.put, List.setIfInBounds_toArray, List.set_cons_zero, List.set_cons_succ])
  refine Ord.e_loadS (ad := ⟨g, off + 2, none⟩) Try.underlying5 rfl (fun w' hS => hS.1) ⟨k2w, k3w, k4w⟩ rfl (by kernel_rfl) ?_
  (try simp only [Act.put, List.setIfInBounds_toArray, List.set_cons_zero, List.set_cons_succ])
  refine Ord.e_p (v := .int .i64 (x2.toNat : Int)) rfl (by kernel_rfl) (fun w2 => by go_simp) ?_
  (try simp only [Act.put, List.setIfInBounds_toArray, List.set_cons_zero, List.set_cons_succ])
  ((with_reducible refine Ord.e_p (v := ?_) ?_ ?_ ?_ ?_); rotate_left; (· exact rfl); (· kernel_rfl); (· intro w2; go_simp; try with_reducible rfl))
  (try simp only [Act.put, List.setIfInBounds_toArray, List.set_cons_zero, List.set_cons_succ])
  ((with_reducible refine Ord.e_p (v := ?_) ?_ ?_ ?_ ?_); rotate_left; (· exact rfl); (· kernel_rfl); (· intro w2; go_simp; try with_reducible rfl))
  (try simp only [Act.put, List.setIfInBounds_toArray, List.set_cons_zero, List.set_cons_succ])
  refine Ord.e_loadS (ad := ⟨g, off + 3, none⟩) Try.underlying5 rfl (fun w' hS => hS.2.1) ⟨k2w, k3w, k4w⟩ rfl (by kernel_rfl) ?_
  (try simp only [Act.put, List.setIfInBounds_toArray, List.set_cons_zero, List.set_cons_succ])
  refine Ord.e_p (v := .int .i64 (x3.toNat : Int)) rfl (by kernel_rfl) (fun w2 => by go_simp) ?_
  (try simp only [Act.put, List.setIfInBounds_toArray, List.set_cons_zero, List.set_cons_succ])
  ((with_reducible refine Ord.e_p (v := ?_) ?_ ?_ ?_ ?_); rotate_left; (· exact rfl); (· kernel_rfl); (· intro w2; go_simp; try with_reducible rfl))
  (try simp only [Act.put, List.setIfInBounds_toArray, List.set_cons_zero, List.set_cons_succ])
  ((with_reducible refine Ord.e_p (v := ?_) ?_ ?_ ?_ ?_); rotate_left; (· exact rfl); (· kernel_rfl); (· intro w2; go_simp; try with_reducible rfl))
  (try simp only [Act.put, List.setIfInBounds_toArray, List.set_cons_zero, List.set_cons_succ])
  refine Ord.e_loadS (ad := ⟨g, off + 4, none⟩) Try.underlying5 rfl (fun w' hS => hS.2.2) ⟨k2w, k3w, k4w⟩ rfl (by kernel_rfl) ?_
  (try simp only [Act.put, List.setIfInBounds_toArray, List.set_cons_zero, List.set_cons_succ])
  refine Ord.e_p (v := .int .i64 (x4.toNat : Int)) rfl (by kernel_rfl) (fun w2 => by go_simp) ?_
  (try simp only [Act.put, List.setIfInBounds_toArray, List.set_cons_zero, List.set_cons_succ])
  ((with_reducible refine Ord.e_p (v := ?_) ?_ ?_ ?_ ?_); rotate_left; (· exact rfl); (· kernel_rfl); (· intro w2; go_simp; try with_reducible rfl))
  (try simp only [Act.put, List.setIfInBounds_toArray, List.set_cons_zero, List.set_cons_succ])
  ((with_reducible refine Ord.e_p (v := ?_) ?_ ?_ ?_ ?_); rotate_left; (· exact rfl); (· kernel_rfl); (· intro w2; go_simp; try with_reducible rfl))
  (try simp only [Act.put, List.setIfInBounds_toArray, List.set_cons_zero, List.set_cons_succ])
  ((with_reducible refine Ord.e_p (v := ?_) ?_ ?_ ?_ ?_); rotate_left; (· exact rfl); (· kernel_rfl); (· intro w2; go_simp; try with_reducible rfl))
  (try simp only [Act.put, List.setIfInBounds_toArray, List.set_cons_zero, List.set_cons_succ])
  ((with_reducible refine Ord.e_p (v := ?_) ?_ ?_ ?_ ?_); rotate_left; (· exact rfl); (· kernel_rfl); (· intro w2; go_simp; try with_reducible rfl))
  (try simp only [Act.put, List.setIfInBounds_toArray, List.set_cons_zero, List.set_cons_succ])
  ((with_reducible refine Ord.e_p (v := ?_) ?_ ?_ ?_ ?_); rotate_left; (· exact rfl); (· kernel_rfl); (· intro w2; go_simp; try with_reducible rfl))
  (try simp only [Act.put, List.setIfInBounds_toArray, List.set_cons_zero, List.set_cons_succ])
  refine Ord.e_x rfl (by kernel_rfl) ?_
  go_wp2_with (first | (with_reducible refine stop_loadT 48 ?_) | (with_reducible refine stop_storeT 48 ?_))
  refine go_ (wpList_store_row rfl _ _ _ rfl w.heap.size #[.int .i64 (x2.toNat : Int), .int .i64 (x3.toNat : Int), .int .i64 (x4.toNat : Int), .int .i64 (y5 : Int), .slice A9 n9 c9] rfl rfl _ _ hres (by kernel_rfl) rfl (by kernel_rfl) ?_)
  have hres5 := setRow_heap _ _ _ (#[.int .i64 (x2.toNat : Int), .int .i64 (x3.toNat : Int), .int .i64 (x4.toNat : Int), .int .i64 (y5 : Int), .slice A9 n9 c9] : Array Value) _ _ hres
  have hb5 := below_setRow hb9 (Nat.le_refl _) (#[.int .i64 (x2.toNat : Int), .int .i64 (x3.toNat : Int), .int .i64 (x4.toNat : Int), .int .i64 (y5 : Int), .slice A9 n9 c9] : Array Value)
  have q2 := (cell_setRow_other wd w.heap.size #[.int .i64 (x2.toNat : Int), .int .i64 (x3.toNat : Int), .int .i64 (x4.toNat : Int), .int .i64 (y5 : Int), .slice A9 n9 c9] ⟨g, off + 2, none⟩ (Nat.ne_of_lt had)).trans k2w
  have q3 := (cell_setRow_other wd w.heap.size #[.int .i64 (x2.toNat : Int), .int .i64 (x3.toNat : Int), .int .i64 (x4.toNat : Int), .int .i64 (y5 : Int), .slice A9 n9 c9] ⟨g, off + 3, none⟩ (Nat.ne_of_lt had)).trans k3w
  have q4 := (cell_setRow_other wd w.heap.size #[.int .i64 (x2.toNat : Int), .int .i64 (x3.toNat : Int), .int .i64 (x4.toNat : Int), .int .i64 (y5 : Int), .slice A9 n9 c9] ⟨g, off + 4, none⟩ (Nat.ne_of_lt had)).trans k4w
  have own5 := own_setRow own9 hs89 (#[.int .i64 (x2.toNat : Int), .int .i64 (x3.toNat : Int), .int .i64 (x4.toNat : Int), .int .i64 (y5 : Int), .slice A9 n9 c9] : Array Value)
  generalize (wd.setRow w.heap.size #[.int .i64 (x2.toNat : Int), .int .i64 (x3.toNat : Int), .int .i64 (x4.toNat : Int), .int .i64 (y5 : Int), .slice A9 n9 c9]) = v5 at *
  have e0 := blk_cell (i := 0) (v := .int .i64 (x2.toNat : Int)) hres5 rfl
  have e1 := blk_cell (i := 1) (v := .int .i64 (x3.toNat : Int)) hres5 rfl
  have e2 := blk_cell (i := 2) (v := .int .i64 (x4.toNat : Int)) hres5 rfl
  have e3 := blk_cell (i := 3) (v := .int .i64 (y5 : Int)) hres5 rfl
  have e4 := blk_cell (i := 4) (v := .slice A9 n9 c9) hres5 rfl
  clear k2w k3w k4w hb9 hres own9 hw2 hw3 hw4 hres5
  go_wp2_with fail
  refine Ord.Seg.go ⟨q2, q3, q4⟩ (fun h => by cases h) ?_
  (try simp only [Act.put, List.setIfInBounds_toArray, List.set_cons_zero, List.set_cons_succ])
  ((with_reducible refine Ord.e_p (v := ?_) ?_ ?_ ?_ ?_); rotate_left; (· exact rfl); (· kernel_rfl); (· intro w2; go_simp; try with_reducible rfl))
  (try simp only [Act.put, List.setIfInBounds_toArray, List.set_cons_zero, List.set_cons_succ])
  ((with_reducible refine Ord.e_p (v := ?_) ?_ ?_ ?_ ?_); rotate_left; (· exact rfl); (· kernel_rfl); (· intro w2; go_simp; try with_reducible rfl))
  (try simp only [Act.put, List.setIfInBounds_toArray, List.set_cons_zero, List.set_cons_succ])
  refine Ord.e_nil ?_
  go_wp2
  refine bodyPost_ret (v := .tuple #[.agg #[.int .i64 (x2.toNat : Int), .int .i64 (x3.toNat : Int), .int .i64 (x4.toNat : Int), .int .i64 (y5 : Int), .slice A9 n9 c9], .int .i64 (N : Int), .int .i64 0]) (by simp [results, go_sem, e0, e1, e2, e3, e4]) rfl ⟨A9, n9, c9, by rw [HP2.out, HTN.out, Hz.out]; rfl, by rw [HP2.out]; exact Rd.own own5, hb5⟩

end Go.Proofs.Ytonejdjhdjckjaa
