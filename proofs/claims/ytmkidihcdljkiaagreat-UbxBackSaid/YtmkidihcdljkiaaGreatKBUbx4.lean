/-
  The five parts' take, walked (printed by gen_ubx4.py).
-/
import Derived.Test.YtmkidihcdljkiaaGreatKBGUA
import Derived.Test.YtmkidihcdljkiaaGreatKBPvt11
import Derived.Test.YtmkidihcdljkiaaGreatKBGSU
import Derived.Test.YtmkidihcdljkiaaGreatKBDop2
import Derived.Test.YtmkidihcdljkiaaGreatKBAck2
import Derived.Test.YtmkidihcdljkiaaGreatKBVal6
set_option linter.unusedSimpArgs false
set_option linter.unusedVariables false
namespace Go.Proofs.YtmkidihcdljkiaaGreat
open Go.RowKit NumLaw
attribute [local go_sem] Addr.add_mid

/-- The cells vs at place o make of one message another one. -/
def SegAt (V : UbV) (a : UbA) (V' : UbV) (a' : UbA) (o : Nat) (vs : List Value) : Prop :=
  ∃ pre olds post, ubL V a = pre ++ (olds ++ post) ∧ ubL V' a' = pre ++ (vs ++ post) ∧ pre.length = o ∧ olds.length = vs.length
theorem aw_setCellsU (g : Nat) : ∀ (vs : List Value) (k : Nat) (w : World), Aw (fun j => j = g) w (w.setCells g k vs)
  | [], _, w => Aw.refl _ w
  | v :: vs, k, w => (Aw.set (U := fun j => j = g) (Aw.refl _ w) (p := ⟨g, k, none⟩) v rfl).trans (aw_setCellsU g vs (k + 1) _)
section
variable {V : UbV} {a : UbA}
theorem ubL_setp {p' : List Int} (hp : V.p.length = 32) (hp' : p'.length = 32) : SegAt V a { V with p := p' } a 1 (i64s p') :=
  ⟨[.int .i64 V.k], i64s V.p, _, rfl, rfl, rfl, by simp [i64s, hp, hp']⟩
theorem ubL_sets {t : Int} {A : Option Addr} {n c : Nat} (hp : V.p.length = 32) : SegAt V a { V with t := t } { a with A := A, n := n, c := c } 33 (saS t A n c) :=
  ⟨.int .i64 V.k :: i64s V.p, saS V.t a.A a.n a.c, i64s V.d ++ (acS V.y V.a1 V.a2 ++ saS V.la a.A' a.n' a.c'), by simp [ubL], by simp [ubL], by simp [i64s, hp], rfl⟩
theorem ubL_setd {d' : List Int} (hp : V.p.length = 32) (hd : V.d.length = 8) (hd' : d'.length = 8) : SegAt V a { V with d := d' } a 35 (i64s d') :=
  ⟨.int .i64 V.k :: (i64s V.p ++ saS V.t a.A a.n a.c), i64s V.d, acS V.y V.a1 V.a2 ++ saS V.la a.A' a.n' a.c', by simp [ubL], by simp [ubL], by simp [i64s, saS, hp], by simp [i64s, hd, hd']⟩
theorem ubL_seta {y : Bool} {a1 a2 : Int} (hp : V.p.length = 32) (hd : V.d.length = 8) : SegAt V a { V with y := y, a1 := a1, a2 := a2 } a 43 (acS y a1 a2) :=
  ⟨.int .i64 V.k :: (i64s V.p ++ (saS V.t a.A a.n a.c ++ i64s V.d)), acS V.y V.a1 V.a2, saS V.la a.A' a.n' a.c', by simp [ubL], by simp [ubL], by simp [i64s, saS, hp, hd], rfl⟩
theorem ubL_setq {t : Int} {A : Option Addr} {n c : Nat} (hp : V.p.length = 32) (hd : V.d.length = 8) : SegAt V a { V with la := t } { a with A' := A, n' := n, c' := c } 46 (saS t A n c) :=
  ⟨.int .i64 V.k :: (i64s V.p ++ (saS V.t a.A a.n a.c ++ (i64s V.d ++ acS V.y V.a1 V.a2))), saS V.la a.A' a.n' a.c', [], by simp [ubL], by simp [ubL], by simp [i64s, saS, acS, hp, hd], rfl⟩
theorem UbB.there {w : World} {g : Nat} (h : UbB w g V a) (hp : V.p.length = 32) (hd : V.d.length = 8) {o n : Nat} (hn : o + n ≤ 48) : w.there g o n := by
  intro j hj
  have hl := ubL_len (a := a) hp hd
  refine ⟨?_, blk_free h⟩
  have : ∃ v, (ubL V a)[o + j]? = some v := ⟨_, List.getElem?_eq_getElem (by omega)⟩
  obtain ⟨v, hv⟩ := this
  rw [blk_cell (i := o + j) (v := v) h (by rw [List.getElem?_toArray]; exact hv)]
  rfl
/-- A part is laid into a message's block. -/
theorem UbB.set {w : World} {g o : Nat} {vs : List Value} {V' : UbV} {a' : UbA} (h : UbB w g V a) (e : SegAt V a V' a' o vs) : UbB (w.setCells g o vs) g V' a' ∧ Aw (fun k => k = g) w (w.setCells g o vs) := by
  obtain ⟨pre, olds, post, h1, h2, rfl, h4⟩ := e
  refine ⟨?_, aw_setCellsU g vs _ w⟩
  unfold UbB at h ⊢
  rw [h1] at h
  rw [h2]
  exact setCells_blk vs pre olds post w h h4
end

theorem rdr_aw {w w' : World} {B size n c g : Nat} {A : Option Addr} {ls : List (List Value)} (h : RdR w B size A n c ls) (hB : B ≤ w.heap.size) (haw : Aw (fun k => k = g) w w') (hf : ∀ p, A = some p → p.block ≠ g) : RdR w' w'.heap.size size A n c ls :=
  ⟨h.1, h.2.1, h.2.2.1, h.2.2.2.1, fun hn => by
    obtain ⟨b, off, e, hg, hr⟩ := h.2.2.2.2 hn
    have hgb : b ≠ g := hf _ e
    have hbw : b < w.heap.size := Nat.lt_of_lt_of_le hg hB
    refine ⟨b, off, e, Nat.lt_of_lt_of_le hbw haw.size, fun k r hk j v hv => ?_⟩
    have h1 := hr k r hk j v hv
    have h2 := haw.block b hbw hgb
    unfold World.cell? at h1 ⊢
    rw [h2]
    exact h1⟩
theorem ubr_aw {w w' : World} {V : UbV} {a : UbA} {g : Nat} (h : UbR w w.heap.size V a) (haw : Aw (fun k => k = g) w w') (hf : ∀ p, a.A = some p ∨ a.A' = some p → p.block ≠ g) : UbR w' w'.heap.size V a :=
  ⟨rdr_aw h.s (Nat.le_refl _) haw (fun p hp => hf p (.inl hp)), rdr_aw h.q (Nat.le_refl _) haw (fun p hp => hf p (.inr hp))⟩
/-- The part that came, in the message's block. -/
def RetTk (w : World) (g : Nat) (V : UbV) (err : Nat) (e : Ending) (w' : World) : Prop :=
  ∃ a, e = .returned (.int .i64 (err : Int)) ∧ UbB w' g V a ∧ UbR w' w'.heap.size V a ∧ (∀ p, a.A = some p ∨ a.A' = some p → g < p.block) ∧ Below g w w'
theorem dopTake_l (A : Option Addr) (n c B : Nat) (b : List UInt8) (w : World) (h' : Rd w B 1 A n c (bv b)) (hB : B ≤ w.heap.size) (hn : n ≤ 1000000000) :
    Calls Tryz.prog 156 #[.slice A n c] w fun e w' => e = .returned (.tuple #[.agg (i64s (takeD dopF b)).toArray, .int .i64 (shTE dopF b : Int)]) ∧ Below w.heap.size w w' :=
  (dopTake_any A n c B b w h' hB hn).mono fun e w' ⟨x0, x1, x2, x3, x4, x5, x6, x7, hx, he, hb⟩ => ⟨by rw [he, ← hx]; rfl, hb⟩
theorem ackTake_l (A : Option Addr) (n c B : Nat) (b : List UInt8) (y : Bool) (w : World) (h' : Rd w B 1 A n c (bv b)) (hB : B ≤ w.heap.size) (hn : n ≤ 1000000000) :
    Calls Tryz.prog 163 #[.slice A n c, .bool y] w fun e w' => e = .returned (.tuple #[.agg (acS (if shTE ackF b = 0 then y else false) ((takeD ackF b).getD 0 0) ((takeD ackF b).getD 1 0)).toArray, .int .i64 (shTE ackF b : Int)]) ∧ Below w.heap.size w w' :=
  (ackTake_any A n c B b y w h' hB hn).mono fun e w' ⟨x0, x1, hx, he, hb⟩ => ⟨by rw [he, ← hx]; rfl, hb⟩
theorem saS_one (t : Int) (A : Option Addr) (n c : Nat) : ∀ v ∈ saS t A n c, v.oneCell' = true := by
  intro v hv
  simp only [saS, List.mem_cons, List.not_mem_nil, or_false] at hv
  rcases hv with rfl | rfl <;> rfl
theorem acS_one (y : Bool) (a b : Int) : ∀ v ∈ acS y a b, v.oneCell' = true := by
  intro v hv
  simp only [acS, List.mem_cons, List.not_mem_nil, or_false] at hv
  rcases hv with rfl | rfl | rfl <;> rfl

set_option maxRecDepth 10000 in
set_option maxHeartbeats 2000000 in
theorem ubtake1 (A : Option Addr) (n c B : Nat) (b : List UInt8) (i : Int) (g : Nat) (w : World) (h : Rd w B 1 A n c (bv b)) (hB : B ≤ w.heap.size) (hn : n ≤ 1000000000) (hx : UbB w g { ub0 with k := 1 } ua0) :
    Calls Tryz.prog 112 #[.agg #[], .pointer (some ⟨g, 0, none⟩), .slice A n c, .int .i64 i] w (RetTk w g { ub0 with k := 1, p := ptake b } (shTE pvtF b)) := by
  have hb := (Below.refl w.heap.size w).alloc (Nat.le_refl _) (.cells #[] 88)
  have hx1 := hx.old hb (blk_lt hx)
  have hgl := blk_lt hx
  go_enter Tryz.func112, Tryz.ntmps112
  go_wp2_with fail
  generalize (w.alloc (.cells #[] 88)) = w1 at *
  go_fit (pvtTake_any A n c B b w1 (h.up (hb.mono hB)) (by have := hb.size; omega) hn)
  rintro e w2 ⟨rfl, hb2⟩
  have hx2 := hx1.old hb2 (blk_lt hx1)
  have hb12 := bnx hb hb2
  go_wp2_with (first | (with_reducible refine stop_loadT 23 ?_) | (with_reducible refine stop_storeT 23 ?_) | (with_reducible refine stop_loadG 23 ?_))
  refine go_ (wpList_store_mid rfl _ _ _ rfl g 1 (i64s (ptake b)).toArray rfl rfl (hx2.there rfl rfl (by rw [List.size_toArray]; rw [i64s_len, ptake_len]; omega)) (by rw [List.size_toArray, i64s_len, ptake_len]; kernel_rfl) (all_oneCell_toArray (i64v_one _)) ?_)
  obtain ⟨hx3, haw⟩ := hx2.set (ubL_setp rfl (ptake_len b))
  have hb3 := below_aw20 (hb12.mono (Nat.le_of_lt hgl)) haw (fun k hk => by rw [hk]; exact Nat.le_refl _) (Nat.le_of_lt (blk_lt hx2))
  simp only [List.toList_toArray] 
  generalize w2.setCells g 1 (i64s (ptake b)) = w3 at *
  clear hx hx1 hx2 haw h hB hb hb2 hb12
  go_wp2
  go_ret
  exact ⟨ua0, rfl, hx3, UbR.nil _ _ _ rfl rfl, (fun p hp => by rcases hp with hp | hp <;> cases hp), hb3⟩

set_option maxRecDepth 10000 in
set_option maxHeartbeats 2000000 in
theorem ubtake2 (A : Option Addr) (n c B : Nat) (b : List UInt8) (i : Int) (g : Nat) (w : World) (h : Rd w B 1 A n c (bv b)) (hB : B ≤ w.heap.size) (hn : n ≤ 1000000000) (hx : UbB w g { ub0 with k := 2 } ua0) :
    Calls Tryz.prog 141 #[.agg #[], .pointer (some ⟨g, 0, none⟩), .slice A n c, .int .i64 i] w (RetTk w g { ub0 with k := 2, t := satsTt b, l := satsTl b } (satsTE b)) := by
  have hb := (Below.refl w.heap.size w).alloc (Nat.le_refl _) (.cells #[] 89)
  have hx1 := hx.old hb (blk_lt hx)
  have hgl := blk_lt hx
  go_enter Tryz.func141, Tryz.ntmps141
  go_wp2_with fail
  generalize (w.alloc (.cells #[] 89)) = w1 at *
  go_fit (satsTake_anyF A n c B b w1 (h.up (hb.mono hB)) (by have := hb.size; omega) hn)
  rintro e w2 ⟨A2, n2, c2, rfl, hr2, hf2, hb2⟩
  have hx2 := hx1.old hb2 (blk_lt hx1)
  have hb12 := bnx hb hb2
  go_wp2_with (first | (with_reducible refine stop_loadT 26 ?_) | (with_reducible refine stop_storeT 26 ?_) | (with_reducible refine stop_loadG 26 ?_))
  refine go_ (wpList_store_mid rfl _ _ _ rfl g 33 (saS (satsTt b) A2 n2 c2).toArray rfl rfl (hx2.there rfl rfl (by rw [List.size_toArray]; show 33 + 2 ≤ 48; omega)) (by kernel_rfl) (all_oneCell_toArray (saS_one _ _ _ _)) ?_)
  obtain ⟨hx3, haw⟩ := hx2.set (ubL_sets (V := { ub0 with k := 2 }) rfl)
  have hb3 := below_aw20 (hb12.mono (Nat.le_of_lt hgl)) haw (fun k hk => by rw [hk]; exact Nat.le_refl _) (Nat.le_of_lt (blk_lt hx2))
  have hr3 := rdr_aw hr2 (Nat.le_refl _) haw (fun p hp => by have := hf2 p hp; have := blk_lt hx1; omega)
  have hfg : ∀ p, A2 = some p → g < p.block := fun p hp => Nat.lt_of_lt_of_le (blk_lt hx1) (hf2 p hp)
  simp only [List.toList_toArray] 
  generalize w2.setCells g 33 (saS (satsTt b) A2 n2 c2) = w3 at *
  clear hx hx1 hx2 haw h hB hb hb2 hb12
  go_wp2
  go_ret
  exact ⟨{ ua0 with A := A2, n := n2, c := c2 }, rfl, hx3, ⟨hr3, RdR.none_ _ _ 2⟩, (fun p hp => by rcases hp with hp | hp; exact hfg p hp; cases hp), hb3⟩

set_option maxRecDepth 10000 in
set_option maxHeartbeats 2000000 in
theorem ubtake3 (A : Option Addr) (n c B : Nat) (b : List UInt8) (i : Int) (g : Nat) (w : World) (h : Rd w B 1 A n c (bv b)) (hB : B ≤ w.heap.size) (hn : n ≤ 1000000000) (hx : UbB w g { ub0 with k := 3 } ua0) :
    Calls Tryz.prog 154 #[.agg #[], .pointer (some ⟨g, 0, none⟩), .slice A n c, .int .i64 i] w (RetTk w g { ub0 with k := 3, d := takeD dopF b } (shTE dopF b)) := by
  have hb := (Below.refl w.heap.size w).alloc (Nat.le_refl _) (.cells #[] 90)
  have hx1 := hx.old hb (blk_lt hx)
  have hgl := blk_lt hx
  go_enter Tryz.func154, Tryz.ntmps154
  go_wp2_with fail
  generalize (w.alloc (.cells #[] 90)) = w1 at *
  go_fit (dopTake_l A n c B b w1 (h.up (hb.mono hB)) (by have := hb.size; omega) hn)
  rintro e w2 ⟨rfl, hb2⟩
  have hx2 := hx1.old hb2 (blk_lt hx1)
  have hb12 := bnx hb hb2
  go_wp2_with (first | (with_reducible refine stop_loadT 28 ?_) | (with_reducible refine stop_storeT 28 ?_) | (with_reducible refine stop_loadG 28 ?_))
  refine go_ (wpList_store_mid rfl _ _ _ rfl g 35 (i64s (takeD dopF b)).toArray rfl rfl (hx2.there rfl rfl (by rw [List.size_toArray]; rw [i64s_len, dopD_len]; omega)) (by rw [List.size_toArray, i64s_len, dopD_len]; kernel_rfl) (all_oneCell_toArray (i64v_one _)) ?_)
  obtain ⟨hx3, haw⟩ := hx2.set (ubL_setd rfl rfl (dopD_len b))
  have hb3 := below_aw20 (hb12.mono (Nat.le_of_lt hgl)) haw (fun k hk => by rw [hk]; exact Nat.le_refl _) (Nat.le_of_lt (blk_lt hx2))
  simp only [List.toList_toArray] 
  generalize w2.setCells g 35 (i64s (takeD dopF b)) = w3 at *
  clear hx hx1 hx2 haw h hB hb hb2 hb12
  go_wp2
  go_ret
  exact ⟨ua0, rfl, hx3, UbR.nil _ _ _ rfl rfl, (fun p hp => by rcases hp with hp | hp <;> cases hp), hb3⟩

set_option maxRecDepth 10000 in
set_option maxHeartbeats 2000000 in
theorem ubtake4 (A : Option Addr) (n c B : Nat) (b : List UInt8) (i : Int) (g : Nat) (w : World) (h : Rd w B 1 A n c (bv b)) (hB : B ≤ w.heap.size) (hn : n ≤ 1000000000) (hx : UbB w g { ub0 with k := 4 } ua0) :
    Calls Tryz.prog 161 #[.agg #[], .pointer (some ⟨g, 0, none⟩), .slice A n c, .int .i64 i] w (RetTk w g { ub0 with k := 4, y := (if shTE ackF b = 0 then decide (i = 1) else false), a1 := (takeD ackF b).getD 0 0, a2 := (takeD ackF b).getD 1 0 } (shTE ackF b)) := by
  obtain ⟨yv, hyv⟩ : ∃ yv, yv = (if shTE ackF b = 0 then decide (i = 1) else false) := ⟨_, rfl⟩
  obtain ⟨x0v, hx0v⟩ : ∃ x, x = (takeD ackF b).getD 0 0 := ⟨_, rfl⟩
  obtain ⟨x1v, hx1v⟩ : ∃ x, x = (takeD ackF b).getD 1 0 := ⟨_, rfl⟩
  rw [← hyv, ← hx0v, ← hx1v]
  have Htk := Lib.hid (fun w1 h1 hB1 => ackTake_l A n c B b (decide (i = 1)) w1 h1 hB1 hn)
  rw [← hyv, ← hx0v, ← hx1v] at Htk
  clear hyv hx0v hx1v
  have hb := (Below.refl w.heap.size w).alloc (Nat.le_refl _) (.cells #[] 91)
  have hx1 := hx.old hb (blk_lt hx)
  have hgl := blk_lt hx
  go_enter Tryz.func161, Tryz.ntmps161
  go_wp2_with fail
  generalize (w.alloc (.cells #[] 91)) = w1 at *
  go_fit (Htk.out w1 (h.up (hb.mono hB)) (by have := hb.size; omega))
  rintro e w2 ⟨rfl, hb2⟩
  have hx2 := hx1.old hb2 (blk_lt hx1)
  have hb12 := bnx hb hb2
  go_wp2_with (first | (with_reducible refine stop_loadT 30 ?_) | (with_reducible refine stop_storeT 30 ?_) | (with_reducible refine stop_loadG 30 ?_))
  refine go_ (wpList_store_mid rfl _ _ _ rfl g 43 (acS yv x0v x1v).toArray rfl rfl (hx2.there rfl rfl (by rw [List.size_toArray]; show 43 + 3 ≤ 48; omega)) (by kernel_rfl) (all_oneCell_toArray (acS_one _ _ _)) ?_)
  obtain ⟨hx3, haw⟩ := hx2.set (ubL_seta rfl rfl)
  have hb3 := below_aw20 (hb12.mono (Nat.le_of_lt hgl)) haw (fun k hk => by rw [hk]; exact Nat.le_refl _) (Nat.le_of_lt (blk_lt hx2))
  simp only [List.toList_toArray] 
  generalize w2.setCells g 43 (acS yv x0v x1v) = w3 at *
  clear hx hx1 hx2 haw h hB hb hb2 hb12
  go_wp2
  go_ret
  exact ⟨ua0, rfl, hx3, UbR.nil _ _ _ rfl rfl, (fun p hp => by rcases hp with hp | hp <;> cases hp), hb3⟩

set_option maxRecDepth 10000 in
set_option maxHeartbeats 2000000 in
theorem ubtake5 (A : Option Addr) (n c B : Nat) (b : List UInt8) (i : Int) (g : Nat) (w : World) (h : Rd w B 1 A n c (bv b)) (hB : B ≤ w.heap.size) (hn : n ≤ 1000000000) (hx : UbB w g { ub0 with k := 5 } ua0) :
    Calls Tryz.prog 168 #[.agg #[], .pointer (some ⟨g, 0, none⟩), .slice A n c, .int .i64 i] w (RetTk w g { ub0 with k := 5, la := valTt b, q := valTl b } (valTE b)) := by
  have hb := (Below.refl w.heap.size w).alloc (Nat.le_refl _) (.cells #[] 92)
  have hx1 := hx.old hb (blk_lt hx)
  have hgl := blk_lt hx
  go_enter Tryz.func168, Tryz.ntmps168
  go_wp2_with fail
  generalize (w.alloc (.cells #[] 92)) = w1 at *
  go_fit (valTake_anyF A n c B b w1 (h.up (hb.mono hB)) (by have := hb.size; omega) hn)
  rintro e w2 ⟨A2, n2, c2, rfl, hr2, hf2, hb2⟩
  have hx2 := hx1.old hb2 (blk_lt hx1)
  have hb12 := bnx hb hb2
  go_wp2_with (first | (with_reducible refine stop_loadT 33 ?_) | (with_reducible refine stop_storeT 33 ?_) | (with_reducible refine stop_loadG 33 ?_))
  refine go_ (wpList_store_mid rfl _ _ _ rfl g 46 (saS (valTt b) A2 n2 c2).toArray rfl rfl (hx2.there rfl rfl (by rw [List.size_toArray]; show 46 + 2 ≤ 48; omega)) (by kernel_rfl) (all_oneCell_toArray (saS_one _ _ _ _)) ?_)
  obtain ⟨hx3, haw⟩ := hx2.set (ubL_setq (V := { ub0 with k := 5 }) rfl rfl)
  have hb3 := below_aw20 (hb12.mono (Nat.le_of_lt hgl)) haw (fun k hk => by rw [hk]; exact Nat.le_refl _) (Nat.le_of_lt (blk_lt hx2))
  have hr3 := rdr_aw hr2 (Nat.le_refl _) haw (fun p hp => by have := hf2 p hp; have := blk_lt hx1; omega)
  have hfg : ∀ p, A2 = some p → g < p.block := fun p hp => Nat.lt_of_lt_of_le (blk_lt hx1) (hf2 p hp)
  simp only [List.toList_toArray] 
  generalize w2.setCells g 46 (saS (valTt b) A2 n2 c2) = w3 at *
  clear hx hx1 hx2 haw h hB hb hb2 hb12
  go_wp2
  go_ret
  exact ⟨{ ua0 with A' := A2, n' := n2, c' := c2 }, rfl, hx3, ⟨RdR.none_ _ _ 7, hr3⟩, (fun p hp => by rcases hp with hp | hp; cases hp; exact hfg p hp), hb3⟩

end Go.Proofs.YtmkidihcdljkiaaGreat
