/-
  slices.Clone of a message's rows; the five parts' copy, walked (printed by gen_ubx5.py).
-/
import Derived.Test.YtmkidihcdljkiaaGreatKPUbx2
import Derived.Test.YtmkidihcdljkiaaGreatKPUbx4
set_option linter.unusedSimpArgs false
set_option linter.unusedVariables false
namespace Go.Proofs.YtmkidihcdljkiaaGreat
open Go.RowKit NumLaw
attribute [local go_sem] Addr.add_mid

theorem flat_one {size : Nat} {l : List (List Value)} (h : ∀ r ∈ l, ∀ u ∈ r, u.oneCell' = true) : ∀ u ∈ l.flatten, u.oneCell' = true := by
  intro u hu
  obtain ⟨r, hr, hu⟩ := List.mem_flatten.1 hu
  exact h r hr u hu
theorem saC_oneL (l : List (List Int)) : ∀ u ∈ (l.map saC).flatten, u.oneCell' = true :=
  flat_one (size := 7) fun r hr u hu => by
    obtain ⟨s, _, rfl⟩ := List.mem_map.1 hr
    obtain ⟨z, _, rfl⟩ := List.mem_map.1 hu
    rfl
theorem prC_oneL (l : List (Int × Int)) : ∀ u ∈ (l.map prC).flatten, u.oneCell' = true :=
  flat_one (size := 2) fun r hr u hu => by
    obtain ⟨s, _, rfl⟩ := List.mem_map.1 hr
    exact prC_one s u hu

/-- A row in new memory. -/
def RetCS (w : World) (l : List (List Int)) (e : Ending) (w' : World) : Prop :=
  ∃ A n c, e = .returned (.slice A n c) ∧ w'.ownsRow w.heap.size 99 7 (.slice A n c) n (l.map saC).flatten ∧ l.length = n ∧ Below w.heap.size w w'
set_option maxRecDepth 10000 in
set_option maxHeartbeats 400000 in
theorem cloneCS_any (A : Option Addr) (n c B : Nat) (l : List (List Int)) (w : World) (h : RdR w B 7 A n c (l.map saC)) (hB : B ≤ w.heap.size) (hn : n ≤ 1000) :
    Calls Tryz.prog 142 #[.slice A n c] w (RetCS w l) := by
  obtain ⟨i0, hi⟩ := info_parts sat_info
  have hl : l.length = n := by have := h.1; rwa [List.length_map] at this
  have Hl := Lib.hid hl
  have hq := Lib.run_eql_slice_nil (P := Tryz.prog) w 24 99 A n c 0 0 Tryz.underlying24
  clear hl
  cases A with
  | none =>
    have hn0 : n = 0 := by
      rcases Nat.eq_zero_or_pos n with h0 | h0
      · exact h0
      · obtain ⟨_, _, h, _⟩ := h.2.2.2.2 h0; cases h
    obtain rfl : l = [] := List.eq_nil_of_length_eq_zero (by rw [Hl.out, hn0])
    simp only [Option.isNone_none] at hq
    clear hn0
    go_enter Tryz.func142, Tryz.ntmps142
    go_wp2
    go_ret
    exact ⟨none, 0, 0, rfl, World.ownsRow_nil _ _ _ _, rfl, Below.refl _ _⟩
  | some ad =>
    simp only [Option.isNone_some] at hq
    go_enter Tryz.func142, Tryz.ntmps142
    go_wp2_with (at_builtin; refine stop_ ?_)
    refine go_ (wpList_app (base := w.heap.size) (n := 0) (xs := []) Tryz.underlying24 hi rfl (by omega) (own_empty _ _ _ (Nat.le_refl _) 7) rfl (RdR.rd (h.up ((Below.refl _ _).alloc hB _)) (by omega)) rfl (saC_oneL l) (Nat.zero_add _) (List.nil_append _) (by unfold maxLen; omega) (by omega) (by simp) ?_)
    intro A' c' w' hown hup
    have hb : Below w.heap.size w w' := hup ((Below.refl _ _).alloc (Nat.le_refl _) _) (by simp) (Nat.le_refl _)
    clear hup hq
    go_wp2
    go_ret
    exact ⟨A', n, c', rfl, hown, Hl.out, hb⟩

/-- A row in new memory. -/
def RetCQ (w : World) (l : List (Int × Int)) (e : Ending) (w' : World) : Prop :=
  ∃ A n c, e = .returned (.slice A n c) ∧ w'.ownsRow w.heap.size 103 2 (.slice A n c) n (l.map prC).flatten ∧ l.length = n ∧ Below w.heap.size w w'
set_option maxRecDepth 10000 in
set_option maxHeartbeats 400000 in
theorem cloneCQ_any (A : Option Addr) (n c B : Nat) (l : List (Int × Int)) (w : World) (h : RdR w B 2 A n c (l.map prC)) (hB : B ≤ w.heap.size) (hn : n ≤ 1000) :
    Calls Tryz.prog 169 #[.slice A n c] w (RetCQ w l) := by
  obtain ⟨i0, hi⟩ := info_parts pair_info
  have hl : l.length = n := by have := h.1; rwa [List.length_map] at this
  have Hl := Lib.hid hl
  have hq := Lib.run_eql_slice_nil (P := Tryz.prog) w 31 103 A n c 0 0 Tryz.underlying31
  clear hl
  cases A with
  | none =>
    have hn0 : n = 0 := by
      rcases Nat.eq_zero_or_pos n with h0 | h0
      · exact h0
      · obtain ⟨_, _, h, _⟩ := h.2.2.2.2 h0; cases h
    obtain rfl : l = [] := List.eq_nil_of_length_eq_zero (by rw [Hl.out, hn0])
    simp only [Option.isNone_none] at hq
    clear hn0
    go_enter Tryz.func169, Tryz.ntmps169
    go_wp2
    go_ret
    exact ⟨none, 0, 0, rfl, World.ownsRow_nil _ _ _ _, rfl, Below.refl _ _⟩
  | some ad =>
    simp only [Option.isNone_some] at hq
    go_enter Tryz.func169, Tryz.ntmps169
    go_wp2_with (at_builtin; refine stop_ ?_)
    refine go_ (wpList_app (base := w.heap.size) (n := 0) (xs := []) Tryz.underlying31 hi rfl (by omega) (own_empty _ _ _ (Nat.le_refl _) 2) rfl (RdR.rd (h.up ((Below.refl _ _).alloc hB _)) (by omega)) rfl (prC_oneL l) (Nat.zero_add _) (List.nil_append _) (by unfold maxLen; omega) (by omega) (by simp) ?_)
    intro A' c' w' hown hup
    have hb : Below w.heap.size w w' := hup ((Below.refl _ _).alloc (Nat.le_refl _) _) (by simp) (Nat.le_refl _)
    clear hup hq
    go_wp2
    go_ret
    exact ⟨A', n, c', rfl, hown, Hl.out, hb⟩

/-- The part is copied into a message's block. -/
def RetCp (w : World) (g : Nat) (V : UbV) (e : Ending) (w' : World) : Prop :=
  ∃ a, e = .returned (.tuple #[]) ∧ UbB w' g V a ∧ UbR w' w'.heap.size V a ∧ (∀ p, a.A = some p ∨ a.A' = some p → g < p.block) ∧ Below g w w'

set_option maxRecDepth 10000 in
set_option maxHeartbeats 2000000 in
theorem ubcopy1 (V : UbV) (a : UbA) (h : UbOk V) (g : Nat) (w : World) (hr : UbR w w.heap.size V a) (ho : UbB w g { ub0 with k := 1 } ua0) (hk : V.k = 1) (hn : a.n ≤ 1000 ∧ a.n' ≤ 1000) :
    Calls Tryz.prog 109 #[.agg #[], .pointer (some ⟨g, 0, none⟩), .agg (ubL V a).toArray] w (RetCp w g (ubPlain V)) := by
  have hP : ubPlain V = { ub0 with k := 1, p := V.p } := by simp [ubPlain, hk]
  rw [hP]
  have hgl := blk_lt ho
  obtain ⟨x0, x1, hs, hb⟩ := al2 w (.cells #[] 88) (.cells (ubL V a).toArray 35)
  have hx : UbB ((w.alloc (.cells #[] 88)).alloc (.cells (ubL V a).toArray 35)) (w.heap.size + 1) V a := x1
  have ho1 := ho.old hb hgl
  clear x0 x1 hP ho hk
  go_enter Tryz.func109, Tryz.ntmps109
  go_wp2_with (first | (with_reducible refine stop_loadT 23 ?_) | (with_reducible refine stop_storeT 23 ?_) | (with_reducible refine stop_loadG 23 ?_))
  generalize ((w.alloc (.cells #[] 88)).alloc (.cells (ubL V a).toArray 35)) = w1 at *
  refine go_ (wpList_load_mid rfl _ _ rfl (w.heap.size + 1) 1 rfl (i64s V.p) _ (hx.pr h.pl) Tryz.underlying23 rfl (by rw [i64s_len, h.pl]; kernel_rfl) ?_)
  go_wp2_with (first | (with_reducible refine stop_loadT 23 ?_) | (with_reducible refine stop_storeT 23 ?_) | (with_reducible refine stop_loadG 23 ?_))
  refine go_ (wpList_store_mid rfl _ _ _ rfl g 1 (i64s V.p).toArray rfl rfl (ho1.there rfl rfl (by rw [List.size_toArray]; rw [i64s_len, h.pl]; omega)) (by rw [List.size_toArray, i64s_len, h.pl]; kernel_rfl) (all_oneCell_toArray (i64v_one _)) ?_)
  obtain ⟨ho2, haw⟩ := ho1.set (ubL_setp rfl h.pl)
  have hb3 := below_aw20 (hb.mono (Nat.le_of_lt hgl)) haw (fun k hk => by rw [hk]; exact Nat.le_refl _) (Nat.le_of_lt (blk_lt ho1))
  simp only [List.toList_toArray]
  generalize w1.setCells g 1 (i64s V.p) = w3 at *
  clear hx ho1 haw hb hr
  go_wp2
  go_end0
  exact ⟨ua0, rfl, ho2, UbR.nil _ _ _ rfl rfl, (fun p hp => by rcases hp with hp | hp <;> cases hp), hb3⟩

set_option maxRecDepth 10000 in
set_option maxHeartbeats 2000000 in
theorem ubcopy3 (V : UbV) (a : UbA) (h : UbOk V) (g : Nat) (w : World) (hr : UbR w w.heap.size V a) (ho : UbB w g { ub0 with k := 3 } ua0) (hk : V.k = 3) (hn : a.n ≤ 1000 ∧ a.n' ≤ 1000) :
    Calls Tryz.prog 151 #[.agg #[], .pointer (some ⟨g, 0, none⟩), .agg (ubL V a).toArray] w (RetCp w g (ubPlain V)) := by
  have hP : ubPlain V = { ub0 with k := 3, d := V.d } := by simp [ubPlain, hk]
  rw [hP]
  have hgl := blk_lt ho
  obtain ⟨x0, x1, hs, hb⟩ := al2 w (.cells #[] 90) (.cells (ubL V a).toArray 35)
  have hx : UbB ((w.alloc (.cells #[] 90)).alloc (.cells (ubL V a).toArray 35)) (w.heap.size + 1) V a := x1
  have ho1 := ho.old hb hgl
  clear x0 x1 hP ho hk
  go_enter Tryz.func151, Tryz.ntmps151
  go_wp2_with (first | (with_reducible refine stop_loadT 28 ?_) | (with_reducible refine stop_storeT 28 ?_) | (with_reducible refine stop_loadG 28 ?_))
  generalize ((w.alloc (.cells #[] 90)).alloc (.cells (ubL V a).toArray 35)) = w1 at *
  refine go_ (wpList_load_mid rfl _ _ rfl (w.heap.size + 1) 35 rfl (i64s V.d) _ (hx.dr h.pl) Tryz.underlying28 rfl (by rw [i64s_len, h.dl]; kernel_rfl) ?_)
  go_wp2_with (first | (with_reducible refine stop_loadT 28 ?_) | (with_reducible refine stop_storeT 28 ?_) | (with_reducible refine stop_loadG 28 ?_))
  refine go_ (wpList_store_mid rfl _ _ _ rfl g 35 (i64s V.d).toArray rfl rfl (ho1.there rfl rfl (by rw [List.size_toArray]; rw [i64s_len, h.dl]; omega)) (by rw [List.size_toArray, i64s_len, h.dl]; kernel_rfl) (all_oneCell_toArray (i64v_one _)) ?_)
  obtain ⟨ho2, haw⟩ := ho1.set (ubL_setd rfl rfl h.dl)
  have hb3 := below_aw20 (hb.mono (Nat.le_of_lt hgl)) haw (fun k hk => by rw [hk]; exact Nat.le_refl _) (Nat.le_of_lt (blk_lt ho1))
  simp only [List.toList_toArray]
  generalize w1.setCells g 35 (i64s V.d) = w3 at *
  clear hx ho1 haw hb hr
  go_wp2
  go_end0
  exact ⟨ua0, rfl, ho2, UbR.nil _ _ _ rfl rfl, (fun p hp => by rcases hp with hp | hp <;> cases hp), hb3⟩

set_option maxRecDepth 10000 in
set_option maxHeartbeats 2000000 in
theorem ubcopy4 (V : UbV) (a : UbA) (h : UbOk V) (g : Nat) (w : World) (hr : UbR w w.heap.size V a) (ho : UbB w g { ub0 with k := 4 } ua0) (hk : V.k = 4) (hn : a.n ≤ 1000 ∧ a.n' ≤ 1000) :
    Calls Tryz.prog 158 #[.agg #[], .pointer (some ⟨g, 0, none⟩), .agg (ubL V a).toArray] w (RetCp w g (ubPlain V)) := by
  have hP : ubPlain V = { ub0 with k := 4, y := V.y, a1 := V.a1, a2 := V.a2 } := by simp [ubPlain, hk]
  rw [hP]
  have hgl := blk_lt ho
  obtain ⟨x0, x1, hs, hb⟩ := al2 w (.cells #[] 91) (.cells (ubL V a).toArray 35)
  have hx : UbB ((w.alloc (.cells #[] 91)).alloc (.cells (ubL V a).toArray 35)) (w.heap.size + 1) V a := x1
  have ho1 := ho.old hb hgl
  clear x0 x1 hP ho hk
  go_enter Tryz.func158, Tryz.ntmps158
  go_wp2_with (first | (with_reducible refine stop_loadT 30 ?_) | (with_reducible refine stop_storeT 30 ?_) | (with_reducible refine stop_loadG 30 ?_))
  generalize ((w.alloc (.cells #[] 91)).alloc (.cells (ubL V a).toArray 35)) = w1 at *
  refine go_ (wpList_load_mid rfl _ _ rfl (w.heap.size + 1) 43 rfl (acS V.y V.a1 V.a2) _ (hx.ar h.pl h.dl) Tryz.underlying30 rfl (by kernel_rfl) ?_)
  go_wp2_with (first | (with_reducible refine stop_loadT 30 ?_) | (with_reducible refine stop_storeT 30 ?_) | (with_reducible refine stop_loadG 30 ?_))
  refine go_ (wpList_store_mid rfl _ _ _ rfl g 43 (acS V.y V.a1 V.a2).toArray rfl rfl (ho1.there rfl rfl (by rw [List.size_toArray]; show 43 + 3 ≤ 48; omega)) (by kernel_rfl) (all_oneCell_toArray (acS_one _ _ _)) ?_)
  obtain ⟨ho2, haw⟩ := ho1.set (ubL_seta rfl rfl)
  have hb3 := below_aw20 (hb.mono (Nat.le_of_lt hgl)) haw (fun k hk => by rw [hk]; exact Nat.le_refl _) (Nat.le_of_lt (blk_lt ho1))
  simp only [List.toList_toArray]
  generalize w1.setCells g 43 (acS V.y V.a1 V.a2) = w3 at *
  clear hx ho1 haw hb hr
  go_wp2
  go_end0
  exact ⟨ua0, rfl, ho2, UbR.nil _ _ _ rfl rfl, (fun p hp => by rcases hp with hp | hp <;> cases hp), hb3⟩

set_option maxRecDepth 10000 in
set_option maxHeartbeats 2000000 in
theorem ubcopy2 (V : UbV) (a : UbA) (h : UbOk V) (g : Nat) (w : World) (hr : UbR w w.heap.size V a) (ho : UbB w g { ub0 with k := 2 } ua0) (hk : V.k = 2) (hn : a.n ≤ 1000 ∧ a.n' ≤ 1000) :
    Calls Tryz.prog 138 #[.agg #[], .pointer (some ⟨g, 0, none⟩), .agg (ubL V a).toArray] w (RetCp w g (ubPlain V)) := by
  have hP : ubPlain V = { ub0 with k := 2, t := V.t, l := V.l } := by simp [ubPlain, hk]
  rw [hP]
  have hgl := blk_lt ho
  obtain ⟨x0, x1, hs, hb⟩ := al2 w (.cells #[] 89) (.cells (ubL V a).toArray 35)
  have hx : UbB ((w.alloc (.cells #[] 89)).alloc (.cells (ubL V a).toArray 35)) (w.heap.size + 1) V a := x1
  have ho1 := ho.old hb hgl
  clear x0 x1 hP ho hk
  go_enter Tryz.func138, Tryz.ntmps138
  go_wp2_with fail
  generalize ((w.alloc (.cells #[] 89)).alloc (.cells (ubL V a).toArray 35)) = w1 at *
  refine Ord.region_ (fun w' => UbB w' (w.heap.size + 1) V a) false [] (by kernel_rfl) (by kernel_rfl) (hx.old (Below.refl w1.heap.size w1).drew (blk_lt hx)) ?_
  have hd := (Below.refl w1.heap.size w1).drew
  replace hx := hx.old hd (blk_lt hx)
  replace ho1 := ho1.old hd (blk_lt ho1)
  replace hb := bnx hb hd
  have hr2 := hr.up hb
  generalize w1.drew = w2 at *
  clear hd
  repeat (first | (refine Ord.e_p (v := ?_) rfl (by rfl) ?_ ?_; rotate_left; · (intro w2; go_simp; try with_reducible rfl)) | (refine Ord.e_u (by rfl) ?_)); (try simp only [Act.put, List.setIfInBounds_toArray, List.set_cons_zero, List.set_cons_succ])
  refine Ord.e_loadS Tryz.underlying2 rfl (fun w' hS => (show UbB w' _ V a from hS).tc h.pl) hx rfl (by rfl) ?_
  (try simp only [Act.put, List.setIfInBounds_toArray, List.set_cons_zero, List.set_cons_succ])
  repeat (first | (refine Ord.e_p (v := ?_) rfl (by rfl) ?_ ?_; rotate_left; · (intro w2; go_simp; try with_reducible rfl)) | (refine Ord.e_u (by rfl) ?_)); (try simp only [Act.put, List.setIfInBounds_toArray, List.set_cons_zero, List.set_cons_succ])
  refine Ord.e_loadS Tryz.underlying24 rfl (fun w' hS => (show UbB w' _ V a from hS).lc h.pl) hx rfl (by rfl) ?_
  (try simp only [Act.put, List.setIfInBounds_toArray, List.set_cons_zero, List.set_cons_succ])
  repeat (first | (refine Ord.e_p (v := ?_) rfl (by rfl) ?_ ?_; rotate_left; · (intro w2; go_simp; try with_reducible rfl)) | (refine Ord.e_u (by rfl) ?_)); (try simp only [Act.put, List.setIfInBounds_toArray, List.set_cons_zero, List.set_cons_succ])
  refine Ord.e_x rfl (by rfl) ?_
  go_wp2_with fail
  go_fit (cloneCS_any a.A a.n a.c w.heap.size V.l w2 hr2.s hb.size hn.1)
  rintro e w3 ⟨A3, n3, c3, rfl, hown3, hl3, hb3⟩
  replace hx := hx.old hb3 (blk_lt hx)
  have hg2 := blk_lt ho1
  replace ho1 := ho1.old hb3 hg2
  replace hb := bnx hb hb3
  go_wp2_with fail
  refine Ord.Seg.go hx (fun h => by cases h) ?_
  (try simp only [Act.put, List.setIfInBounds_toArray, List.set_cons_zero, List.set_cons_succ])
  repeat (first | (refine Ord.e_p (v := ?_) rfl (by rfl) ?_ ?_; rotate_left; · (intro w2; go_simp; try with_reducible rfl)) | (refine Ord.e_u (by rfl) ?_)); (try simp only [Act.put, List.setIfInBounds_toArray, List.set_cons_zero, List.set_cons_succ])
  refine Ord.e_x rfl (by rfl) ?_
  go_wp2_with (first | (with_reducible refine stop_loadT 26 ?_) | (with_reducible refine stop_storeT 26 ?_) | (with_reducible refine stop_loadG 26 ?_))
  refine wpList_store_mid rfl _ _ _ rfl g 33 (saS V.t A3 n3 c3).toArray rfl rfl (ho1.there rfl rfl (by show 33 + 2 ≤ 48; omega)) (by kernel_rfl) (all_oneCell_toArray (saS_one _ _ _ _)) ?_
  obtain ⟨ho2, haw⟩ := ho1.set (ubL_sets (V := { ub0 with k := 2 }) rfl (t := V.t) (A := A3) (n := n3) (c := c3))
  have hb4 := below_aw20 (hb.mono (Nat.le_of_lt hgl)) haw (fun k hk => by rw [hk]; exact Nat.le_refl _) (Nat.le_of_lt (blk_lt ho1))
  have hr4 := rdr_aw (RdR.own (ls := V.l.map saC) hown3 (by rw [List.length_map]; exact hl3) (fun r hr => by obtain ⟨s, hs, rfl⟩ := List.mem_map.1 hr; exact (by unfold saC; rw [List.length_map]; exact h.ll s hs))) (Nat.le_refl _) haw (fun p hp => by subst hp; have := (own_blk hown3 rfl).1; omega)
  have hfg : ∀ p, A3 = some p → g < p.block := fun p hp => by subst hp; have := (own_blk hown3 rfl).1; omega
  have hx4 := haw.keep hx (by omega)
  simp only [List.toList_toArray]
  generalize w3.setCells g 33 (saS V.t A3 n3 c3) = w4 at *
  refine Ord.Seg.go hx4 (fun h => by cases h) ?_
  (try simp only [Act.put, List.setIfInBounds_toArray, List.set_cons_zero, List.set_cons_succ])
  repeat (first | (refine Ord.e_p (v := ?_) rfl (by rfl) ?_ ?_; rotate_left; · (intro w2; go_simp; try with_reducible rfl)) | (refine Ord.e_u (by rfl) ?_)); (try simp only [Act.put, List.setIfInBounds_toArray, List.set_cons_zero, List.set_cons_succ])
  refine Ord.e_nil ?_
  clear hx ho1 haw hb hr hr2 hown3 hb3
  go_wp2
  go_end0
  exact ⟨{ ua0 with A := A3, n := n3, c := c3 }, rfl, ho2, ⟨hr4, RdR.none_ _ _ 2⟩, (fun p hp => by rcases hp with hp | hp; exact hfg p hp; cases hp), hb4⟩

set_option maxRecDepth 10000 in
set_option maxHeartbeats 2000000 in
theorem ubcopy5 (V : UbV) (a : UbA) (h : UbOk V) (g : Nat) (w : World) (hr : UbR w w.heap.size V a) (ho : UbB w g { ub0 with k := 5 } ua0) (hk : V.k = 5) (hn : a.n ≤ 1000 ∧ a.n' ≤ 1000) :
    Calls Tryz.prog 165 #[.agg #[], .pointer (some ⟨g, 0, none⟩), .agg (ubL V a).toArray] w (RetCp w g (ubPlain V)) := by
  have hP : ubPlain V = { ub0 with k := 5, la := V.la, q := V.q } := by simp [ubPlain, hk]
  rw [hP]
  have hgl := blk_lt ho
  obtain ⟨x0, x1, hs, hb⟩ := al2 w (.cells #[] 92) (.cells (ubL V a).toArray 35)
  have hx : UbB ((w.alloc (.cells #[] 92)).alloc (.cells (ubL V a).toArray 35)) (w.heap.size + 1) V a := x1
  have ho1 := ho.old hb hgl
  clear x0 x1 hP ho hk
  go_enter Tryz.func165, Tryz.ntmps165
  go_wp2_with fail
  generalize ((w.alloc (.cells #[] 92)).alloc (.cells (ubL V a).toArray 35)) = w1 at *
  refine Ord.region_ (fun w' => UbB w' (w.heap.size + 1) V a) false [] (by kernel_rfl) (by kernel_rfl) (hx.old (Below.refl w1.heap.size w1).drew (blk_lt hx)) ?_
  have hd := (Below.refl w1.heap.size w1).drew
  replace hx := hx.old hd (blk_lt hx)
  replace ho1 := ho1.old hd (blk_lt ho1)
  replace hb := bnx hb hd
  have hr2 := hr.up hb
  generalize w1.drew = w2 at *
  clear hd
  repeat (first | (refine Ord.e_p (v := ?_) rfl (by rfl) ?_ ?_; rotate_left; · (intro w2; go_simp; try with_reducible rfl)) | (refine Ord.e_u (by rfl) ?_)); (try simp only [Act.put, List.setIfInBounds_toArray, List.set_cons_zero, List.set_cons_succ])
  refine Ord.e_loadS Tryz.underlying2 rfl (fun w' hS => (show UbB w' _ V a from hS).lac h.pl h.dl) hx rfl (by rfl) ?_
  (try simp only [Act.put, List.setIfInBounds_toArray, List.set_cons_zero, List.set_cons_succ])
  repeat (first | (refine Ord.e_p (v := ?_) rfl (by rfl) ?_ ?_; rotate_left; · (intro w2; go_simp; try with_reducible rfl)) | (refine Ord.e_u (by rfl) ?_)); (try simp only [Act.put, List.setIfInBounds_toArray, List.set_cons_zero, List.set_cons_succ])
  refine Ord.e_loadS Tryz.underlying31 rfl (fun w' hS => (show UbB w' _ V a from hS).qc h.pl h.dl) hx rfl (by rfl) ?_
  (try simp only [Act.put, List.setIfInBounds_toArray, List.set_cons_zero, List.set_cons_succ])
  repeat (first | (refine Ord.e_p (v := ?_) rfl (by rfl) ?_ ?_; rotate_left; · (intro w2; go_simp; try with_reducible rfl)) | (refine Ord.e_u (by rfl) ?_)); (try simp only [Act.put, List.setIfInBounds_toArray, List.set_cons_zero, List.set_cons_succ])
  refine Ord.e_x rfl (by rfl) ?_
  go_wp2_with fail
  go_fit (cloneCQ_any a.A' a.n' a.c' w.heap.size V.q w2 hr2.q hb.size hn.2)
  rintro e w3 ⟨A3, n3, c3, rfl, hown3, hl3, hb3⟩
  replace hx := hx.old hb3 (blk_lt hx)
  have hg2 := blk_lt ho1
  replace ho1 := ho1.old hb3 hg2
  replace hb := bnx hb hb3
  go_wp2_with fail
  refine Ord.Seg.go hx (fun h => by cases h) ?_
  (try simp only [Act.put, List.setIfInBounds_toArray, List.set_cons_zero, List.set_cons_succ])
  repeat (first | (refine Ord.e_p (v := ?_) rfl (by rfl) ?_ ?_; rotate_left; · (intro w2; go_simp; try with_reducible rfl)) | (refine Ord.e_u (by rfl) ?_)); (try simp only [Act.put, List.setIfInBounds_toArray, List.set_cons_zero, List.set_cons_succ])
  refine Ord.e_x rfl (by rfl) ?_
  go_wp2_with (first | (with_reducible refine stop_loadT 33 ?_) | (with_reducible refine stop_storeT 33 ?_) | (with_reducible refine stop_loadG 33 ?_))
  refine wpList_store_mid rfl _ _ _ rfl g 46 (saS V.la A3 n3 c3).toArray rfl rfl (ho1.there rfl rfl (by show 46 + 2 ≤ 48; omega)) (by kernel_rfl) (all_oneCell_toArray (saS_one _ _ _ _)) ?_
  obtain ⟨ho2, haw⟩ := ho1.set (ubL_setq (V := { ub0 with k := 5 }) rfl rfl (t := V.la) (A := A3) (n := n3) (c := c3))
  have hb4 := below_aw20 (hb.mono (Nat.le_of_lt hgl)) haw (fun k hk => by rw [hk]; exact Nat.le_refl _) (Nat.le_of_lt (blk_lt ho1))
  have hr4 := rdr_aw (RdR.own (ls := V.q.map prC) hown3 (by rw [List.length_map]; exact hl3) (fun r hr => by obtain ⟨s, hs, rfl⟩ := List.mem_map.1 hr; exact (rfl))) (Nat.le_refl _) haw (fun p hp => by subst hp; have := (own_blk hown3 rfl).1; omega)
  have hfg : ∀ p, A3 = some p → g < p.block := fun p hp => by subst hp; have := (own_blk hown3 rfl).1; omega
  have hx4 := haw.keep hx (by omega)
  simp only [List.toList_toArray]
  generalize w3.setCells g 46 (saS V.la A3 n3 c3) = w4 at *
  refine Ord.Seg.go hx4 (fun h => by cases h) ?_
  (try simp only [Act.put, List.setIfInBounds_toArray, List.set_cons_zero, List.set_cons_succ])
  repeat (first | (refine Ord.e_p (v := ?_) rfl (by rfl) ?_ ?_; rotate_left; · (intro w2; go_simp; try with_reducible rfl)) | (refine Ord.e_u (by rfl) ?_)); (try simp only [Act.put, List.setIfInBounds_toArray, List.set_cons_zero, List.set_cons_succ])
  refine Ord.e_nil ?_
  clear hx ho1 haw hb hr hr2 hown3 hb3
  go_wp2
  go_end0
  exact ⟨{ ua0 with A' := A3, n' := n3, c' := c3 }, rfl, ho2, ⟨RdR.none_ _ _ 7, hr4⟩, (fun p hp => by rcases hp with hp | hp; cases hp; exact hfg p hp), hb4⟩

theorem ub_size (V : UbV) (a : UbA) (hp : V.p.length = 32) (hd : V.d.length = 8) : (Tryz.prog.info? 35).map (·.size) = some (ubL V a).toArray.size := by rw [List.size_toArray, ubL_len hp hd]; kernel_rfl
theorem ub_sizes {V V' : UbV} {a a' : UbA} (hp : V.p.length = 32) (hd : V.d.length = 8) (hp' : V'.p.length = 32) (hd' : V'.d.length = 8) : (ubL V a).toArray.size = (ubL V' a').toArray.size := by rw [List.size_toArray, List.size_toArray, ubL_len hp hd, ubL_len hp' hd']
theorem ub_one (V : UbV) (a : UbA) : (ubL V a).toArray.all (·.oneCell') = true := all_oneCell_toArray (ubL_one V a)
/-- A message; its rows are read, and lie in new memory. -/
def RetUP (w : World) (V : UbV) (e : Ending) (w' : World) : Prop :=
  ∃ a, e = .returned (.agg (ubL V a).toArray) ∧ UbR w' w'.heap.size V a ∧ Below w.heap.size w w'
theorem results_cellU1 {P : Program} {fn : Func} {p : Tmp} {ty : TypeId} (h : fn.results = #[.cell p ty]) (tmps : Array Value) (w : World) (g : Nat) (t : TypeId) (cs : Array Value) (fr : Nat × Nat) (d : TypeDesc)
    (hp : tmps.getD p undef = .pointer (some ⟨g, 0, none⟩)) (hg : w.heap[g]? = some (.cells cs t fr))
    (hu : P.underlying ty = some d) (hd : (match d with | .struct _ | .array _ _ => true | _ => false) = true) (hi : (P.info? ty).map (·.size) = some cs.size) :
    (results fn tmps).run P w = .ok (.agg cs) w := results_cell_row h tmps w g t cs fr d hp hg hu hd hi

end Go.Proofs.YtmkidihcdljkiaaGreat
