/-
  octet's writer: what each function does.
-/
import Derived.Test.YtonejdjhdjckjaaGreatOctIter
set_option linter.unusedSimpArgs false
set_option linter.unusedVariables false
namespace Go.Proofs.YtonejdjhdjckjaaGreat
open Go.RowKit Go.Shelf NumLaw
attribute [local go_sem] Oper.semAt_some

/-- What a writer at g, of the bytes v, may turn. -/
def Foot (g : Nat) (v : Value) (k : Nat) : Prop := k = g ∨ v.ownBlock = some k
/-- The writer at block g: its bytes' slice, the bytes, whether it is bad (then nothing). -/
def Wtr (w : World) (g : Nat) (v : Value) (l : List UInt8) (bad : Bool) : Prop :=
  RowAt w g 127 v true bad ∧ w.ownsRow (g + 1) 5 1 v l.length (bv l) ∧ (bad = true → l = [])
theorem own_blk {w : World} {base : Nat} {e : TypeId} {size : Nat} {v : Value} {n : Nat} {xs : List Value} (h : w.ownsRow base e size v n xs) {k : Nat} (hk : v.ownBlock = some k) : base ≤ k ∧ k < w.heap.size := by
  rcases h.2 with ⟨rfl, _⟩ | ⟨g, cap, cur, rfl, hg, hh, _⟩
  · simp [Value.ownBlock] at hk
  · simp [Value.ownBlock] at hk; subst hk
    refine ⟨hg, ?_⟩
    rcases Nat.lt_or_ge g w.heap.size with h1 | h1
    · exact h1
    · rw [Array.getElem?_eq_none h1] at hh; cases hh
theorem own_aw {w w' : World} {base : Nat} {e : TypeId} {size : Nat} {v : Value} {n : Nat} {xs : List Value} {U : Nat → Prop} (h : w.ownsRow base e size v n xs) (ha : Aw U w w') (hu : ∀ k, v.ownBlock = some k → ¬ U k) : w'.ownsRow base e size v n xs := by
  refine ⟨h.1, ?_⟩
  rcases h.2 with h2 | ⟨g, cap, cur, rfl, hg, hh, r⟩
  · exact .inl h2
  · exact .inr ⟨g, cap, cur, rfl, hg, ha.keep hh (hu g rfl), r⟩
theorem RowAt.aw {w w' : World} {g e : Nat} {v : Value} {made bad : Bool} {U : Nat → Prop} (h : RowAt w g e v made bad) (ha : Aw U w w') (hu : ¬ U g) : RowAt w' g e v made bad := ha.keep h hu
theorem Wtr.lt {w : World} {g : Nat} {v : Value} {l : List UInt8} {bad : Bool} (h : Wtr w g v l bad) : g < w.heap.size := h.1.lt
theorem Wtr.foot {w : World} {g : Nat} {v : Value} {l : List UInt8} {bad : Bool} (h : Wtr w g v l bad) {k : Nat} (hk : Foot g v k) : g ≤ k ∧ k < w.heap.size := by
  rcases hk with rfl | hk
  · exact ⟨Nat.le_refl _, h.lt⟩
  · have := own_blk h.2.1 hk; omega
theorem Wtr.keep {w w' : World} {g : Nat} {v : Value} {l : List UInt8} {bad : Bool} {U : Nat → Prop} (h : Wtr w g v l bad) (ha : Aw U w w') (hu : ∀ k, Foot g v k → ¬ U k) : Wtr w' g v l bad :=
  ⟨h.1.aw ha (hu g (.inl rfl)), own_aw h.2.1 ha (fun k hk => hu k (.inr hk)), h.2.2⟩
theorem Aw.of_grown {w w' : World} {row : Option Nat} (h : w.grownBy w' row) : Aw (fun k => row = some k) w w' := ⟨h.os, h.tape, h.output, h.size, fun k hk hu => h.block k hk (fun e => hu e.symm)⟩

/-- A writer's call: what it leaves. -/
def RetW (w : World) (g : Nat) (v : Value) (l' : List UInt8) (bad' : Bool) (e : Ending) (w' : World) : Prop :=
  e = .returned (.tuple #[]) ∧ ∃ v', Wtr w' g v' l' bad' ∧ Aw (Foot g v) w w' ∧ ∀ k, v'.ownBlock = some k → v.ownBlock = some k ∨ w.heap.size ≤ k

/- Make -/
theorem wMake_any (w : World) : Calls Tryz.prog 71 #[] w fun e w' => e = .returned (.pointer (some ⟨w.heap.size, 0, none⟩)) ∧ Wtr w' w.heap.size (.slice none 0 0) [] false ∧ Below w.heap.size w w' := by
  go_enter Tryz.func71, Tryz.ntmps71
  go_wp2
  go_ret
  exact ⟨rfl, ⟨heap_alloc_new w _, World.ownsRow_nil _ _ _ _, fun h => by cases h⟩, (Below.refl _ _).alloc (Nat.le_refl _) _⟩

/- Fail -/
theorem wFail_any (g e : Nat) (v : Value) (made bad : Bool) (w : World) (h : RowAt w g e v made bad) :
    Calls Tryz.prog 101 #[.pointer (some ⟨g, 0, none⟩)] w fun x w' => x = .returned (.bool (!(made && !bad))) ∧ w = w' := by
  go_enter Tryz.func101, Tryz.ntmps101
  go_wp2_with fail
  go_fit (fine_any _ _ _ _ _ w h)
  rintro x w1 ⟨rfl, rfl⟩
  go_wp2
  go_ret
  exact ⟨by simp, rfl⟩
theorem wFail_nil (w : World) :
    Calls Tryz.prog 101 #[.pointer none] w fun x w' => x = .returned (.bool true) ∧ w = w' := by
  go_enter Tryz.func101, Tryz.ntmps101
  go_wp2
  go_ret
  exact ⟨rfl, rfl⟩

/- put -/
theorem wput_nil (n : Int) (u : Nat) (fits : Bool) (w : World) :
    Calls Tryz.prog 103 #[.pointer none, .int .i64 n, .int .u64 u, .bool fits] w fun x w' => x = .returned (.tuple #[]) ∧ Below w.heap.size w w' := by
  go_enter Tryz.func103, Tryz.ntmps103
  go_wp2_with fail
  go_fit (wFail_nil _)
  rintro x w1 ⟨rfl, rfl⟩
  go_wp2
  ((try simp only [Exit.inBlock, Exit.then]); refine bodyPost_ret (results_none rfl _ _ _) rfl ?_)
  exact ⟨rfl, (Below.refl _ _).alloc (Nat.le_refl _) _⟩
theorem wput_bad (g e : Nat) (v : Value) (made bad : Bool) (n : Int) (u : Nat) (fits : Bool) (w : World) (h : RowAt w g e v made bad) (hf : (made && !bad) = false) :
    Calls Tryz.prog 103 #[.pointer (some ⟨g, 0, none⟩), .int .i64 n, .int .u64 u, .bool fits] w fun x w' => x = .returned (.tuple #[]) ∧ Below w.heap.size w w' := by
  have h1 : RowAt (w.alloc (.cells #[.pointer (some ⟨g, 0, none⟩)] 100)) g e v made bad := (heap_alloc_old w _ h.lt).trans h
  go_enter Tryz.func103, Tryz.ntmps103
  go_wp2_with fail
  go_fit (wFail_any g e v made bad _ h1)
  rintro x w1 ⟨rfl, rfl⟩
  rw [hf]
  go_wp2
  ((try simp only [Exit.inBlock, Exit.then]); refine bodyPost_ret (results_none rfl _ _ _) rfl ?_)
  exact ⟨rfl, (Below.refl _ _).alloc (Nat.le_refl _) _⟩
theorem wput_no (g : Nat) (v : Value) (l : List UInt8) (n : Int) (u : Nat) (w : World) (h : Wtr w g v l false) :
    Calls Tryz.prog 103 #[.pointer (some ⟨g, 0, none⟩), .int .i64 n, .int .u64 u, .bool false] w (RetW w g v [] true) := by
  have h1 : RowAt (w.alloc (.cells #[.pointer (some ⟨g, 0, none⟩)] 100)) g 127 v true false := (heap_alloc_old w _ h.1.lt).trans h.1
  go_enter Tryz.func103, Tryz.ntmps103
  go_wp2_with fail
  go_fit (wFail_any g _ v true false _ h1)
  rintro x w1 ⟨rfl, rfl⟩
  go_wp2_with fail
  go_fit (fail_any _ _ _ _ _ _ h1)
  rintro x w2 ⟨rfl, hr2, hg⟩
  go_wp2
  ((try simp only [Exit.inBlock, Exit.then]); refine bodyPost_ret (results_none rfl _ _ _) rfl ?_)
  exact ⟨rfl, .slice none 0 0, ⟨hr2, World.ownsRow_nil _ _ _ _, fun _ => rfl⟩, (((Aw.refl _ w).alloc _).trans ((Aw.of_grown hg).mono fun k hk => .inl (by injection hk with hk; exact hk.symm))), fun k hk => by cases hk⟩

set_option maxRecDepth 10000 in
set_option maxHeartbeats 1000000 in
theorem wput_yes (g : Nat) (v : Value) (l : List UInt8) (n u : Nat) (w : World) (h : Wtr w g v l false) (hn : n ≤ 8) (hu : u < 18446744073709551616) (hl : l.length ≤ 1000000) :
    Calls Tryz.prog 103 #[.pointer (some ⟨g, 0, none⟩), .int .i64 n, .int .u64 u, .bool true] w (RetW w g v (l ++ bytesN n u) false) := by
  have hW0 : Aw (fun _ => False) w (w.alloc (.cells #[.pointer (some ⟨g, 0, none⟩)] 100)) := (Aw.refl _ w).alloc _
  have h1 := h.keep hW0 (fun k _ hk => hk)
  have hbx : (w.alloc (.cells #[.pointer (some ⟨g, 0, none⟩)] 100)).heap[w.heap.size]? = some (.cells #[.pointer (some ⟨g, 0, none⟩)] 100) := heap_alloc_new w _
  have hsz : (w.alloc (.cells #[.pointer (some ⟨g, 0, none⟩)] 100)).heap.size = w.heap.size + 1 := by simp
  obtain ⟨i0, hi⟩ := info_parts u8_info
  have Hi := Lib.hid hi
  clear hi
  refine (callsIn_wide (n := 9)).1 ?_
  have hro : Fence.wide.round = none := rfl
  refine callsIn_of_wp_marks Tryz.func103 rfl trivial ?_ hro
  simp only [Tryz.ntmps103, List.size_toArray, List.length_cons, List.length_nil, Nat.reduceAdd, Nat.reduceSub, Array.replicate_succ, Array.replicate_zero, List.push_toArray, List.append_toArray, List.nil_append, List.cons_append]
  gi_wp2_with fail
  refine ⟨trivial, (callsIn_wide.2 (wFail_any g _ v true false _ h1.1)).mono ?_⟩
  rintro x w1 ⟨rfl, rfl⟩
  gi_wp2_with fail
  refine ⟨trivial, (callsIn_wide.2 (bytes_any n u _)).mono ?_⟩
  rintro x w1 ⟨rfl, rfl⟩
  rw [hsz]
  generalize hw1 : (w.alloc (.cells #[.pointer (some ⟨g, 0, none⟩)] 100)) = w1 at *
  have hsz2 : ((w1.alloc (.cells #[.int .i64 n] 3)).alloc (.cells #[.int .u64 u] 112)).heap.size = w.heap.size + 3 := by simp [hsz]
  have hA2 : Aw (fun _ => False) w1 ((w1.alloc (.cells #[.int .i64 n] 3)).alloc (.cells #[.int .u64 u] 112)) := ((Aw.refl _ _).alloc _).alloc _
  have hn1 : ((w1.alloc (.cells #[.int .i64 n] 3)).alloc (.cells #[.int .u64 u] 112)).heap[w.heap.size + 1]? = some (.cells #[.int .i64 n] 3) := by
    have := heap_alloc_old (w1.alloc (.cells #[.int .i64 n] 3)) (.cells #[.int .u64 u] 112) (r := w1.heap.size) (by simp)
    rw [heap_alloc_new w1 _] at this
    rwa [hsz] at this
  have hn2 : ((w1.alloc (.cells #[.int .i64 n] 3)).alloc (.cells #[.int .u64 u] 112)).heap[w.heap.size + 2]? = some (.cells #[.int .u64 u] 112) := by
    have := blk_new2 w1 (.cells #[.int .i64 n] 3) (.cells #[.int .u64 u] 112)
    rwa [hsz] at this
  have h2 := h1.keep hA2 (fun k _ hk => hk)
  have hb2 := hA2.keep hbx (fun hk => hk)
  have hA02 := hW0.trans hA2
  rw [show w.heap.size + 1 + 1 = w.heap.size + 2 by omega]
  generalize ((w1.alloc (.cells #[.int .i64 n] 3)).alloc (.cells #[.int .u64 u] 112)) = w2 at *
  have hfoot := fun k (hk : Foot g v k) => h.foot hk
  clear hw1 hA2 h1 hbx hsz hW0 w1
  gi_wp2_with fail
  refine rangeFunc_W rfl (enters_of Tryz.func113 (by kernel_rfl) rfl) (bytes_seq n u (w.heap.size + 1) (w.heap.size + 2) _ hn hu (by omega)) (fun W hW => ⟨hW.keep hn1 (fun hk => hk), hW.keep hn2 (fun hk => hk)⟩) (fun x => rfl) (fun k hk => by rw [hk, hsz2]; omega) (fun k hk => by rw [hk, hsz2]; omega)
    (fun pre W => W.heap[w.heap.size]? = some (.cells #[.pointer (some ⟨g, 0, none⟩)] 100) ∧ Aw (Foot g v) w W ∧ ∃ v', Wtr W g v' (l ++ pre) false ∧ ∀ k, v'.ownBlock = some k → v.ownBlock = some k ∨ w.heap.size + 5 ≤ k)
    (fun _ _ _ => False) ?hI (fun _ _ _ _ h _ => h) ?h0
    (fun x => { tmps := #[.pointer (some ⟨g, 0, none⟩), .int .i64 n, .int .u64 u, .bool true, .pointer (some ⟨w.heap.size, 0, none⟩), undef, undef, undef, .int .u8 (x.toNat : Int), .bool false, .pointer (some ⟨g, 0, none⟩), .bool false, .bool false, .bool true, .bool false, undef, undef, undef, undef, .int .i64 n, .int .u64 u, .func (.func 113) #[] #[.pointer (some ⟨w.heap.size + 1, 0, none⟩), .pointer (some ⟨w.heap.size + 2, 0, none⟩)], .int .u8 (x.toNat : Int), undef, undef, undef, undef, undef, undef, undef, undef, undef, undef, undef, undef], defers := [] }) ?assign ?body ?done (fun _ _ _ _ h _ => h.elim)
  case assign =>
    intro l x W K hK
    gi_wp2
    exact hK
  case hI =>
    rintro pre A B ⟨hb, ha, v', hw, hv⟩ hab
    have hn : ∀ k, (k = w.heap.size + 2 ∨ k = w2.heap.size ∨ k = w2.heap.size + 1) → w.heap.size + 2 ≤ k ∧ k ≤ w.heap.size + 4 := fun k hk => by rw [hsz2] at hk; omega
    refine ⟨hab.keep hb (fun hk => ?_), ⟨hab.os.trans ha.os, hab.tape.trans ha.tape, hab.output.trans ha.output, Nat.le_trans ha.size hab.size, fun k hk hf => (hab.block k (Nat.lt_of_lt_of_le hk ha.size) (fun hu => ?_)).trans (ha.block k hk hf)⟩, v', hw.keep hab (fun k hk hu => ?_), hv⟩
    · have := hn _ hk; omega
    · have := hn _ hu; omega
    · have h1 := hn _ hu
      rcases hk with rfl | hk
      · have := h.lt; omega
      · rcases hv k hk with h2 | h2
        · have := hfoot k (.inr h2); omega
        · omega
  case h0 =>
    exact ⟨hb2, hA02.mono (fun k hk => hk.elim), v, by simpa using h2, fun k hk => .inl hk⟩
  case body =>
    rintro pre x W ⟨hb, ha, v', hw, hv⟩ hpre hge
    gi_wp2_with fail
    have hbc : W.cell? ⟨w.heap.size, 0, none⟩ = some (.pointer (some ⟨g, 0, none⟩)) := blk_cell hb rfl
    refine Ord.regionIn_ (fun w' => w'.cell? ⟨w.heap.size, 0, none⟩ = some (.pointer (some ⟨g, 0, none⟩))) true [28] (by kernel_rfl) (by kernel_rfl) (by kernel_rfl) (fun ⟨_, _, h⟩ => h) hbc ?_
    have hKW : Aw (fun _ => False) W W.drew := (Aw.refl _ W).drew
    replace hbc : W.drew.cell? ⟨w.heap.size, 0, none⟩ = _ := hbc
    have hw2 := hw.keep hKW (fun k _ hk => hk)
    have hge2 : w2.heap.size + 2 ≤ W.drew.heap.size := hge
    have hb2' : W.drew.heap[w.heap.size]? = _ := hb
    generalize W.drew = W1 at *
    obtain ⟨hrow, hown, _⟩ := hw2
    obtain ⟨A0, c0, rfl⟩ := own_sl hown
    obtain ⟨k0, hk0⟩ : ∃ k0, k0 = (l ++ pre).length := ⟨_, rfl⟩
    rw [← hk0] at hown hrow hv
    have hc0 := hrow.c0
    have hklen : k0 ≤ 1000008 := by
      have h1 := hpre.length_le
      rw [bytesN_len] at h1
      rw [hk0]; simp at h1 ⊢; omega
    have Hk0 := Lib.hid hk0
    clear hk0
    refine Ord.e_loadS Tryz.underlying100 rfl (fun w2 hS => hS) hbc rfl (by rfl) ?_; (try simp only [Act.put, List.setIfInBounds_toArray, List.set_cons_zero, List.set_cons_succ])
    refine Ord.e_loadS Tryz.underlying100 rfl (fun w2 hS => hS) hbc rfl (by rfl) ?_; (try simp only [Act.put, List.setIfInBounds_toArray, List.set_cons_zero, List.set_cons_succ])
    repeat (first | (refine Ord.e_p (v := ?_) rfl (by rfl) ?_ ?_; rotate_left; · (intro w2; go_simp; try with_reducible rfl)) | (refine Ord.e_u (by rfl) ?_)); (try simp only [Act.put, List.setIfInBounds_toArray, List.set_cons_zero, List.set_cons_succ])
    refine Ord.e_load Tryz.underlying22 rfl hc0 rfl (by rfl) (by rfl) ?_
    (try simp only [Act.put, List.setIfInBounds_toArray, List.set_cons_zero, List.set_cons_succ])
    repeat (first | (refine Ord.e_p (v := ?_) rfl (by rfl) ?_ ?_; rotate_left; · (intro w2; go_simp; try with_reducible rfl)) | (refine Ord.e_u (by rfl) ?_)); (try simp only [Act.put, List.setIfInBounds_toArray, List.set_cons_zero, List.set_cons_succ])
    refine Ord.e_x rfl (by rfl) ?_
    go_wp2
    have hA3 : Aw (fun _ => False) W1 (W1.alloc (.cells #[.int .u8 (x.toNat : Int)] 5)) := (Aw.refl _ _).alloc _
    have hbc3 : (W1.alloc (.cells #[.int .u8 (x.toNat : Int)] 5)).cell? ⟨w.heap.size, 0, none⟩ = some (.pointer (some ⟨g, 0, none⟩)) := (World.cell?_alloc_lt _ _ _ (World.block_lt_of_cell? W1 _ hbc)).trans hbc
    have hnew : Rd (W1.alloc (.cells #[.int .u8 (x.toNat : Int)] 5)) (W1.heap.size + 1) 1 (some ⟨W1.heap.size, 0, none⟩) 1 1 (bv [x]) := rd_const W1 5 [x] (0, 0) (by simp [maxLen])
    refine Ord.Seg.go hbc3 (fun _ => (Below.refl _ _).alloc (Nat.le_refl _) _) ?_
    (try simp only [Act.put, List.setIfInBounds_toArray, List.set_cons_zero, List.set_cons_succ])
    refine Ord.e_x rfl (by rfl) ?_
    have hown3 := own_aw hown hA3 (fun k _ hk => hk)
    have hsz3 : (W1.alloc (.cells #[.int .u8 (x.toNat : Int)] 5)).heap.size = W1.heap.size + 1 := by simp
    have hrow3 := hrow.aw hA3 (fun hk => hk)
    have hb3 := hA3.keep hb2' (fun hk => hk)
    generalize hW3 : (W1.alloc (.cells #[.int .u8 (x.toNat : Int)] 5)) = W3 at *
    have hA33 : Aw (fun _ => False) W W3 := hKW.trans hA3
    go_wp2_with (at_builtin; refine stop_ ?_)
    refine go_ (wpList_appG (base := g + 1) (n := k0) (xs := bv (l ++ pre)) Tryz.underlying22 Hi.out rfl (by omega) hown3 rfl hnew rfl (bv_one _) (k := k0 + 1) rfl (bv_app _ _).symm (by unfold maxLen; omega) (by omega) (by have := hrow3.lt; omega) ?_)
    intro A4 c4 w4 hown4 hg4 hob4
    have hA4 := Aw.of_grown hg4
    have hobk : ∀ k, (Value.slice A0 k0 c0).ownBlock = some k → g + 1 ≤ k ∧ k < W1.heap.size := fun k hk => own_blk hown hk
    have hrow4 := hrow3.aw hA4 (fun hk => by have := hobk _ hk; omega)
    have hb4 := hA4.keep hb3 (fun hk => by
      have h1 := hobk _ hk
      rcases hv _ hk with h2 | h2
      · have := hfoot _ (.inr h2); omega
      · omega)
    refine Ord.Seg.go (blk_cell hb4 rfl) (fun h => by cases h) ?_
    (try simp only [Act.put, List.setIfInBounds_toArray, List.set_cons_zero, List.set_cons_succ])
    repeat (first | (refine Ord.e_p (v := ?_) rfl (by rfl) ?_ ?_; rotate_left; · (intro w2; go_simp; try with_reducible rfl)) | (refine Ord.e_u (by rfl) ?_)); (try simp only [Act.put, List.setIfInBounds_toArray, List.set_cons_zero, List.set_cons_succ])
    refine Ord.e_x rfl (by rfl) ?_
    have h41 := hrow4.c0
    have h42 := hrow4.f0
    go_wp2
    have hA5 : Aw (fun k => k = g) w4 (w4.setCell ⟨g, 0, none⟩ (.slice A4 (k0 + 1) c4)) := (Aw.refl _ _).set _ rfl
    have hrow5 := hrow4.put0 (.slice A4 (k0 + 1) c4)
    have hb5 := hA5.keep hb4 (fun hk => by have := h.lt; omega)
    have hown5 := own_aw hown4 hA5 (fun k hk hu => by have := (own_blk hown4 hk).1; omega)
    generalize (w4.setCell ⟨g, 0, none⟩ (.slice A4 (k0 + 1) c4)) = w5 at *
    refine Ord.Seg.go (blk_cell hb5 rfl) (fun h => by cases h) ?_
    (try simp only [Act.put, List.setIfInBounds_toArray, List.set_cons_zero, List.set_cons_succ])
    refine Ord.e_nil ?_
    have hA6 : Aw (Foot g (.slice A0 k0 c0)) W w5 := (hA33.mono fun k hk => hk.elim).trans ((hA4.mono fun k hk => .inr hk).trans (hA5.mono fun k hk => .inl hk))
    refine ⟨hA6.keeps fun k hk hu => ?_, hb5, ⟨hA6.os.trans ha.os, hA6.tape.trans ha.tape, hA6.output.trans ha.output, Nat.le_trans ha.size hA6.size, fun k hk hf => (hA6.block k (Nat.lt_of_lt_of_le hk ha.size) (fun hu => ?_)).trans (ha.block k hk hf)⟩, .slice A4 (k0 + 1) c4, ⟨hrow5, ?_, fun h => by cases h⟩, fun k hk => ?_⟩
    · have h1 : w.heap.size ≤ k ∧ k ≤ w.heap.size + 4 := by rw [hsz2] at hk; omega
      rcases hu with rfl | hu
      · have := h.lt; omega
      · rcases hv _ hu with h2 | h2
        · have := hfoot _ (.inr h2); omega
        · omega
    · rcases hu with rfl | hu
      · exact hf (.inl rfl)
      · rcases hv _ hu with h2 | h2
        · exact hf (.inr h2)
        · omega
    · rw [show (l ++ (pre ++ [x])).length = k0 + 1 by rw [Hk0.out]; simp; omega, show l ++ (pre ++ [x]) = (l ++ pre) ++ [x] by simp]
      exact hown5
    · rcases hob4 with h1 | h1
      · exact hv _ (h1 ▸ hk)
      · rw [h1] at hk
        injection hk with hk
        right
        have := hsz3
        omega
  case done =>
    rintro W ⟨hb, ha, v', hw, hv⟩ hd
    gi_wp2
    refine ⟨by simp, .inl ⟨_, _, rfl, run_takeDeferred hd, ?_⟩⟩
    have hA7 : Aw (fun k => k = w2.heap.size) W (W.putObj w2.heap.size (.deferred none)) := (Aw.refl _ _).put _ rfl
    refine ⟨_, results_none rfl _ _ _, rfl, v', hw.keep hA7 (fun k hk hu => ?_), ⟨hA7.os.trans ha.os, hA7.tape.trans ha.tape, hA7.output.trans ha.output, Nat.le_trans ha.size hA7.size, fun k hk hf => (hA7.block k (Nat.lt_of_lt_of_le hk ha.size) (fun hu => by omega)).trans (ha.block k hk hf)⟩, fun k hk => ?_⟩
    · rcases hk with rfl | hk
      · have := h.lt; omega
      · rcases hv _ hk with h2 | h2
        · have := hfoot _ (.inr h2); omega
        · omega
    · rcases hv _ hk with h2 | h2
      · exact .inl h2
      · right; omega

end Go.Proofs.YtonejdjhdjckjaaGreat
