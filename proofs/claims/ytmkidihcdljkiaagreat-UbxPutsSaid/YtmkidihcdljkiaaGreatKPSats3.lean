/-
  sats.Put walked.
-/
import Derived.Test.YtmkidihcdljkiaaGreatKPSats2
import Derived.Test.YtmkidihcdljkiaaGreatKPGB
import Derived.Test.YtmkidihcdljkiaaGreatKPGE
set_option linter.unusedSimpArgs false
set_option linter.unusedVariables false
namespace Go.Proofs.YtmkidihcdljkiaaGreat
open Go.RowKit Go.Shelf NumLaw
attribute [local go_sem] Oper.semAt_some Addr.add_mid

theorem piecesFn_any (t : Int) (A : Option Addr) (n c : Nat) (w : World) :
    Calls Tryz.prog 145 #[.agg #[.int .i64 t, .slice A n c]] w fun e w' => e = .returned (.func (.func 149) #[] #[.pointer (some ⟨w.heap.size, 0, none⟩)]) ∧ w' = w.alloc (.cells #[.int .i64 t, .slice A n c] 26) := by
  go_enter Tryz.func145, Tryz.ntmps145
  go_wp2
  go_ret
  exact ⟨rfl, rfl⟩

/-- What is gathered of pieces, and the first error. -/
theorem pcs_ok {t : Int} {l : List (List Int)} (h64 : l.length ≤ 64) (h : ∀ x ∈ pcs t l, x.2 = 0) : satsE t l = 0 ∧ (pcs t l).flatMap (·.1) = satsB t l := by
  have h1 : shE headF (hdV t l) = 0 := h (shP headF (hdV t l), shE headF (hdV t l)) (by simp [pcs])
  have h2 : ∀ s ∈ l, shE satF s = 0 := fun s hs => h (shP satF s, shE satF s) (by unfold pcs; exact List.mem_cons_of_mem _ (List.mem_map.2 ⟨s, hs, rfl⟩))
  refine ⟨by unfold satsE; rw [if_neg (by omega), if_pos h1]; exact satsEL_zero.2 h2, ?_⟩
  unfold pcs satsB
  rw [List.flatMap_cons]
  congr 1
  rw [List.flatMap_map]
theorem satsEL_first : ∀ (l l1 : List (List Int)) (s : List Int) (l2 : List (List Int)), l = l1 ++ s :: l2 → (∀ x ∈ l1, shE satF x = 0) → shE satF s ≠ 0 → satsEL l = shE satF s
  | l, [], s, l2, e, _, h => by subst e; show satsEL (s :: l2) = _; unfold satsEL; rw [if_neg h]
  | l, x :: l1, s, l2, e, h1, h => by
    subst e
    show satsEL (x :: (l1 ++ s :: l2)) = _
    unfold satsEL
    rw [if_pos (h1 x List.mem_cons_self)]
    exact satsEL_first _ l1 s l2 rfl (fun y hy => h1 y (List.mem_cons_of_mem _ hy)) h
theorem pcs_err {t : Int} {l : List (List Int)} {pre : List (List UInt8 × Nat)} {x : List UInt8 × Nat} (h64 : l.length ≤ 64) (hp : pre ++ [x] <+: pcs t l) (h : ∀ y ∈ pre, y.2 = 0) (hx : x.2 ≠ 0) : satsE t l = x.2 := by
  unfold satsE
  rw [if_neg (by omega)]
  obtain ⟨suf, hs⟩ := hp
  unfold pcs at hs
  match pre, h, hs with
  | [], _, hs =>
    injection hs with h1 h2
    rw [h1] at hx ⊢
    rw [if_neg hx]
  | p :: pre, h, hs =>
    injection hs with h1 h2
    have e1 : shE headF (hdV t l) = 0 := by have := h p List.mem_cons_self; rw [h1] at this; exact this
    rw [if_pos e1]
    -- behind the head
    have h3 : l.map (fun s => (shP satF s, shE satF s)) = pre ++ x :: suf := by rw [← h2]; simp
    obtain ⟨l1, l2, rfl, hl1, hl2⟩ := List.map_eq_append_iff.1 h3
    obtain ⟨s, l3, rfl, hs1, hs2⟩ := List.map_eq_cons_iff.1 hl2
    have hsx : shE satF s = x.2 := by rw [← hs1]
    rw [← hsx]
    refine satsEL_first _ l1 s l3 rfl (fun y hy => ?_) (by rw [hsx]; exact hx)
    have := h (shP satF y, shE satF y) (List.mem_cons_of_mem _ (by rw [← hl1]; exact List.mem_map.2 ⟨y, hy, rfl⟩))
    exact this
theorem pcs_len {t : Int} {l : List (List Int)} {x : List UInt8 × Nat} (h : x ∈ pcs t l) : x.1.length ≤ 12 := by
  unfold pcs at h
  have key : ∀ (f : List FieldV) (v : List Int), rightL f = true → sumL f ≤ 12 → (shP f v).length ≤ 12 := fun f v hr hs => by
    by_cases h0 : shE f v = 0
    · rw [shP_len hr h0]; exact hs
    · rw [shP_none h0]; simp
  rcases List.mem_cons.1 h with rfl | h
  · exact key _ _ headF_right (by rw [headF_sum]; omega)
  · obtain ⟨s, _, rfl⟩ := List.mem_map.1 h
    exact key _ _ satF_right (by rw [satF_sum]; exact Nat.le_refl _)
theorem flat_le12 : ∀ (p : List (List UInt8 × Nat)), (∀ x ∈ p, x.1.length ≤ 12) → (p.flatMap (·.1)).length ≤ 12 * p.length
  | [], _ => by simp
  | x :: p, h => by
    have := flat_le12 p (fun y hy => h y (List.mem_cons_of_mem _ hy))
    have h1 := h x List.mem_cons_self
    rw [List.flatMap_cons, List.length_append, List.length_cons]
    omega
/-- Bytes and an error, the bytes in new memory. -/
theorem satsPut_long (t : Int) (A : Option Addr) (n c : Nat) (l : List (List Int)) (w : World) (hn : 64 < n) (hll : l.length = n) (hc : n ≤ c) (hm : c ≤ maxLen) :
    Calls Tryz.prog 143 #[.agg #[.int .i64 t, .slice A n c]] w (RetPS w (satsP t l) (satsE t l)) := by
  have hE : satsE t l = 7 := by unfold satsE; rw [if_pos (by omega)]
  rw [show satsP t l = [] by unfold satsP; rw [hE]; rfl, hE]
  unfold maxLen at hm
  clear hE hll
  obtain ⟨a0, a1, a2, hs, hb⟩ := al3 w (.cells #[.int .i64 t, .slice A n c] 26) (.cells #[.slice none 0 0] 38) (.cells #[.int .i64 0] 41)
  go_enter Tryz.func143, Tryz.ntmps143
  have k0 : (((w.alloc (.cells #[.int .i64 t, .slice A n c] 26)).alloc (.cells #[.slice none 0 0] 38)).alloc (.cells #[.int .i64 0] 41)).cell? ⟨w.heap.size, 1, none⟩ = some (.slice A n c) := blk_cell a0 rfl
  go_wp2_with (with_reducible refine stop_storeT 38 ?_)
  refine go_ ?_
  generalize (((w.alloc (.cells #[.int .i64 t, .slice A n c] 26)).alloc (.cells #[.slice none 0 0] 38)).alloc (.cells #[.int .i64 0] 41)) = w1 at *
  have s1 := blk_cell (i := 0) (v := .slice none 0 0) a1 rfl
  have s2 := blk_free (i := 0) a1
  have b1 := blk_set (i := 0) a1 (.slice none 0 0)
  have b2 := ((Aw.refl (fun k => k = w.heap.size + 1) w1).set (p := ⟨w.heap.size + 1, 0, none⟩) (.slice none 0 0) rfl).keep a2 (by omega)
  have hb2 := hb.setCell (p := ⟨w.heap.size + 1, 0, none⟩) (show w.heap.size ≤ w.heap.size + 1 by omega) (.slice none 0 0)
  have s3 : (w1.setCell ⟨w.heap.size + 1, 0, none⟩ (.slice none 0 0)).cell? ⟨w.heap.size + 2, 0, none⟩ = some (.int .i64 0) := blk_cell b2 rfl
  have s4 := blk_free (i := 0) b2
  have b3 := blk_set (i := 0) b2 (.int .i64 7)
  have b4 := ((Aw.refl (fun k => k = w.heap.size + 2) _).set (p := ⟨w.heap.size + 2, 0, none⟩) (.int .i64 7) rfl).keep b1 (by omega)
  have hb3 := hb2.setCell (p := ⟨w.heap.size + 2, 0, none⟩) (show w.heap.size ≤ w.heap.size + 2 by omega) (.int .i64 7)
  clear hs
  go_wp2
  have hr := results_cells2 (P := Tryz.prog) (fn := Tryz.f143) Tryz.results143
  refine bodyPost_ret (hr _ _ ⟨w.heap.size + 1, 0, none⟩ ⟨w.heap.size + 2, 0, none⟩ (.slice none 0 0) (.int .i64 7) _ _ rfl rfl Tryz.underlying38 rfl Tryz.underlying41 rfl (blk_cell b4 rfl) (blk_cell b3 rfl)) rfl ?_
  exact ⟨none, 0, 0, rfl, World.ownsRow_nil _ _ _ _, hb3⟩

/-- What holds ahead of a round: what has been gathered. -/
def PI (g : Nat) (w : World) (pre : List (List UInt8 × Nat)) (W : World) : Prop :=
  W.heap[g + 1]? = some (.cells #[.slice none 0 0] 38) ∧ W.heap[g + 2]? = some (.cells #[.int .i64 0] 41) ∧ (∀ x ∈ pre, x.2 = 0) ∧ Below g w W ∧
    ∃ A' n' c', W.heap[g + 3]? = some (.cells #[.slice A' n' c'] 38) ∧ W.ownsRow (g + 7) 5 1 (.slice A' n' c') n' (bv (pre.flatMap (·.1)))
def PX (g : Nat) (w : World) (c : Code) (pre : List (List UInt8 × Nat)) (W : World) : Prop :=
  c = .ret ∧ ∃ p x, pre = p ++ [x] ∧ (∀ y ∈ p, y.2 = 0) ∧ x.2 ≠ 0 ∧ W.heap[g + 1]? = some (.cells #[.slice none 0 0] 38) ∧ W.heap[g + 2]? = some (.cells #[.int .i64 (x.2 : Int)] 41) ∧ Below g w W
theorem below_aw {B : Nat} {a A' B' : World} {U : Nat → Prop} (h : Below B a A') (ha : Aw U A' B') (hu : ∀ k, U k → B ≤ k) (hB : B ≤ A'.heap.size) : Below B a B' :=
  ⟨ha.os.trans h.os, ha.tape.trans h.tape, ha.output.trans h.output, Nat.le_trans h.size ha.size, fun k hk => (ha.block k (by omega) (fun hU => by have := hu k hU; omega)).trans (h.block k hk)⟩
set_option maxRecDepth 10000 in
set_option maxHeartbeats 8000000 in
theorem satsPut_few (t : Int) (A : Option Addr) (n c : Nat) (l : List (List Int)) (w : World) (hn : n ≤ 64) (hr : RdR w w.heap.size 7 A n c (l.map saC)) (ht : -9223372036854775808 ≤ t ∧ t ≤ 9223372036854775807) (hl : ∀ s ∈ l, ∀ z ∈ s, -9223372036854775808 ≤ z ∧ z ≤ 9223372036854775807) (hlen : ∀ s ∈ l, s.length = 7) :
    Calls Tryz.prog 143 #[.agg #[.int .i64 t, .slice A n c]] w (RetPS w (satsP t l) (satsE t l)) := by
  have hll : l.length = n := by have := hr.1; simpa using this
  have hle := hr.2.2.1
  have hmx := hr.2.2.2.1
  unfold maxLen at hmx
  obtain ⟨i0, hi⟩ := info_parts u8_info
  have Hi := Lib.hid hi
  have Hll := Lib.hid hll
  have Hl := Lib.hid hl
  have Hlen := Lib.hid hlen
  clear hi hll hl hlen
  obtain ⟨a0, a1, a2, a3, hs, hb⟩ := al4 w (.cells #[.int .i64 t, .slice A n c] 26) (.cells #[.slice none 0 0] 38) (.cells #[.int .i64 0] 41) (.cells #[.slice none 0 0] 38)
  refine (callsIn_wide (n := 9)).1 ?_
  have hro : Fence.wide.round = none := rfl
  refine callsIn_of_wp_marks Tryz.func143 rfl trivial ?_ hro
  simp only [Tryz.ntmps143, List.size_toArray, List.length_cons, List.length_nil, Nat.reduceAdd, Nat.reduceSub, Array.replicate_succ, Array.replicate_zero, List.push_toArray, List.append_toArray, List.nil_append, List.cons_append]
  gi_wp2_with fail
  generalize ((((w.alloc (.cells #[.int .i64 t, .slice A n c] 26)).alloc (.cells #[.slice none 0 0] 38)).alloc (.cells #[.int .i64 0] 41)).alloc (.cells #[.slice none 0 0] 38)) = w1 at *
  refine ⟨trivial, (callsIn_wide.2 (piecesFn_any t A n c w1)).mono ?_⟩
  rintro x w2 ⟨rfl, rfl⟩
  have p4 := heap_alloc_new w1 (.cells #[.int .i64 t, .slice A n c] 26)
  have hbl : Below w1.heap.size w1 (w1.alloc (.cells #[.int .i64 t, .slice A n c] 26)) := (Below.refl _ _).alloc (Nat.le_refl _) _
  have p1 := blk_old a1 hbl (blk_lt a1)
  have p2 := blk_old a2 hbl (blk_lt a2)
  have p3 := blk_old a3 hbl (blk_lt a3)
  have hb2 := bnx hb hbl
  have hs2 : (w1.alloc (.cells #[.int .i64 t, .slice A n c] 26)).heap.size = w.heap.size + 5 := by rw [World.size_alloc, hs]
  rw [hs] at p4
  rw [hs]
  generalize (w1.alloc (.cells #[.int .i64 t, .slice A n c] 26)) = w2 at *
  have hr2 := hr.up hb2
  have Hs2 := Lib.hid hs2
  clear a0 a1 a2 a3 hbl hb hs hs2 w1
  gi_wp2_with fail
  have hs2 := Hs2.out
  refine rangeFunc_R rfl (enters_of Tryz.func149 (by kernel_rfl) rfl) (pieces_seq (w.heap.size + 4) (w.heap.size + 7) t A n c w.heap.size l _ ht Hl.out (by omega) Hlen.out)
    (fun W hW hsz => ⟨hW.keep p4 (fun hk => hk), hr2.keepBlk (fun hn0 a e => by
      obtain ⟨g, off, e', hg, _⟩ := hr2.2.2.2.2 hn0
      rw [e] at e'
      injection e' with e'
      rw [e']
      exact hW.block g (by rw [hs2]; omega) (fun hk => hk)), by rw [hs2] at hsz; omega, by rw [hs2] at hsz; omega⟩)
    (fun x vs W hE => by obtain ⟨A', n', c', e, _⟩ := hE; rw [e]; rfl) (fun x vs A' B' hE hab => hE.keep hab (fun k hk hu => by rw [hs2] at hu; omega)) (fun k hk => hk.elim)
    (fun k hk => by
      rcases hk with rfl | ⟨hn0, a, e, rfl⟩
      · rw [hs2]; omega
      · obtain ⟨g, off, e', hg, _⟩ := hr2.2.2.2.2 hn0
        rw [e] at e'
        injection e' with e'
        rw [e', hs2]
        show g < _
        omega)
    (PI w.heap.size w) (PX w.heap.size w) ?hI ?hIx ?h0 (fun vs => { tmps := #[.agg #[.int .i64 t, .slice A n c], .pointer (some ⟨w.heap.size, 0, none⟩), .pointer (some ⟨w.heap.size + 1, 0, none⟩), .pointer (some ⟨w.heap.size + 2, 0, none⟩), .pointer (some ⟨w.heap.size + 3, 0, none⟩), vs.getD 0 undef, vs.getD 1 undef, .pointer (some ⟨w.heap.size, 1, none⟩), .slice A n c, .int .i64 n, .bool (decide (64 < (n : Int))), .agg #[.int .i64 t, .slice A n c], .func (.func 149) #[] #[.pointer (some ⟨w.heap.size + 4, 0, none⟩)], vs.getD 0 undef, vs.getD 1 undef, undef, undef, undef, undef, undef, undef, undef], defers := [] }) ?assign ?body ?done ?stop
  case hI =>
    rintro pre A' B' ⟨i1, i2, i3, i4, A2, n2, c2, i5, i6⟩ hab
    have hn : ∀ k, (False ∨ k = w2.heap.size ∨ k = w2.heap.size + 1) → w.heap.size + 5 ≤ k ∧ k ≤ w.heap.size + 6 := fun k hk => hk.elim (fun h => h.elim) (fun hk => by rw [hs2] at hk; omega)
    have hA := (blk_lt i5)
    refine ⟨hab.keep i1 (fun hk => by have := hn _ hk; omega), hab.keep i2 (fun hk => by have := hn _ hk; omega), i3, below_aw i4 hab (fun k hk => by have := hn k hk; omega) (by omega), A2, n2, c2, hab.keep i5 (fun hk => by have := hn _ hk; omega), own_aw i6 hab (fun k hk hu => by have := hn _ hu; have := (own_blk i6 hk).1; omega)⟩
  case hIx =>
    rintro cc pre A' B' ⟨rfl, p, x, rfl, i1, i2, i3, i4, i5⟩ hab
    have hn : ∀ k, (False ∨ k = w2.heap.size ∨ k = w2.heap.size + 1) → w.heap.size + 5 ≤ k ∧ k ≤ w.heap.size + 6 := fun k hk => hk.elim (fun h => h.elim) (fun hk => by rw [hs2] at hk; omega)
    have hA := (blk_lt i3)
    exact ⟨rfl, p, x, rfl, i1, i2, hab.keep i3 (fun hk => by have := hn _ hk; omega), hab.keep i4 (fun hk => by have := hn _ hk; omega), below_aw i5 hab (fun k hk => by have := hn k hk; omega) (by omega)⟩
  case h0 => exact ⟨p1, p2, by simp, hb2, none, 0, 0, p3, World.ownsRow_nil _ _ _ _⟩
  case assign =>
    rintro ll x vs W K ⟨A', n', c', rfl, _⟩ hK
    gi_wp2
    exact hK
  case body =>
    rintro pre x vs W ⟨i1, i2, i3, i4, A2, n2, c2, i5, i6⟩ ⟨A', n', c', rfl, hown⟩ hpre hge
    obtain ⟨xb, xe⟩ := x
    simp only at hown
    rw [hs2] at hge
    have hpl := hpre.length_le
    have hlx : xb.length ≤ 12 := pcs_len (l := l) (t := t) (hpre.subset (by simp) : (xb, xe) ∈ pcs t l)
    have hlp := flat_le12 pre (fun y hy => pcs_len (l := l) (t := t) (hpre.subset (by simp [hy])))
    have hlc : (pcs t l).length = n + 1 := by unfold pcs; simp [Hll.out]
    have hn2 := own_len i6
    have hn' := own_len hown
    simp at hpl
    have hsum : n2 + n' ≤ 1000 := by omega
    have Hpre := Lib.hid hpre
    clear hlp hlc hpl hlx hpre hn2 hn'
    by_cases he : xe = 0
    · have he' : (xe : Int) = 0 := by omega
      have c4 : W.cell? ⟨w.heap.size + 3, 0, none⟩ = some (.slice A2 n2 c2) := blk_cell i5 rfl
      gi_wp2_with (with_reducible refine stop_loadI 38 ?_)
      refine go_ (listIn_ (fun ⟨_, _, h⟩ => h) _ (by simp) _ _ ?_)
      go_wp2_with (at_builtin; refine stop_ ?_)
      refine go_ (wpList_appG (base := w.heap.size + 7) (n := n2) Tryz.underlying38 Hi.out rfl (by omega) i6 rfl (Rd.own hown) rfl (bv_one _) (k := n2 + n') rfl (bv_app _ _).symm (by unfold maxLen; omega) (by omega) (by omega) ?_)
      intro A4 c4' w4 hown4 hg4 hob4
      have hA4 := Aw.of_grown hg4
      have hobk : ∀ k, (Value.slice A2 n2 c2).ownBlock = some k → w.heap.size + 7 ≤ k ∧ k < W.heap.size := fun k hk => own_blk i6 hk
      have j1 := hA4.keep i1 (fun hk => by have := hobk _ hk; omega)
      have j2 := hA4.keep i2 (fun hk => by have := hobk _ hk; omega)
      have j5 := hA4.keep i5 (fun hk => by have := hobk _ hk; omega)
      have j4 := below_aw i4 hA4 (fun k hk => by have := hobk k hk; omega) (by omega)
      have s1 := blk_cell (i := 0) (v := .slice A2 n2 c2) j5 rfl
      have s2 := blk_free (i := 0) j5
      clear c4
      go_wp2
      have hA5 : Aw (fun k => k = w.heap.size + 3) w4 (w4.setCell ⟨w.heap.size + 3, 0, none⟩ (.slice A4 (n2 + n') c4')) := (Aw.refl _ _).set _ rfl
      have m1 := hA5.keep j1 (by omega)
      have m2 := hA5.keep j2 (by omega)
      have m5 := blk_set (i := 0) j5 (.slice A4 (n2 + n') c4')
      have m4 := below_aw j4 hA5 (fun k hk => by omega) (by have := hA4.size; omega)
      have mo := own_aw hown4 hA5 (fun k hk hu => by have := (own_blk hown4 hk).1; omega)
      have hkeep : Aw (fun k => (Value.slice A2 n2 c2).ownBlock = some k ∨ k = w.heap.size + 3) W (w4.setCell ⟨w.heap.size + 3, 0, none⟩ (.slice A4 (n2 + n') c4')) := (hA4.mono fun k hk => .inl hk).trans (hA5.mono fun k hk => .inr hk)
      generalize (w4.setCell ⟨w.heap.size + 3, 0, none⟩ (.slice A4 (n2 + n') c4')) = w5 at *
      refine ⟨hkeep.keeps fun k hk hu => ?_, m1, m2, ?_, m4, A4, n2 + n', c4', m5, ?_⟩
      · have h1 : k ≤ w.heap.size + 6 ∧ k ≠ w.heap.size + 3 := by
          rcases hk with (rfl | ⟨hn0, a, e, rfl⟩) | rfl | rfl
          · omega
          · obtain ⟨g, off, e', hg, _⟩ := hr2.2.2.2.2 hn0
            rw [e] at e'
            injection e' with e'
            rw [e']
            show g ≤ _ ∧ g ≠ _
            omega
          · rw [hs2]; omega
          · rw [hs2]; omega
        rcases hu with hu | hu
        · have := hobk _ hu; omega
        · omega
      · intro y hy
        rcases List.mem_append.1 hy with hy | hy
        · exact i3 y hy
        · simp at hy; rw [hy]; exact he
      · rw [List.flatMap_append]
        simpa using mo
    · have he' : ¬ (xe : Int) = 0 := by omega
      have s1 : W.cell? ⟨w.heap.size + 1, 0, none⟩ = some (.slice none 0 0) := blk_cell i1 rfl
      have s2 := blk_free (i := 0) i1
      have b1 := blk_set (i := 0) i1 (.slice none 0 0)
      have hA1 : Aw (fun k => k = w.heap.size + 1) W (W.setCell ⟨w.heap.size + 1, 0, none⟩ (.slice none 0 0)) := (Aw.refl _ _).set _ rfl
      have b2 := hA1.keep i2 (by omega)
      have s3 : (W.setCell ⟨w.heap.size + 1, 0, none⟩ (.slice none 0 0)).cell? ⟨w.heap.size + 2, 0, none⟩ = some (.int .i64 0) := blk_cell b2 rfl
      have s4 := blk_free (i := 0) b2
      have b3 := blk_set (i := 0) b2 (.int .i64 (xe : Int))
      have hA2 : Aw (fun k => k = w.heap.size + 2) _ ((W.setCell ⟨w.heap.size + 1, 0, none⟩ (.slice none 0 0)).setCell ⟨w.heap.size + 2, 0, none⟩ (.int .i64 (xe : Int))) := (Aw.refl _ _).set _ rfl
      have b4 := hA2.keep b1 (by omega)
      have hA3 : Aw (fun k => k = w.heap.size + 1 ∨ k = w.heap.size + 2) W _ := (hA1.mono fun k hk => .inl hk).trans (hA2.mono fun k hk => .inr hk)
      have b5 := below_aw i4 hA3 (fun k hk => by omega) (by omega)
      gi_wp2
      refine ⟨hA3.keeps fun k hk hu => by rw [hs2] at hk; omega, rfl, pre, (xb, xe), rfl, i3, he, b4, b3, b5⟩
  case done =>
    rintro W ⟨i1, i2, i3, i4, A2, n2, c2, i5, i6⟩ hd
    obtain ⟨e1, e2⟩ := pcs_ok (by rw [Hll.out]; exact hn) i3
    rw [e2] at i6
    have E := Lib.hid e1
    have hP : Hid (satsP t l = satsB t l) := Lib.hid (by unfold satsP; rw [if_pos e1])
    clear e1 e2
    have c4 : W.cell? ⟨w.heap.size + 3, 0, none⟩ = some (.slice A2 n2 c2) := blk_cell i5 rfl
    have s1 : W.cell? ⟨w.heap.size + 1, 0, none⟩ = some (.slice none 0 0) := blk_cell i1 rfl
    have s2 := blk_free (i := 0) i1
    have b1 := blk_set (i := 0) i1 (.slice A2 n2 c2)
    have hA1 : Aw (fun k => k = w.heap.size + 1) W (W.setCell ⟨w.heap.size + 1, 0, none⟩ (.slice A2 n2 c2)) := (Aw.refl _ _).set _ rfl
    have b2 := hA1.keep i2 (by omega)
    have s3 : (W.setCell ⟨w.heap.size + 1, 0, none⟩ (.slice A2 n2 c2)).cell? ⟨w.heap.size + 2, 0, none⟩ = some (.int .i64 0) := blk_cell b2 rfl
    have s4 := blk_free (i := 0) b2
    have b3 := blk_set (i := 0) b2 (.int .i64 0)
    have hA2 : Aw (fun k => k = w.heap.size + 2) _ ((W.setCell ⟨w.heap.size + 1, 0, none⟩ (.slice A2 n2 c2)).setCell ⟨w.heap.size + 2, 0, none⟩ (.int .i64 0)) := (Aw.refl _ _).set _ rfl
    have b4 := hA2.keep b1 (by omega)
    have hA3 : Aw (fun k => k = w.heap.size + 1 ∨ k = w.heap.size + 2) W _ := (hA1.mono fun k hk => .inl hk).trans (hA2.mono fun k hk => .inr hk)
    have hlt3 := blk_lt i5
    have b5 := below_aw i4 hA3 (fun k hk => by omega) (by omega)
    have b6 := own_aw i6 hA3 (fun k hk hu => by have := (own_blk i6 hk).1; omega)
    have hd2 := hA3.keep hd (by rw [hs2]; omega)
    clear i1 i2 i3 i4 i5 i6 hA1 hA2 hA3 b1 b2 hlt3
    gi_wp2
    generalize ((W.setCell ⟨w.heap.size + 1, 0, none⟩ (.slice A2 n2 c2)).setCell ⟨w.heap.size + 2, 0, none⟩ (.int .i64 0)) = W1 at *
    refine ⟨by simp, .inl ⟨_, _, rfl, run_takeDeferred hd2, ?_⟩⟩
    have hA7 : Aw (fun k => k = w2.heap.size) W1 (W1.putObj w2.heap.size (.deferred none)) := (Aw.refl _ _).put _ rfl
    have m4 := hA7.keep b4 (by rw [hs2]; omega)
    have m3 := hA7.keep b3 (by rw [hs2]; omega)
    have hlt4 := blk_lt b4
    have m5 := below_aw b5 hA7 (fun k hk => by rw [hs2] at hk; omega) (by omega)
    have m6 := own_aw b6 hA7 (fun k hk hu => by rw [hs2] at hu; have := (own_blk b6 hk).1; omega)
    have hr := results_cells2 (P := Tryz.prog) (fn := Tryz.f143) Tryz.results143
    refine ⟨_, hr _ _ ⟨w.heap.size + 1, 0, none⟩ ⟨w.heap.size + 2, 0, none⟩ (.slice A2 n2 c2) (.int .i64 0) _ _ rfl rfl Tryz.underlying38 rfl Tryz.underlying41 rfl (blk_cell m4 rfl) (blk_cell m3 rfl), ?_⟩
    rw [hP.out, E.out]
    exact ⟨A2, n2, c2, rfl, own_mono m6 (by omega), m5⟩
  case stop =>
    rintro cc pre W hpre ⟨rfl, p, x, rfl, i1, i2, i3, i4, i5⟩ hd
    have E := pcs_err (by rw [Hll.out]; exact hn) hpre i1 i2
    have hP : satsP t l = [] := by unfold satsP; rw [if_neg (by rw [E]; exact i2)]
    gi_wp2
    refine ⟨by simp, .inl ⟨_, _, rfl, run_takeDeferred hd, ?_⟩⟩
    have hA7 : Aw (fun k => k = w2.heap.size) W (W.putObj w2.heap.size (.deferred none)) := (Aw.refl _ _).put _ rfl
    have m4 := hA7.keep i3 (by rw [hs2]; omega)
    have m3 := hA7.keep i4 (by rw [hs2]; omega)
    have hlt4 := blk_lt i3
    have m5 := below_aw i5 hA7 (fun k hk => by rw [hs2] at hk; omega) (by omega)
    have hr := results_cells2 (P := Tryz.prog) (fn := Tryz.f143) Tryz.results143
    refine ⟨_, hr _ _ ⟨w.heap.size + 1, 0, none⟩ ⟨w.heap.size + 2, 0, none⟩ (.slice none 0 0) (.int .i64 (x.2 : Int)) _ _ rfl rfl Tryz.underlying38 rfl Tryz.underlying41 rfl (blk_cell m4 rfl) (blk_cell m3 rfl), ?_⟩
    rw [hP, E]
    exact ⟨none, 0, 0, rfl, World.ownsRow_nil _ _ _ _, m5⟩
theorem satsPut_any (t : Int) (A : Option Addr) (n c : Nat) (l : List (List Int)) (w : World) (hr : RdR w w.heap.size 7 A n c (l.map saC)) (ht : -9223372036854775808 ≤ t ∧ t ≤ 9223372036854775807) (hl : ∀ s ∈ l, ∀ z ∈ s, -9223372036854775808 ≤ z ∧ z ≤ 9223372036854775807) (hlen : ∀ s ∈ l, s.length = 7) :
    Calls Tryz.prog 143 #[.agg #[.int .i64 t, .slice A n c]] w (RetPS w (satsP t l) (satsE t l)) := by
  by_cases h : 64 < n
  · exact satsPut_long t A n c l w h (by have := hr.1; simpa using this) hr.2.2.1 hr.2.2.2.1
  · exact satsPut_few t A n c l w (by omega) hr ht hl hlen

end Go.Proofs.YtmkidihcdljkiaaGreat
