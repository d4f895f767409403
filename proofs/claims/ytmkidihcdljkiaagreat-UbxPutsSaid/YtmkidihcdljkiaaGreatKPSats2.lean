/-
  sats.pieces: the iterator that tells a message's pieces, walked (printed by gen_sats2.py).
-/
import Derived.Test.YtmkidihcdljkiaaGreatKPGS
import Derived.Test.YtmkidihcdljkiaaGreatKPGB
import Derived.Test.YtmkidihcdljkiaaGreatKPGA
set_option linter.unusedSimpArgs false
set_option linter.unusedVariables false
namespace Go.Proofs.YtmkidihcdljkiaaGreat
open Go.RowKit Go.Shelf NumLaw
attribute [local go_sem] Oper.semAt_some Addr.add_mid

/-- A message's pieces: the bytes, the error. -/
def pcs (t : Int) (l : List (List Int)) : List (List UInt8 × Nat) := (shP headF (hdV t l), shE headF (hdV t l)) :: l.map fun s => (shP satF s, shE satF s)
/-- What is handed to yield for a piece. -/
def PE (base : Nat) (x : List UInt8 × Nat) (vs : Array Value) (W : World) : Prop := ∃ A n c, vs = #[.slice A n c, .int .i64 (x.2 : Int)] ∧ W.ownsRow base 5 1 (.slice A n c) n (bv x.1)
theorem PE.keep {base : Nat} {x : List UInt8 × Nat} {vs : Array Value} {A B : World} {U : Nat → Prop} (h : PE base x vs A) (ha : Aw U A B) (hu : ∀ k, base ≤ k → ¬ U k) : PE base x vs B := by
  obtain ⟨A', n, c, e, hown⟩ := h
  exact ⟨A', n, c, e, own_aw hown ha (fun k hk => hu k (own_blk hown hk).1)⟩
theorem RdR.keepBlk {w w' : World} {B size n c : Nat} {A : Option Addr} {ls : List (List Value)} (h : RdR w B size A n c ls) (hk : 0 < n → ∀ a, A = some a → w'.heap[a.block]? = w.heap[a.block]?) : RdR w' B size A n c ls :=
  ⟨h.1, h.2.1, h.2.2.1, h.2.2.2.1, fun hn => by
    obtain ⟨g, off, e, hg, hr⟩ := h.2.2.2.2 hn
    exact ⟨g, off, e, hg, fun k r hx j v hv => by
      have := hr k r hx j v hv
      rw [World.cell?] at this ⊢
      rw [show (⟨g, off + k * size + j, none⟩ : Addr).block = g from rfl] at this ⊢
      rw [hk hn _ e]
      exact this⟩⟩
theorem pcs_take (t : Int) (l : List (List Int)) (k : Nat) (s : List Int) (h : l[k]? = some s) : (pcs t l).take (k + 1 + 1) = (pcs t l).take (k + 1) ++ [(shP satF s, shE satF s)] := by
  refine take_succ ?_
  unfold pcs
  rw [List.getElem?_cons_succ, List.getElem?_map, h]
  rfl

set_option maxRecDepth 10000 in
set_option maxHeartbeats 8000000 in
theorem pieces_seq (g0 base : Nat) (t : Int) (A : Option Addr) (n c B : Nat) (l : List (List Int)) (m : Nat) (ht : -9223372036854775808 ≤ t ∧ t ≤ 9223372036854775807) (hl : ∀ s ∈ l, ∀ z ∈ s, -9223372036854775808 ≤ z ∧ z ≤ 9223372036854775807) (hn : n ≤ 100000) (hlen : ∀ s ∈ l, s.length = 7) :
    SeqR Tryz.prog m 149 #[.pointer (some ⟨g0, 0, none⟩)] (PE base) (fun k => k = g0 ∨ (0 < n ∧ ∃ a, A = some a ∧ a.block = k)) (fun _ => False) (pcs t l)
      (fun W => W.heap[g0]? = some (.cells #[.int .i64 t, .slice A n c] 26) ∧ RdR W B 7 A n c (l.map saC) ∧ B ≤ W.heap.size ∧ base ≤ W.heap.size) := by
  rintro l0 J Jx W ⟨h1, h2, h3, h4⟩ hJ hJx hY h0
  have hro : Fence.wide.round = none := rfl
  have hll : l.length = n := by have := h2.1; simpa using this
  have hvb : ∀ z ∈ hdV t l, -9223372036854775808 ≤ z ∧ z ≤ 9223372036854775807 := by
    intro z hz
    simp only [hdV, List.mem_cons, List.not_mem_nil, or_false] at hz
    rcases hz with rfl | rfl | rfl | rfl
    · exact ht
    · omega
    · omega
    · omega
  have hlv : hdV t l = [t, 1, (n : Int), 0] := by unfold hdV; rw [hll]
  have hp0 : ([] : List (List UInt8 × Nat)) ++ [(shP headF (hdV t l), shE headF (hdV t l))] <+: pcs t l := ⟨l.map fun s => (shP satF s, shE satF s), rfl⟩
  have Hll := Lib.hid hll
  have Hvb := Lib.hid hvb
  have Hlv := Lib.hid hlv
  have Hp0 := Lib.hid hp0
  have Hl := Lib.hid hl
  have Hlen := Lib.hid hlen
  have c0 : W.cell? ⟨g0, 0, none⟩ = some (.int .i64 t) := blk_cell h1 rfl
  have c1 : W.cell? ⟨g0, 1, none⟩ = some (.slice A n c) := blk_cell h1 rfl
  have hle := h2.2.2.1
  have hmx := h2.2.2.2.1
  unfold maxLen at hmx
  clear hll hvb hlv hl hlen hp0
  refine callsIn_of_wp Tryz.func149 rfl trivial ?_ hro
  simp only [Tryz.ntmps149, List.size_toArray, List.length_cons, List.length_nil, Nat.reduceAdd, Nat.reduceSub, Array.replicate_succ, Array.replicate_zero, List.push_toArray, List.append_toArray, List.nil_append, List.cons_append]
  gi_wp2_with fail
  refine OrdY.region_m [1, 7] [[0, 2, 3, 4, 5, 6, 1, 7, 8, 9, 10, 11, 12], [0, 2, 3, 4, 5, 6, 7, 1, 8, 9, 10, 11, 12]] (fun _ => True) true [8, 10, 16] (by kernel_rfl) (by kernel_rfl) trivial ?_
  have hb0 : Below W.heap.size W W.drew := (Below.refl _ _).drew
  replace h1 : W.drew.heap[g0]? = _ := h1
  replace c0 : W.drew.cell? ⟨g0, 0, none⟩ = some (.int .i64 t) := c0
  replace c1 : W.drew.cell? ⟨g0, 1, none⟩ = some (.slice A n c) := c1
  replace h2 := h2.up (hb0.mono h3)
  replace h0 := hJ _ _ _ h0 (Aw.of_below' (U := fun _ => False) hb0)
  replace h4 := Nat.le_trans h4 hb0.size
  replace h3 := Nat.le_trans h3 hb0.size
  generalize W.drew = w1 at *
  clear hb0 W
  intro L hL
  simp only [List.mem_cons, List.not_mem_nil, or_false] at hL
  rcases hL with rfl | rfl
  · simp only [Ord.lst, List.filterMap_cons, List.filterMap_nil, List.getElem?_toArray, List.getElem?_cons_succ, List.getElem?_cons_zero]
    ((with_reducible refine OrdY.e_p (v := ?_) ?_ ?_ ?_ ?_); rotate_left; (· exact rfl); (· kernel_rfl); (· intro w2; go_simp; try with_reducible rfl))
    (try simp only [Act.put, List.setIfInBounds_toArray, List.set_cons_zero, List.set_cons_succ])
    ((with_reducible refine OrdY.e_p (v := ?_) ?_ ?_ ?_ ?_); rotate_left; (· exact rfl); (· kernel_rfl); (· intro w2; go_simp; try with_reducible rfl))
    (try simp only [Act.put, List.setIfInBounds_toArray, List.set_cons_zero, List.set_cons_succ])
    refine OrdY.e_load Tryz.underlying2 rfl c0 rfl (by kernel_rfl) (by kernel_rfl) ?_
    (try simp only [Act.put, List.setIfInBounds_toArray, List.set_cons_zero, List.set_cons_succ])
    ((with_reducible refine OrdY.e_p (v := ?_) ?_ ?_ ?_ ?_); rotate_left; (· exact rfl); (· kernel_rfl); (· intro w2; go_simp; try with_reducible rfl))
    (try simp only [Act.put, List.setIfInBounds_toArray, List.set_cons_zero, List.set_cons_succ])
    refine OrdY.e_load Tryz.underlying24 rfl c1 rfl (by kernel_rfl) (by kernel_rfl) ?_
    (try simp only [Act.put, List.setIfInBounds_toArray, List.set_cons_zero, List.set_cons_succ])
    ((with_reducible refine OrdY.e_p (v := ?_) ?_ ?_ ?_ ?_); rotate_left; (· exact rfl); (· kernel_rfl); (· intro w2; go_simp; try with_reducible rfl))
    (try simp only [Act.put, List.setIfInBounds_toArray, List.set_cons_zero, List.set_cons_succ])
    clear c0 c1
    refine OrdY.e_x rfl (by kernel_rfl) ?_
    go_wp2_with fail
    go_fit (satsHead_any _)
    rintro e w2 ⟨Af, nf, cf, rfl, hnf, hrf, hbf⟩
    go_wp2_with fail
    refine OrdY.Seg.go trivial (fun _ => hbf) ?_
    (try simp only [Act.put, List.setIfInBounds_toArray, List.set_cons_zero, List.set_cons_succ])
    refine OrdY.e_x rfl (by kernel_rfl) ?_
    go_wp2
    have hrn : Rd (w2.alloc (.cells #[.int .i64 t, .int .i64 1, .int .i64 n, .int .i64 0] 2)) (w2.heap.size + 1) 1 (some ⟨w2.heap.size, 0, none⟩) 4 4 ([t, 1, (n : Int), 0].map (Value.int .i64)) := rd_lit' w2 2 [.int .i64 t, .int .i64 1, .int .i64 n, .int .i64 0] (by simp [maxLen])
    have hbn : Below w2.heap.size w2 (w2.alloc (.cells #[.int .i64 t, .int .i64 1, .int .i64 n, .int .i64 0] 2)) := (Below.refl _ _).alloc (Nat.le_refl _) _
    have hsn : (w2.alloc (.cells #[.int .i64 t, .int .i64 1, .int .i64 n, .int .i64 0] 2)).heap.size = w2.heap.size + 1 := World.size_alloc _ _
    refine OrdY.Seg.go trivial (fun _ => hbn) ?_
    (try simp only [Act.put, List.setIfInBounds_toArray, List.set_cons_zero, List.set_cons_succ])
    generalize (w2.alloc (.cells #[.int .i64 t, .int .i64 1, .int .i64 n, .int .i64 0] 2)) = w3 at *
    have Hsn := Lib.hid hsn
    clear hsn
    have hb3 : Below w1.heap.size w1 w3 := bnx hbf hbn
    have hrf' := hrf.up hbn
    have hrn' := hrn
    have hsz3 : w2.heap.size ≤ w3.heap.size := hbn.size
    clear hbf hbn hrf hrn
    refine OrdY.e_x rfl (by kernel_rfl) ?_
    go_wp2_with fail
    go_fit (shPut_any Af nf cf w2.heap.size headF (some ⟨w2.heap.size, 0, none⟩) 4 4 (w2.heap.size + 1) [t, 1, (n : Int), 0] w3 hrf' hsz3 hrn' (by rw [Hsn.out]; omega) (by omega) (by rw [← Hlv.out]; exact Hvb.out))
    rw [← Hlv.out]
    rintro e w4 ⟨Ap, np, cp, rfl, hown, hb34⟩
    have hb4 := bnx hb3 hb34
    clear hsz3
    have h2' := h2.up (hb4.mono h3)
    have hg' := blk_old h1 hb4 (blk_lt h1)
    have hJ4 := hJ _ _ _ h0 (Aw.of_below' (U := fun _ => False) hb4)
    have h4' := Nat.le_trans h4 hb4.size
    have h3' := Nat.le_trans h3 hb4.size
    have hown' := own_mono hown (base' := base) (by have := hb3.size; omega)
    clear hown hb4 hb3 hrf' hrn' h1 h2 h0
    go_wp2_with fail
    refine OrdY.Seg.go trivial (fun _ => hb34) ?_
    (try simp only [Act.put, List.setIfInBounds_toArray, List.set_cons_zero, List.set_cons_succ])
    clear hb34 h3 h4
    ((with_reducible refine OrdY.e_p (v := ?_) ?_ ?_ ?_ ?_); rotate_left; (· exact rfl); (· kernel_rfl); (· intro w2; go_simp; try with_reducible rfl))
    (try simp only [Act.put, List.setIfInBounds_toArray, List.set_cons_zero, List.set_cons_succ])
    ((with_reducible refine OrdY.e_p (v := ?_) ?_ ?_ ?_ ?_); rotate_left; (· exact rfl); (· kernel_rfl); (· intro w2; go_simp; try with_reducible rfl))
    (try simp only [Act.put, List.setIfInBounds_toArray, List.set_cons_zero, List.set_cons_succ])
    have hy := hY [] _ #[.slice Ap np cp, .int .i64 (shE headF (hdV t l) : Int)] w4 hJ4 Hp0.out ⟨Ap, np, cp, rfl, hown'⟩
    refine OrdY.e_y rfl (by kernel_rfl) (by go_simp) hy ?_
    rintro e w5 (⟨rfl, hJ5, hk5⟩ | ⟨rfl, hx5⟩)
    · have g5 := hk5.2 _ _ (.inl rfl) hg'
      have r5 : RdR w5 B 7 A n c (l.map saC) := h2'.keepBlk (fun hn0 a e => by
        have hlt : a.block < w4.heap.size := by
          obtain ⟨g, off, e', hg, _⟩ := h2'.2.2.2.2 hn0
          rw [e] at e'
          injection e' with e'
          rw [e']
          exact Nat.lt_of_lt_of_le hg h3'
        obtain ⟨o, ho⟩ : ∃ o, w4.heap[a.block]? = some o := ⟨_, Array.getElem?_eq_getElem hlt⟩
        rw [ho]
        exact hk5.2 _ _ (.inr ⟨hn0, a, e, rfl⟩) ho)
      have s5 := Nat.le_trans h4' hk5.1
      have b5 := Nat.le_trans h3' hk5.1
      refine ⟨_, rfl, ⟨trivial, fun h => by cases h⟩, ?_⟩
      (try simp only [Act.put, List.setIfInBounds_toArray, List.set_cons_zero, List.set_cons_succ])
      clear hg' h2' hJ4 h4' h3' hown' hk5 hy
      ((with_reducible refine OrdY.e_p (v := ?_) ?_ ?_ ?_ ?_); rotate_left; (· exact rfl); (· kernel_rfl); (· intro w2; go_simp; try with_reducible rfl))
      (try simp only [Act.put, List.setIfInBounds_toArray, List.set_cons_zero, List.set_cons_succ])
      refine OrdY.e_nil ?_
      have k1 : w5.cell? ⟨g0, 1, none⟩ = some (.slice A n c) := blk_cell g5 rfl
      have ht1 : (pcs t l).take 1 = [(shP headF (hdV t l), shE headF (hdV t l))] := rfl
      rw [List.nil_append, ← ht1] at hJ5
      clear ht1
      gi_wp2_with fail
      clear k1
      gi_loopw [21] (fun i wr => ∃ k : Nat, k ≤ n ∧ i = .int .i64 k ∧ J ((pcs t l).take (k + 1)) wr ∧ wr.heap[g0]? = some (.cells #[.int .i64 t, .slice A n c] 26) ∧ RdR wr B 7 A n c (l.map saC) ∧ B ≤ wr.heap.size ∧ base ≤ wr.heap.size) (fun i wr => n - (intOf i).toNat)
      case atStart => exact ⟨0, by omega, rfl, hJ5, g5, r5, b5, s5⟩
      case round =>
        clear hJ5 g5 r5 s5 b5 w5
        obtain ⟨k, hk, rfl, hj, hg, hr, hB, hbase⟩ := hrel
        by_cases hlt : k < n
        · obtain ⟨g1, off, rr, hA, hg1, hx, hrl, hrow⟩ := hr.at_ hlt
          obtain ⟨s, hs, rfl⟩ : ∃ s, l[k]? = some s ∧ saC s = rr := by simpa using hx
          have hs7 := Hlen.out s (List.mem_of_getElem? hs)
          have hsb := Hl.out s (List.mem_of_getElem? hs)
          have hpt := pcs_take t l k s hs
          have hpx : (pcs t l).take (k + 1) ++ [(shP satF s, shE satF s)] <+: pcs t l := by rw [← hpt]; exact List.take_prefix _ _
          obtain ⟨oP, hoP⟩ : ∃ p, p = shP satF s := ⟨_, rfl⟩
          obtain ⟨oE, hoE⟩ : ∃ p, p = shE satF s := ⟨_, rfl⟩
          rw [← hoP, ← hoE] at hpt hpx
          obtain ⟨x0, x1, x2, x3, x4, x5, x6, rfl⟩ := len7 s hs7
          have q0 : wr.cell? ⟨g1, off + k * 7, none⟩ = some (.int .i64 x0) := hrow 0 _ rfl
          have q1 : wr.cell? ⟨g1, off + k * 7 + 1, none⟩ = some (.int .i64 x1) := hrow 1 _ rfl
          have q2 : wr.cell? ⟨g1, off + k * 7 + 2, none⟩ = some (.int .i64 x2) := hrow 2 _ rfl
          have q3 : wr.cell? ⟨g1, off + k * 7 + 3, none⟩ = some (.int .i64 x3) := hrow 3 _ rfl
          have q4 : wr.cell? ⟨g1, off + k * 7 + 4, none⟩ = some (.int .i64 x4) := hrow 4 _ rfl
          have q5 : wr.cell? ⟨g1, off + k * 7 + 5, none⟩ = some (.int .i64 x5) := hrow 5 _ rfl
          have q6 : wr.cell? ⟨g1, off + k * 7 + 6, none⟩ = some (.int .i64 x6) := hrow 6 _ rfl
          have Hsb := Lib.hid hsb
          have Hpt := Lib.hid hpt
          have Hpx := Lib.hid hpx
          have HoP := Lib.hid hoP
          have HoE := Lib.hid hoE
          have hA' := hA
          have HA := Lib.hid hA
          have hbx : Below wr.heap.size wr (wr.alloc (.cells #[.int .i64 x0, .int .i64 x1, .int .i64 x2, .int .i64 x3, .int .i64 x4, .int .i64 x5, .int .i64 x6] 99)) := (Below.refl _ _).alloc (Nat.le_refl _) _
          have hbox := heap_alloc_new wr (.cells #[.int .i64 x0, .int .i64 x1, .int .i64 x2, .int .i64 x3, .int .i64 x4, .int .i64 x5, .int .i64 x6] 99)
          clear hs hx hrow hrl hs7 hsb hpt hpx hoP hoE hA
          subst hA'
          gi_wp2_with fail
          clear q0 q1 q2 q3 q4 q5 q6
          generalize (wr.alloc (.cells #[.int .i64 x0, .int .i64 x1, .int .i64 x2, .int .i64 x3, .int .i64 x4, .int .i64 x5, .int .i64 x6] 99)) = v1 at *
          refine OrdY.region_at [0, 2, 1, 3, 4, 5, 6, 7, 8] (fun _ => True) true [27, 32] (by kernel_rfl) (by kernel_rfl) rfl trivial ?_
          simp only [Ord.lst, List.filterMap_cons, List.filterMap_nil, List.getElem?_toArray, List.getElem?_cons_succ, List.getElem?_cons_zero]
          replace hbx := hbx.drew
          replace hbox : v1.drew.heap[wr.heap.size]? = _ := hbox
          generalize v1.drew = v2 at *
          have hrow : v2.rangeAt wr.heap.size 0 (saC [x0, x1, x2, x3, x4, x5, x6]) := own_range hbox 0 (fun j v hv => by simpa [saC] using hv)
          ((with_reducible refine OrdY.e_p (v := ?_) ?_ ?_ ?_ ?_); rotate_left; (· exact rfl); (· kernel_rfl); (· intro w2; go_simp; try with_reducible rfl))
          (try simp only [Act.put, List.setIfInBounds_toArray, List.set_cons_zero, List.set_cons_succ])
          refine OrdY.e_row (cs := saC [x0, x1, x2, x3, x4, x5, x6]) Tryz.underlying99 rfl (by kernel_rfl) rfl hrow (by kernel_rfl) (by kernel_rfl) ?_
          (try simp only [Act.put, List.setIfInBounds_toArray, List.set_cons_zero, List.set_cons_succ])
          clear hrow hbox
          refine OrdY.e_x rfl (by kernel_rfl) ?_
          go_wp2_with fail
          go_fit (satsShape_any _)
          rintro e v3 ⟨Af2, nf2, cf2, rfl, hnf2, hrf2, hb23⟩
          have hb3 := bnx hbx hb23
          go_wp2_with fail
          refine OrdY.Seg.go trivial (fun _ => hb23) ?_
          (try simp only [Act.put, List.setIfInBounds_toArray, List.set_cons_zero, List.set_cons_succ])
          clear hbx hb23
          refine OrdY.e_x rfl (by kernel_rfl) ?_
          go_wp2_with fail
          go_fit (satsvalues_any [x0, x1, x2, x3, x4, x5, x6] rfl v3)
          rintro e v4 ⟨Av, nv, cv, rfl, hownv, hb34⟩
          have hb4 := bnx hb3 hb34
          have hrv := Rd.own hownv
          have hrf4 := hrf2.up hb34
          have hle34 := hb34.size
          obtain rfl : nv = 7 := by have h := hownv.1; simp at h; omega
          go_wp2_with fail
          refine OrdY.Seg.go trivial (fun _ => hb34) ?_
          (try simp only [Act.put, List.setIfInBounds_toArray, List.set_cons_zero, List.set_cons_succ])
          clear hb3 hb34 hrf2 hownv
          refine OrdY.e_x rfl (by kernel_rfl) ?_
          go_wp2_with fail
          go_fit (shPut_any Af2 nf2 cf2 v3.heap.size satF Av 7 cv v4.heap.size [x0, x1, x2, x3, x4, x5, x6] v4 hrf4 hle34 hrv (Nat.le_refl _) (by omega) Hsb.out)
          rw [← HoP.out, ← HoE.out]
          rintro e v5 ⟨Aq, nq, cq, rfl, hownq, hb45⟩
          have hb5 := bnx hb4 hb45
          have g6 := blk_old hg hb5 (blk_lt hg)
          have r6 := hr.up (hb5.mono hB)
          have j6 := hJ _ _ _ hj (Aw.of_below' (U := fun _ => False) hb5)
          have B6 := Nat.le_trans hB hb5.size
          have s6 := Nat.le_trans hbase hb5.size
          have hownq' := own_mono hownq (base' := base) (by have := hb4.size; omega)
          go_wp2_with fail
          refine OrdY.Seg.go trivial (fun _ => hb45) ?_
          (try simp only [Act.put, List.setIfInBounds_toArray, List.set_cons_zero, List.set_cons_succ])
          clear hg hr hj hB hbase hownq hb4 hb45 hb5 hrv hrf4 hle34
          ((with_reducible refine OrdY.e_p (v := ?_) ?_ ?_ ?_ ?_); rotate_left; (· exact rfl); (· kernel_rfl); (· intro w2; go_simp; try with_reducible rfl))
          (try simp only [Act.put, List.setIfInBounds_toArray, List.set_cons_zero, List.set_cons_succ])
          ((with_reducible refine OrdY.e_p (v := ?_) ?_ ?_ ?_ ?_); rotate_left; (· exact rfl); (· kernel_rfl); (· intro w2; go_simp; try with_reducible rfl))
          (try simp only [Act.put, List.setIfInBounds_toArray, List.set_cons_zero, List.set_cons_succ])
          have hy := hY _ _ #[.slice Aq nq cq, .int .i64 (oE : Int)] v5 j6 Hpx.out ⟨Aq, nq, cq, rfl, hownq'⟩
          refine OrdY.e_y rfl (by kernel_rfl) (by go_simp) hy ?_
          rintro e v6 (⟨rfl, hJ7, hk7⟩ | ⟨rfl, hx7⟩)
          · have g7 := hk7.2 _ _ (.inl rfl) g6
            have r7 : RdR v6 B 7 (some ⟨g1, off, none⟩) n c (l.map saC) := r6.keepBlk (fun _ a e => by
              injection e with e
              subst e
              obtain ⟨o, ho⟩ : ∃ o, v5.heap[g1]? = some o := ⟨_, Array.getElem?_eq_getElem (Nat.lt_of_lt_of_le hg1 B6)⟩
              rw [ho]
              exact hk7.2 _ _ (.inr ⟨by omega, _, rfl, rfl⟩) ho)
            have s7 := Nat.le_trans s6 hk7.1
            have b7 := Nat.le_trans B6 hk7.1
            rw [← Hpt.out] at hJ7
            refine ⟨_, rfl, ⟨trivial, fun h => by cases h⟩, ?_⟩
            (try simp only [Act.put, List.setIfInBounds_toArray, List.set_cons_zero, List.set_cons_succ])
            clear g6 r6 j6 s6 B6 hownq' hk7 hy
            ((with_reducible refine OrdY.e_p (v := ?_) ?_ ?_ ?_ ?_); rotate_left; (· exact rfl); (· kernel_rfl); (· intro w2; go_simp; try with_reducible rfl))
            (try simp only [Act.put, List.setIfInBounds_toArray, List.set_cons_zero, List.set_cons_succ])
            refine OrdY.e_nil ?_
            gi_wp2
            go_roundw
            case rel => exact ⟨k + 1, by omega, by go_num, hJ7, g7, r7, b7, s7⟩
            case measure => simp [intOf]; omega
          · refine ⟨_, rfl, ⟨trivial, fun h => by cases h⟩, ?_⟩
            (try simp only [Act.put, List.setIfInBounds_toArray, List.set_cons_zero, List.set_cons_succ])
            ((with_reducible refine OrdY.e_p (v := ?_) ?_ ?_ ?_ ?_); rotate_left; (· exact rfl); (· kernel_rfl); (· intro w2; go_simp; try with_reducible rfl))
            (try simp only [Act.put, List.setIfInBounds_toArray, List.set_cons_zero, List.set_cons_succ])
            refine OrdY.e_nil ?_
            clear g6 r6 j6 s6 B6 hownq' hy
            gi_wp2
            refine bodyPost_ret (results_none rfl _ _ _) rfl ?_
            exact ⟨⟨_, rfl⟩, .inr ⟨_, Hpx.out, hx7⟩⟩
        · obtain rfl : k = n := by omega
          have ht : (pcs t l).take (k + 1) = pcs t l := List.take_of_length_le (by have := Hll.out; simp [pcs]; omega)
          rw [ht] at hj
          gi_wp2
          go_end0
          exact ⟨⟨_, rfl⟩, .inl hj⟩
    · refine ⟨_, rfl, ⟨trivial, fun h => by cases h⟩, ?_⟩
      (try simp only [Act.put, List.setIfInBounds_toArray, List.set_cons_zero, List.set_cons_succ])
      ((with_reducible refine OrdY.e_p (v := ?_) ?_ ?_ ?_ ?_); rotate_left; (· exact rfl); (· kernel_rfl); (· intro w2; go_simp; try with_reducible rfl))
      (try simp only [Act.put, List.setIfInBounds_toArray, List.set_cons_zero, List.set_cons_succ])
      refine OrdY.e_nil ?_
      clear hg' h2' hJ4 h4' h3' hown' hy
      gi_wp2
      refine bodyPost_ret (results_none rfl _ _ _) rfl ?_
      exact ⟨⟨_, rfl⟩, .inr ⟨_, Hp0.out, hx5⟩⟩
  · simp only [Ord.lst, List.filterMap_cons, List.filterMap_nil, List.getElem?_toArray, List.getElem?_cons_succ, List.getElem?_cons_zero]
    ((with_reducible refine OrdY.e_p (v := ?_) ?_ ?_ ?_ ?_); rotate_left; (· exact rfl); (· kernel_rfl); (· intro w2; go_simp; try with_reducible rfl))
    (try simp only [Act.put, List.setIfInBounds_toArray, List.set_cons_zero, List.set_cons_succ])
    ((with_reducible refine OrdY.e_p (v := ?_) ?_ ?_ ?_ ?_); rotate_left; (· exact rfl); (· kernel_rfl); (· intro w2; go_simp; try with_reducible rfl))
    (try simp only [Act.put, List.setIfInBounds_toArray, List.set_cons_zero, List.set_cons_succ])
    refine OrdY.e_load Tryz.underlying2 rfl c0 rfl (by kernel_rfl) (by kernel_rfl) ?_
    (try simp only [Act.put, List.setIfInBounds_toArray, List.set_cons_zero, List.set_cons_succ])
    ((with_reducible refine OrdY.e_p (v := ?_) ?_ ?_ ?_ ?_); rotate_left; (· exact rfl); (· kernel_rfl); (· intro w2; go_simp; try with_reducible rfl))
    (try simp only [Act.put, List.setIfInBounds_toArray, List.set_cons_zero, List.set_cons_succ])
    refine OrdY.e_load Tryz.underlying24 rfl c1 rfl (by kernel_rfl) (by kernel_rfl) ?_
    (try simp only [Act.put, List.setIfInBounds_toArray, List.set_cons_zero, List.set_cons_succ])
    ((with_reducible refine OrdY.e_p (v := ?_) ?_ ?_ ?_ ?_); rotate_left; (· exact rfl); (· kernel_rfl); (· intro w2; go_simp; try with_reducible rfl))
    (try simp only [Act.put, List.setIfInBounds_toArray, List.set_cons_zero, List.set_cons_succ])
    clear c0 c1
    refine OrdY.e_x rfl (by kernel_rfl) ?_
    go_wp2
    have hrn : Rd (w1.alloc (.cells #[.int .i64 t, .int .i64 1, .int .i64 n, .int .i64 0] 2)) (w1.heap.size + 1) 1 (some ⟨w1.heap.size, 0, none⟩) 4 4 ([t, 1, (n : Int), 0].map (Value.int .i64)) := rd_lit' w1 2 [.int .i64 t, .int .i64 1, .int .i64 n, .int .i64 0] (by simp [maxLen])
    have hbn : Below w1.heap.size w1 (w1.alloc (.cells #[.int .i64 t, .int .i64 1, .int .i64 n, .int .i64 0] 2)) := (Below.refl _ _).alloc (Nat.le_refl _) _
    have hsn : (w1.alloc (.cells #[.int .i64 t, .int .i64 1, .int .i64 n, .int .i64 0] 2)).heap.size = w1.heap.size + 1 := World.size_alloc _ _
    refine OrdY.Seg.go trivial (fun _ => hbn) ?_
    (try simp only [Act.put, List.setIfInBounds_toArray, List.set_cons_zero, List.set_cons_succ])
    generalize (w1.alloc (.cells #[.int .i64 t, .int .i64 1, .int .i64 n, .int .i64 0] 2)) = w2 at *
    have Hsn := Lib.hid hsn
    clear hsn
    refine OrdY.e_x rfl (by kernel_rfl) ?_
    go_wp2_with fail
    go_fit (satsHead_any _)
    rintro e w3 ⟨Af, nf, cf, rfl, hnf, hrf, hbf⟩
    go_wp2_with fail
    refine OrdY.Seg.go trivial (fun _ => hbf) ?_
    (try simp only [Act.put, List.setIfInBounds_toArray, List.set_cons_zero, List.set_cons_succ])
    have hb3 : Below w1.heap.size w1 w3 := bnx hbn hbf
    have hrn' := hrn.up (hbf.mono (by rw [Hsn.out]; exact Nat.le_refl _))
    have hrf' := hrf
    have hsz3 : w1.heap.size + 1 ≤ w3.heap.size := by rw [← Hsn.out]; exact hbf.size
    clear hbf hbn hrf hrn
    refine OrdY.e_x rfl (by kernel_rfl) ?_
    go_wp2_with fail
    go_fit (shPut_any Af nf cf w3.heap.size headF (some ⟨w1.heap.size, 0, none⟩) 4 4 (w1.heap.size + 1) [t, 1, (n : Int), 0] w3 hrf' (Nat.le_refl _) hrn' hsz3 (by omega) (by rw [← Hlv.out]; exact Hvb.out))
    rw [← Hlv.out]
    rintro e w4 ⟨Ap, np, cp, rfl, hown, hb34⟩
    have hb4 := bnx hb3 hb34
    clear hsz3
    have h2' := h2.up (hb4.mono h3)
    have hg' := blk_old h1 hb4 (blk_lt h1)
    have hJ4 := hJ _ _ _ h0 (Aw.of_below' (U := fun _ => False) hb4)
    have h4' := Nat.le_trans h4 hb4.size
    have h3' := Nat.le_trans h3 hb4.size
    have hown' := own_mono hown (base' := base) (by have := hb3.size; omega)
    clear hown hb4 hb3 hrf' hrn' h1 h2 h0
    go_wp2_with fail
    refine OrdY.Seg.go trivial (fun _ => hb34) ?_
    (try simp only [Act.put, List.setIfInBounds_toArray, List.set_cons_zero, List.set_cons_succ])
    clear hb34 h3 h4
    ((with_reducible refine OrdY.e_p (v := ?_) ?_ ?_ ?_ ?_); rotate_left; (· exact rfl); (· kernel_rfl); (· intro w2; go_simp; try with_reducible rfl))
    (try simp only [Act.put, List.setIfInBounds_toArray, List.set_cons_zero, List.set_cons_succ])
    ((with_reducible refine OrdY.e_p (v := ?_) ?_ ?_ ?_ ?_); rotate_left; (· exact rfl); (· kernel_rfl); (· intro w2; go_simp; try with_reducible rfl))
    (try simp only [Act.put, List.setIfInBounds_toArray, List.set_cons_zero, List.set_cons_succ])
    have hy := hY [] _ #[.slice Ap np cp, .int .i64 (shE headF (hdV t l) : Int)] w4 hJ4 Hp0.out ⟨Ap, np, cp, rfl, hown'⟩
    refine OrdY.e_y rfl (by kernel_rfl) (by go_simp) hy ?_
    rintro e w5 (⟨rfl, hJ5, hk5⟩ | ⟨rfl, hx5⟩)
    · have g5 := hk5.2 _ _ (.inl rfl) hg'
      have r5 : RdR w5 B 7 A n c (l.map saC) := h2'.keepBlk (fun hn0 a e => by
        have hlt : a.block < w4.heap.size := by
          obtain ⟨g, off, e', hg, _⟩ := h2'.2.2.2.2 hn0
          rw [e] at e'
          injection e' with e'
          rw [e']
          exact Nat.lt_of_lt_of_le hg h3'
        obtain ⟨o, ho⟩ : ∃ o, w4.heap[a.block]? = some o := ⟨_, Array.getElem?_eq_getElem hlt⟩
        rw [ho]
        exact hk5.2 _ _ (.inr ⟨hn0, a, e, rfl⟩) ho)
      have s5 := Nat.le_trans h4' hk5.1
      have b5 := Nat.le_trans h3' hk5.1
      refine ⟨_, rfl, ⟨trivial, fun h => by cases h⟩, ?_⟩
      (try simp only [Act.put, List.setIfInBounds_toArray, List.set_cons_zero, List.set_cons_succ])
      clear hg' h2' hJ4 h4' h3' hown' hk5 hy
      ((with_reducible refine OrdY.e_p (v := ?_) ?_ ?_ ?_ ?_); rotate_left; (· exact rfl); (· kernel_rfl); (· intro w2; go_simp; try with_reducible rfl))
      (try simp only [Act.put, List.setIfInBounds_toArray, List.set_cons_zero, List.set_cons_succ])
      refine OrdY.e_nil ?_
      have k1 : w5.cell? ⟨g0, 1, none⟩ = some (.slice A n c) := blk_cell g5 rfl
      have ht1 : (pcs t l).take 1 = [(shP headF (hdV t l), shE headF (hdV t l))] := rfl
      rw [List.nil_append, ← ht1] at hJ5
      clear ht1
      gi_wp2_with fail
      clear k1
      gi_loopw [21] (fun i wr => ∃ k : Nat, k ≤ n ∧ i = .int .i64 k ∧ J ((pcs t l).take (k + 1)) wr ∧ wr.heap[g0]? = some (.cells #[.int .i64 t, .slice A n c] 26) ∧ RdR wr B 7 A n c (l.map saC) ∧ B ≤ wr.heap.size ∧ base ≤ wr.heap.size) (fun i wr => n - (intOf i).toNat)
      case atStart => exact ⟨0, by omega, rfl, hJ5, g5, r5, b5, s5⟩
      case round =>
        clear hJ5 g5 r5 s5 b5 w5
        obtain ⟨k, hk, rfl, hj, hg, hr, hB, hbase⟩ := hrel
        by_cases hlt : k < n
        · obtain ⟨g1, off, rr, hA, hg1, hx, hrl, hrow⟩ := hr.at_ hlt
          obtain ⟨s, hs, rfl⟩ : ∃ s, l[k]? = some s ∧ saC s = rr := by simpa using hx
          have hs7 := Hlen.out s (List.mem_of_getElem? hs)
          have hsb := Hl.out s (List.mem_of_getElem? hs)
          have hpt := pcs_take t l k s hs
          have hpx : (pcs t l).take (k + 1) ++ [(shP satF s, shE satF s)] <+: pcs t l := by rw [← hpt]; exact List.take_prefix _ _
          obtain ⟨oP, hoP⟩ : ∃ p, p = shP satF s := ⟨_, rfl⟩
          obtain ⟨oE, hoE⟩ : ∃ p, p = shE satF s := ⟨_, rfl⟩
          rw [← hoP, ← hoE] at hpt hpx
          obtain ⟨x0, x1, x2, x3, x4, x5, x6, rfl⟩ := len7 s hs7
          have q0 : wr.cell? ⟨g1, off + k * 7, none⟩ = some (.int .i64 x0) := hrow 0 _ rfl
          have q1 : wr.cell? ⟨g1, off + k * 7 + 1, none⟩ = some (.int .i64 x1) := hrow 1 _ rfl
          have q2 : wr.cell? ⟨g1, off + k * 7 + 2, none⟩ = some (.int .i64 x2) := hrow 2 _ rfl
          have q3 : wr.cell? ⟨g1, off + k * 7 + 3, none⟩ = some (.int .i64 x3) := hrow 3 _ rfl
          have q4 : wr.cell? ⟨g1, off + k * 7 + 4, none⟩ = some (.int .i64 x4) := hrow 4 _ rfl
          have q5 : wr.cell? ⟨g1, off + k * 7 + 5, none⟩ = some (.int .i64 x5) := hrow 5 _ rfl
          have q6 : wr.cell? ⟨g1, off + k * 7 + 6, none⟩ = some (.int .i64 x6) := hrow 6 _ rfl
          have Hsb := Lib.hid hsb
          have Hpt := Lib.hid hpt
          have Hpx := Lib.hid hpx
          have HoP := Lib.hid hoP
          have HoE := Lib.hid hoE
          have hA' := hA
          have HA := Lib.hid hA
          have hbx : Below wr.heap.size wr (wr.alloc (.cells #[.int .i64 x0, .int .i64 x1, .int .i64 x2, .int .i64 x3, .int .i64 x4, .int .i64 x5, .int .i64 x6] 99)) := (Below.refl _ _).alloc (Nat.le_refl _) _
          have hbox := heap_alloc_new wr (.cells #[.int .i64 x0, .int .i64 x1, .int .i64 x2, .int .i64 x3, .int .i64 x4, .int .i64 x5, .int .i64 x6] 99)
          clear hs hx hrow hrl hs7 hsb hpt hpx hoP hoE hA
          subst hA'
          gi_wp2_with fail
          clear q0 q1 q2 q3 q4 q5 q6
          generalize (wr.alloc (.cells #[.int .i64 x0, .int .i64 x1, .int .i64 x2, .int .i64 x3, .int .i64 x4, .int .i64 x5, .int .i64 x6] 99)) = v1 at *
          refine OrdY.region_at [0, 2, 1, 3, 4, 5, 6, 7, 8] (fun _ => True) true [27, 32] (by kernel_rfl) (by kernel_rfl) rfl trivial ?_
          simp only [Ord.lst, List.filterMap_cons, List.filterMap_nil, List.getElem?_toArray, List.getElem?_cons_succ, List.getElem?_cons_zero]
          replace hbx := hbx.drew
          replace hbox : v1.drew.heap[wr.heap.size]? = _ := hbox
          generalize v1.drew = v2 at *
          have hrow : v2.rangeAt wr.heap.size 0 (saC [x0, x1, x2, x3, x4, x5, x6]) := own_range hbox 0 (fun j v hv => by simpa [saC] using hv)
          ((with_reducible refine OrdY.e_p (v := ?_) ?_ ?_ ?_ ?_); rotate_left; (· exact rfl); (· kernel_rfl); (· intro w2; go_simp; try with_reducible rfl))
          (try simp only [Act.put, List.setIfInBounds_toArray, List.set_cons_zero, List.set_cons_succ])
          refine OrdY.e_row (cs := saC [x0, x1, x2, x3, x4, x5, x6]) Tryz.underlying99 rfl (by kernel_rfl) rfl hrow (by kernel_rfl) (by kernel_rfl) ?_
          (try simp only [Act.put, List.setIfInBounds_toArray, List.set_cons_zero, List.set_cons_succ])
          clear hrow hbox
          refine OrdY.e_x rfl (by kernel_rfl) ?_
          go_wp2_with fail
          go_fit (satsShape_any _)
          rintro e v3 ⟨Af2, nf2, cf2, rfl, hnf2, hrf2, hb23⟩
          have hb3 := bnx hbx hb23
          go_wp2_with fail
          refine OrdY.Seg.go trivial (fun _ => hb23) ?_
          (try simp only [Act.put, List.setIfInBounds_toArray, List.set_cons_zero, List.set_cons_succ])
          clear hbx hb23
          refine OrdY.e_x rfl (by kernel_rfl) ?_
          go_wp2_with fail
          go_fit (satsvalues_any [x0, x1, x2, x3, x4, x5, x6] rfl v3)
          rintro e v4 ⟨Av, nv, cv, rfl, hownv, hb34⟩
          have hb4 := bnx hb3 hb34
          have hrv := Rd.own hownv
          have hrf4 := hrf2.up hb34
          have hle34 := hb34.size
          obtain rfl : nv = 7 := by have h := hownv.1; simp at h; omega
          go_wp2_with fail
          refine OrdY.Seg.go trivial (fun _ => hb34) ?_
          (try simp only [Act.put, List.setIfInBounds_toArray, List.set_cons_zero, List.set_cons_succ])
          clear hb3 hb34 hrf2 hownv
          refine OrdY.e_x rfl (by kernel_rfl) ?_
          go_wp2_with fail
          go_fit (shPut_any Af2 nf2 cf2 v3.heap.size satF Av 7 cv v4.heap.size [x0, x1, x2, x3, x4, x5, x6] v4 hrf4 hle34 hrv (Nat.le_refl _) (by omega) Hsb.out)
          rw [← HoP.out, ← HoE.out]
          rintro e v5 ⟨Aq, nq, cq, rfl, hownq, hb45⟩
          have hb5 := bnx hb4 hb45
          have g6 := blk_old hg hb5 (blk_lt hg)
          have r6 := hr.up (hb5.mono hB)
          have j6 := hJ _ _ _ hj (Aw.of_below' (U := fun _ => False) hb5)
          have B6 := Nat.le_trans hB hb5.size
          have s6 := Nat.le_trans hbase hb5.size
          have hownq' := own_mono hownq (base' := base) (by have := hb4.size; omega)
          go_wp2_with fail
          refine OrdY.Seg.go trivial (fun _ => hb45) ?_
          (try simp only [Act.put, List.setIfInBounds_toArray, List.set_cons_zero, List.set_cons_succ])
          clear hg hr hj hB hbase hownq hb4 hb45 hb5 hrv hrf4 hle34
          ((with_reducible refine OrdY.e_p (v := ?_) ?_ ?_ ?_ ?_); rotate_left; (· exact rfl); (· kernel_rfl); (· intro w2; go_simp; try with_reducible rfl))
          (try simp only [Act.put, List.setIfInBounds_toArray, List.set_cons_zero, List.set_cons_succ])
          ((with_reducible refine OrdY.e_p (v := ?_) ?_ ?_ ?_ ?_); rotate_left; (· exact rfl); (· kernel_rfl); (· intro w2; go_simp; try with_reducible rfl))
          (try simp only [Act.put, List.setIfInBounds_toArray, List.set_cons_zero, List.set_cons_succ])
          have hy := hY _ _ #[.slice Aq nq cq, .int .i64 (oE : Int)] v5 j6 Hpx.out ⟨Aq, nq, cq, rfl, hownq'⟩
          refine OrdY.e_y rfl (by kernel_rfl) (by go_simp) hy ?_
          rintro e v6 (⟨rfl, hJ7, hk7⟩ | ⟨rfl, hx7⟩)
          · have g7 := hk7.2 _ _ (.inl rfl) g6
            have r7 : RdR v6 B 7 (some ⟨g1, off, none⟩) n c (l.map saC) := r6.keepBlk (fun _ a e => by
              injection e with e
              subst e
              obtain ⟨o, ho⟩ : ∃ o, v5.heap[g1]? = some o := ⟨_, Array.getElem?_eq_getElem (Nat.lt_of_lt_of_le hg1 B6)⟩
              rw [ho]
              exact hk7.2 _ _ (.inr ⟨by omega, _, rfl, rfl⟩) ho)
            have s7 := Nat.le_trans s6 hk7.1
            have b7 := Nat.le_trans B6 hk7.1
            rw [← Hpt.out] at hJ7
            refine ⟨_, rfl, ⟨trivial, fun h => by cases h⟩, ?_⟩
            (try simp only [Act.put, List.setIfInBounds_toArray, List.set_cons_zero, List.set_cons_succ])
            clear g6 r6 j6 s6 B6 hownq' hk7 hy
            ((with_reducible refine OrdY.e_p (v := ?_) ?_ ?_ ?_ ?_); rotate_left; (· exact rfl); (· kernel_rfl); (· intro w2; go_simp; try with_reducible rfl))
            (try simp only [Act.put, List.setIfInBounds_toArray, List.set_cons_zero, List.set_cons_succ])
            refine OrdY.e_nil ?_
            gi_wp2
            go_roundw
            case rel => exact ⟨k + 1, by omega, by go_num, hJ7, g7, r7, b7, s7⟩
            case measure => simp [intOf]; omega
          · refine ⟨_, rfl, ⟨trivial, fun h => by cases h⟩, ?_⟩
            (try simp only [Act.put, List.setIfInBounds_toArray, List.set_cons_zero, List.set_cons_succ])
            ((with_reducible refine OrdY.e_p (v := ?_) ?_ ?_ ?_ ?_); rotate_left; (· exact rfl); (· kernel_rfl); (· intro w2; go_simp; try with_reducible rfl))
            (try simp only [Act.put, List.setIfInBounds_toArray, List.set_cons_zero, List.set_cons_succ])
            refine OrdY.e_nil ?_
            clear g6 r6 j6 s6 B6 hownq' hy
            gi_wp2
            refine bodyPost_ret (results_none rfl _ _ _) rfl ?_
            exact ⟨⟨_, rfl⟩, .inr ⟨_, Hpx.out, hx7⟩⟩
        · obtain rfl : k = n := by omega
          have ht : (pcs t l).take (k + 1) = pcs t l := List.take_of_length_le (by have := Hll.out; simp [pcs]; omega)
          rw [ht] at hj
          gi_wp2
          go_end0
          exact ⟨⟨_, rfl⟩, .inl hj⟩
    · refine ⟨_, rfl, ⟨trivial, fun h => by cases h⟩, ?_⟩
      (try simp only [Act.put, List.setIfInBounds_toArray, List.set_cons_zero, List.set_cons_succ])
      ((with_reducible refine OrdY.e_p (v := ?_) ?_ ?_ ?_ ?_); rotate_left; (· exact rfl); (· kernel_rfl); (· intro w2; go_simp; try with_reducible rfl))
      (try simp only [Act.put, List.setIfInBounds_toArray, List.set_cons_zero, List.set_cons_succ])
      refine OrdY.e_nil ?_
      clear hg' h2' hJ4 h4' h3' hown' hy
      gi_wp2
      refine bodyPost_ret (results_none rfl _ _ _) rfl ?_
      exact ⟨⟨_, rfl⟩, .inr ⟨_, Hp0.out, hx5⟩⟩

end Go.Proofs.YtmkidihcdljkiaaGreat
