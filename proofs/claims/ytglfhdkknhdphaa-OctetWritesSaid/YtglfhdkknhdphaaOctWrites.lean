/-
  The law OctetWrites walked. (Printed by gen_octwrites.py.)
-/
import Derived.Test.YtglfhdkknhdphaaOctKnows
import Derived.Test.YtglfhdkknhdphaaOctOps
import Derived.Test.YtglfhdkknhdphaaOctRefW
set_option linter.unusedSimpArgs false
set_option linter.unusedVariables false
namespace Go.Proofs.Ytglfhdkknhdphaa
open Go.RowKit NumLaw
attribute [local go_sem] Addr.add_mid

theorem wtB_le (bad fits : Bool) (l add : List UInt8) : (wtB bad fits l add).length ≤ l.length + add.length := by
  unfold wtB
  split <;> simp
theorem wtB_le8 (bad : Bool) {fits : Bool} {n u : Nat} {l : List UInt8} (h : fits = true → n ≤ 8) : (wtB bad fits l (bytesN n u)).length ≤ l.length + 100 := by
  cases fits with
  | false => unfold wtB; simp
  | true =>
    have := wtB_le bad true l (bytesN n u)
    rw [bytesN_len] at this
    have := h rfl
    omega
theorem fU_le (n : Int) (u : Nat) (h : fU n u = true) : n.toNat ≤ 8 := by
  unfold fU at h
  have := of_decide_eq_true h
  omega
theorem fI_le (n i : Int) (h : fI n i = true) : n.toNat ≤ 8 := by
  unfold fI at h
  have := of_decide_eq_true h
  omega
/-- What there is between two rounds: the writer at g, and the document's in the box gq. -/
def WW (w wr : World) (g gq : Nat) (v : Value) (l : List UInt8) (bad : Bool) (A : Option Addr) (n c : Nat) : Prop :=
  Wtr wr g v l bad ∧ wr.heap[gq]? = some (.cells #[.slice A n c, .bool bad] 46) ∧ wr.ownsRow (gq + 1) 5 1 (.slice A n c) n (bv l) ∧ (bad = true → A = none ∧ n = 0 ∧ c = 0) ∧
    (∀ k, v.ownBlock = some k → gq < k) ∧ (∀ k, v.ownBlock = some k → (Value.slice A n c).ownBlock ≠ some k) ∧ Below w.heap.size w wr ∧ w.heap.size ≤ g ∧ g < gq
theorem WW.drew {w wr : World} {g gq : Nat} {v : Value} {l : List UInt8} {bad : Bool} {A : Option Addr} {n c : Nat} (h : WW w wr g gq v l bad A n c) : WW w wr.drew g gq v l bad A n c := by
  obtain ⟨h1, h2, h3, h4, h5, h6, h7, h8, h9⟩ := h
  exact ⟨h1.keep ((Aw.refl (fun _ => False) _).drew) (fun _ _ h => h), h2, h3.drew, h4, h5, h6, h7.drew, h8, h9⟩
/-- Behind the writer's call. -/
structure WM (w w4 : World) (g gq : Nat) (v4 : Value) (l : List UInt8) (bad : Bool) (l4 : List UInt8) (b4 : Bool) (A : Option Addr) (n c : Nat) : Prop where
  wtr : Wtr w4 g v4 l4 b4
  box : w4.heap[gq]? = some (.cells #[.slice A n c, .bool bad] 46)
  own : w4.ownsRow (gq + 1) 5 1 (.slice A n c) n (bv l)
  nil : bad = true → A = none ∧ n = 0 ∧ c = 0
  up : ∀ k, v4.ownBlock = some k → gq < k
  below : Below w.heap.size w w4
  lo : w.heap.size ≤ g
  hi : g < gq
theorem WW.step {w wr : World} {g gq : Nat} {v : Value} {l : List UInt8} {bad : Bool} {A : Option Addr} {n c : Nat} (h : WW w wr g gq v l bad A n c) {l4 : List UInt8} {b4 : Bool} {e : Ending} {w4 : World} (hr : RetW wr g v l4 b4 e w4) :
    ∃ v4, WM w w4 g gq v4 l bad l4 b4 A n c := by
  obtain ⟨h1, h2, h3, h4, h5, h6, h7, h8, h9⟩ := h
  obtain ⟨_, v4, hw4, ha, hv4⟩ := hr
  have hgq := blk_lt h2
  refine ⟨v4, hw4, ha.keep h2 (fun hf => ?_), own_aw h3 ha (fun k hk hf => ?_), h4, fun k hk => ?_, ?_, h8, h9⟩
  · rcases hf with hf | hf
    · omega
    · have := h5 _ hf; omega
  · rcases hf with hf | hf
    · have := (own_blk h3 hk).1; omega
    · exact h6 _ hf hk
  · rcases hv4 k hk with h | h
    · exact h5 k h
    · omega
  · refine ⟨ha.os.trans h7.os, ha.tape.trans h7.tape, ha.output.trans h7.output, Nat.le_trans h7.size ha.size, fun k hk => (ha.block k (Nat.lt_of_lt_of_le hk h7.size) (fun hf => ?_)).trans (h7.block k hk)⟩
    rcases hf with hf | hf
    · omega
    · have := h5 _ hf; omega
theorem WM.drew {w w4 : World} {g gq : Nat} {v4 : Value} {l : List UInt8} {bad : Bool} {l4 : List UInt8} {b4 : Bool} {A : Option Addr} {n c : Nat} (h : WM w w4 g gq v4 l bad l4 b4 A n c) : WM w w4.drew g gq v4 l bad l4 b4 A n c :=
  ⟨h.wtr.keep ((Aw.refl (fun _ => False) _).drew) (fun _ _ h => h), h.box, h.own.drew, h.nil, h.up, h.below.drew, h.lo, h.hi⟩
/-- Behind the document's call, and the store into its box. -/
theorem WM.step {w w4 : World} {g gq : Nat} {v4 : Value} {l : List UInt8} {bad : Bool} {l4 : List UInt8} {b4 : Bool} {A : Option Addr} {n c : Nat} (h : WM w w4 g gq v4 l bad l4 b4 A n c) {A6 : Option Addr} {n6 c6 : Nat} {w6 : World}
    (hown : w6.ownsRow w4.heap.size 5 1 (.slice A6 n6 c6) n6 (bv l4)) (hz : b4 = true → A6 = none ∧ n6 = 0 ∧ c6 = 0) (hb : Below w4.heap.size w4 w6) :
    w6.heap[gq]? = some (.cells #[.slice A n c, .bool bad] 46) ∧ WW w ((w6.setCell ⟨gq, 0, none⟩ (.slice A6 n6 c6)).setCell ⟨gq, 1, none⟩ (.bool b4)) g gq v4 l4 b4 A6 n6 c6 := by
  have hgq := blk_lt h.box
  have hbox := blk_old h.box hb hgq
  have hA : Aw (fun k => k = gq) w6 ((w6.setCell ⟨gq, 0, none⟩ (.slice A6 n6 c6)).setCell ⟨gq, 1, none⟩ (.bool b4)) := ((Aw.refl (fun k => k = gq) w6).set (p := ⟨gq, 0, none⟩) _ rfl).set (p := ⟨gq, 1, none⟩) _ rfl
  have hlo := h.lo
  have hhi := h.hi
  refine ⟨hbox, (h.wtr.keep (Aw.of_below' (U := fun _ => False) hb) (fun _ _ h => h)).keep hA (fun k hk hu => ?_), blk_set (i := 1) (blk_set (i := 0) hbox _) _, own_mono (own_set (own_set hown hgq _) hgq _) (by omega), hz, h.up, fun k hk hq => ?_, ?_, hlo, hhi⟩
  · rcases hk with hk | hk
    · omega
    · have := h.up _ hk; omega
  · have h1 := (own_blk hown hq).1
    have h2 := (own_blk h.wtr.2.1 hk).2
    omega
  · have := bnx h.below hb
    exact (this.setCell (p := ⟨gq, 0, none⟩) (by show w.heap.size ≤ gq; omega) _).setCell (p := ⟨gq, 1, none⟩) (by show w.heap.size ≤ gq; omega) _

theorem WW.more {w wr w' : World} {g gq : Nat} {v : Value} {l : List UInt8} {bad : Bool} {A : Option Addr} {n c : Nat} (h : WW w wr g gq v l bad A n c) (hb : Below wr.heap.size wr w') : WW w w' g gq v l bad A n c := by
  obtain ⟨h1, h2, h3, h4, h5, h6, h7, h8, h9⟩ := h
  exact ⟨h1.keep (Aw.of_below' (U := fun _ => False) hb) (fun _ _ h => h), blk_old h2 hb (blk_lt h2), own_up h3 hb (Nat.le_refl _), h4, h5, h6, bnx h7 hb, h8, h9⟩
theorem qPutRaw_any (A : Option Addr) (n c B : Nat) (l : List UInt8) (bad : Bool) (A2 : Option Addr) (n2 c2 B2 : Nat) (l2 : List UInt8) (w : World) (h : Rd w B 1 A n c (bv l)) (hB : B ≤ w.heap.size) (h2 : Rd w B2 1 A2 n2 c2 (bv l2)) (hB2 : B2 ≤ w.heap.size) (hz : bad = true → A = none ∧ n = 0 ∧ c = 0) (hn : n + n2 ≤ 1000000000) :
    Calls Try.prog 35 #[.agg #[.slice A n c, .bool bad], .slice A2 n2 c2] w (RetP w (wtB bad true l l2) bad) := by
  cases bad with
  | true =>
    obtain ⟨rfl, rfl, rfl⟩ := hz rfl
    exact qPutRaw_bad A2 n2 c2 w
  | false => exact qPutRaw_ok A n c B l A2 n2 c2 B2 l2 w h hB h2 hB2 hn

set_option maxRecDepth 10000 in
set_option maxHeartbeats 4000000 in
theorem writes_go (Ao : Option Addr) (no co : Nat) (ops : List OpV) (w : World) (ho : RdOps w w.heap.size Ao no co ops) (hf : fewN ops = true) :
    Calls Try.prog 4 #[.slice Ao no co] w fun e w' => e = .returned (.bool true) ∧ Below w.heap.size w w' := by
  have Hf := Lib.hid hf
  have hno : no ≤ 60 := by have := (fewN_all hf).1; rw [ho.1] at this; exact this
  have hco := ho.2.1
  clear hf
  go_enter Try.func4, Try.ntmps4
  go_wp2_with fail
  go_fit (few_any Ao no co w.heap.size ops w ho)
  rintro e w1 ⟨rfl, rfl⟩
  rw [Hf.out]
  go_wp2_with fail
  go_fit (knows04 w)
  rintro e w1 ⟨rfl, hb1⟩
  go_wp2_with fail
  go_fit (wMake_any w1)
  rintro e w2 ⟨rfl, hw2, hb12⟩
  have hb2 := bnx hb1 hb12
  have hlow := hb1.size
  have hlt2 := hw2.lt
  generalize w1.heap.size = g at *
  have hA3 : Aw (fun _ => False) w2 (w2.alloc (.cells #[.slice none 0 0, .bool false] 46)) := (Aw.refl _ _).alloc _
  have hW : WW w (w2.alloc (.cells #[.slice none 0 0, .bool false] 46)) g w2.heap.size (.slice none 0 0) [] false none 0 0 :=
    ⟨hw2.keep hA3 (fun _ _ h => h), heap_alloc_new w2 _, World.ownsRow_nil _ _ _ _, fun h => (by cases h), fun k h => (by cases h), fun k h => (by cases h), hb2.alloc hb2.size _, hlow, hlt2⟩
  clear hb1 hb12 hw2 hA3 hb2
  go_wp2
  generalize (w2.alloc (.cells #[.slice none 0 0, .bool false] 46)) = w3 at *
  generalize w2.heap.size = gq at *
  go_loopw [5] (fun i wr => ∃ (k : Nat) (v : Value) (lw : List UInt8) (bad : Bool) (Aq : Option Addr) (nq cq : Nat), k ≤ no ∧ i = .int .i64 k ∧ WW w wr g gq v lw bad Aq nq cq ∧ lw.length ≤ k * 100) (fun i _ => no - (intOf i).toNat)
  case atStart => exact ⟨0, .slice none 0 0, [], false, none, 0, 0, by omega, rfl, hW, by simp⟩
  case round =>
    clear hW w3 w2
    obtain ⟨k, v, lw, bad, Aq, nq, cq, hk, rfl, hW, hlw⟩ := hrel
    have hWb := hW.2.2.2.2.2.2.1
    by_cases hlt : k < no
    · obtain ⟨go, off, o, rfl, hgo, hx, h1, h2, h3, h4, ⟨Ab, nb, cb, h5, h6⟩, hn0, hu0, hi0⟩ := (ho.up hWb).at_ hlt
      have hob : o.b.length ≤ 100 := (fewN_all Hf.out).2 o (List.mem_of_getElem? hx)
      have hnb : nb ≤ 100 := by
        rw [← h6.blen]
        exact hob
      by_cases hk0 : o.kind = 0
      · rw [hk0] at h1
        clear hk0
        go_wp2_with fail
        refine Ord.region_ (fun _ => True) true [48, 53, 54] (by kernel_rfl) (by kernel_rfl) trivial ?_
        replace hW := hW.drew
        replace h2 : wr.drew.cell? _ = _ := h2
        replace h3 : wr.drew.cell? _ = _ := h3
        replace h6 := h6.drew
        replace hWb := hWb.drew
        generalize wr.drew = w3 at *
        repeat (first | (refine Ord.e_p (v := ?_) rfl (by rfl) ?_ ?_; rotate_left; · (intro w2; go_simp; try with_reducible rfl)) | (refine Ord.e_u (by rfl) ?_)); (try simp only [Act.put, List.setIfInBounds_toArray, List.set_cons_zero, List.set_cons_succ])
        refine Ord.e_load Try.underlying3 rfl h2 rfl (by rfl) (by rfl) ?_
        (try simp only [Act.put, List.setIfInBounds_toArray, List.set_cons_zero, List.set_cons_succ])
        repeat (first | (refine Ord.e_p (v := ?_) rfl (by rfl) ?_ ?_; rotate_left; · (intro w2; go_simp; try with_reducible rfl)) | (refine Ord.e_u (by rfl) ?_)); (try simp only [Act.put, List.setIfInBounds_toArray, List.set_cons_zero, List.set_cons_succ])
        refine Ord.e_load Try.underlying30 rfl h3 rfl (by rfl) (by rfl) ?_
        (try simp only [Act.put, List.setIfInBounds_toArray, List.set_cons_zero, List.set_cons_succ])
        repeat (first | (refine Ord.e_p (v := ?_) rfl (by rfl) ?_ ?_; rotate_left; · (intro w2; go_simp; try with_reducible rfl)) | (refine Ord.e_u (by rfl) ?_)); (try simp only [Act.put, List.setIfInBounds_toArray, List.set_cons_zero, List.set_cons_succ])
        refine Ord.e_x rfl (by rfl) ?_
        go_wp2_with fail
        go_fit (wU_any g v lw bad o.n o.u w3 hW.1 hu0 (by omega))
        rintro e w4 hret
        obtain ⟨v4, hM⟩ := hW.step hret
        obtain rfl := hret.1
        clear hret
        go_wp2_with fail
        refine Ord.Seg.go trivial (fun h => by cases h) ?_
        (try simp only [Act.put, List.setIfInBounds_toArray, List.set_cons_zero, List.set_cons_succ])
        refine Ord.e_nil ?_
        clear h1 h2 h3 h4 h5 h6 hWb hW
        go_wp2_with fail
        refine Ord.region_ (fun _ => True) true [55, 60, 65] (by kernel_rfl) (by kernel_rfl) trivial ?_
        replace hM := hM.drew
        generalize w4.drew = w5 at *
        obtain ⟨go', off', o', hgo', _, hx', c1, c2, c3, c4, ⟨Ab, nb, cb, c5, c6⟩, _⟩ := (ho.up hM.below).at_ hlt
        injection hgo' with hgo'; injection hgo' with e1 e2 _; subst e1; subst e2; rw [hx] at hx'; injection hx' with hx'; subst hx'
        have hrow5 : w5.rangeAt gq 0 [.slice Aq nq cq, .bool bad] := own_range hM.box 0 (fun j v hv => by simpa using hv)
        have hq5 := Rd.own hM.own
        have hlq := own_len hM.own
        repeat (first | (refine Ord.e_p (v := ?_) rfl (by rfl) ?_ ?_; rotate_left; · (intro w2; go_simp; try with_reducible rfl)) | (refine Ord.e_u (by rfl) ?_)); (try simp only [Act.put, List.setIfInBounds_toArray, List.set_cons_zero, List.set_cons_succ])
        refine Ord.e_row Try.underlying46 rfl (by kernel_rfl) rfl hrow5 (by rfl) (by rfl) ?_
        (try simp only [Act.put, List.setIfInBounds_toArray, List.set_cons_zero, List.set_cons_succ])
        repeat (first | (refine Ord.e_p (v := ?_) rfl (by rfl) ?_ ?_; rotate_left; · (intro w2; go_simp; try with_reducible rfl)) | (refine Ord.e_u (by rfl) ?_)); (try simp only [Act.put, List.setIfInBounds_toArray, List.set_cons_zero, List.set_cons_succ])
        refine Ord.e_load Try.underlying3 rfl c2 rfl (by rfl) (by rfl) ?_
        (try simp only [Act.put, List.setIfInBounds_toArray, List.set_cons_zero, List.set_cons_succ])
        repeat (first | (refine Ord.e_p (v := ?_) rfl (by rfl) ?_ ?_; rotate_left; · (intro w2; go_simp; try with_reducible rfl)) | (refine Ord.e_u (by rfl) ?_)); (try simp only [Act.put, List.setIfInBounds_toArray, List.set_cons_zero, List.set_cons_succ])
        refine Ord.e_load Try.underlying30 rfl c3 rfl (by rfl) (by rfl) ?_
        (try simp only [Act.put, List.setIfInBounds_toArray, List.set_cons_zero, List.set_cons_succ])
        repeat (first | (refine Ord.e_p (v := ?_) rfl (by rfl) ?_ ?_; rotate_left; · (intro w2; go_simp; try with_reducible rfl)) | (refine Ord.e_u (by rfl) ?_)); (try simp only [Act.put, List.setIfInBounds_toArray, List.set_cons_zero, List.set_cons_succ])
        have hle : (wtB bad (fU o.n o.u) lw (bytesN o.n.toNat o.u)).length ≤ lw.length + 100 := wtB_le8 bad (fU_le o.n o.u)
        have hcall := qPutU_any Aq nq cq w5.heap.size lw bad o.n o.u w5 hq5 (Nat.le_refl _) hu0 (by omega)
        generalize (bad || !(fU o.n o.u)) = b4 at *
        generalize wtB bad (fU o.n o.u) lw (bytesN o.n.toNat o.u) = l4 at *
        refine Ord.e_x rfl (by rfl) ?_
        go_wp2_with fail
        go_fit hcall
        rintro e w6 ⟨A6, n6, k6, rfl, hown6, hz6, hb56⟩
        obtain ⟨hbox6, hW7⟩ := hM.step hown6 hz6 hb56
        have hl4 := hM.wtr.2.1.1
        clear hM hrow5 hq5 c1 c2 c3 c4 c5 c6 hown6 hz6
        go_wp2_with fail
        refine Ord.Seg.go trivial (fun _ => hb56) ?_
        (try simp only [Act.put, List.setIfInBounds_toArray, List.set_cons_zero, List.set_cons_succ])
        repeat (first | (refine Ord.e_p (v := ?_) rfl (by rfl) ?_ ?_; rotate_left; · (intro w2; go_simp; try with_reducible rfl)) | (refine Ord.e_u (by rfl) ?_)); (try simp only [Act.put, List.setIfInBounds_toArray, List.set_cons_zero, List.set_cons_succ])
        have hk1 := blk_set (i := 0) hbox6 (.slice A6 n6 k6)
        have s1 : w6.cell? ⟨gq, 0, none⟩ = some (.slice Aq nq cq) := blk_cell hbox6 rfl
        have s2 := blk_free (i := 0) hbox6
        have s3 : (w6.setCell ⟨gq, 0, none⟩ (.slice A6 n6 k6)).cell? ⟨gq, 1, none⟩ = some (.bool bad) := blk_cell hk1 rfl
        have s4 := blk_free (i := 1) hk1
        refine Ord.e_x rfl (by rfl) ?_
        go_wp2
        generalize ((w6.setCell ⟨gq, 0, none⟩ (.slice A6 n6 k6)).setCell ⟨gq, 1, none⟩ (.bool b4)) = w7 at *
        clear hbox6 hk1 s1 s2 s3 s4 hb56
        refine Ord.Seg.go trivial (fun h => by cases h) ?_
        (try simp only [Act.put, List.setIfInBounds_toArray, List.set_cons_zero, List.set_cons_succ])
        repeat (first | (refine Ord.e_p (v := ?_) rfl (by rfl) ?_ ?_; rotate_left; · (intro w2; go_simp; try with_reducible rfl)) | (refine Ord.e_u (by rfl) ?_)); (try simp only [Act.put, List.setIfInBounds_toArray, List.set_cons_zero, List.set_cons_succ])
        refine Ord.e_nil ?_
        go_wp2_with fail
        refine Ord.region_at [0, 3, 4, 5, 1, 2, 6, 7, 8, 10, 11, 9, 12, 13] (fun _ => True) true [95, 97, 98, 104] (by kernel_rfl) (by kernel_rfl) rfl trivial ?_
        simp only [Ord.lst, List.filterMap_cons, List.filterMap_nil, List.getElem?_toArray, List.getElem?_cons_succ, List.getElem?_cons_zero]
        replace hW7 := hW7.drew
        generalize w7.drew = w8 at *
        have d0 := blk_cell (i := 0) (v := .slice A6 n6 k6) hW7.2.1 rfl
        have hq8 := Rd.own hW7.2.2.1
        have hBy := wBytes_any g v4 l4 b4 w8 hW7.1 (by omega)
        repeat (first | (refine Ord.e_p (v := ?_) rfl (by rfl) ?_ ?_; rotate_left; · (intro w2; go_simp; try with_reducible rfl)) | (refine Ord.e_u (by rfl) ?_)); (try simp only [Act.put, List.setIfInBounds_toArray, List.set_cons_zero, List.set_cons_succ])
        refine Ord.e_load Try.underlying22 rfl d0 rfl (by rfl) (by rfl) ?_
        (try simp only [Act.put, List.setIfInBounds_toArray, List.set_cons_zero, List.set_cons_succ])
        refine Ord.e_str Try.underlying22 Try.underlying5 Try.underlying9 hq8 rfl (by rfl) (by rfl) ?_
        (try simp only [Act.put, List.setIfInBounds_toArray, List.set_cons_zero, List.set_cons_succ])
        repeat (first | (refine Ord.e_p (v := ?_) rfl (by rfl) ?_ ?_; rotate_left; · (intro w2; go_simp; try with_reducible rfl)) | (refine Ord.e_u (by rfl) ?_)); (try simp only [Act.put, List.setIfInBounds_toArray, List.set_cons_zero, List.set_cons_succ])
        refine Ord.e_x rfl (by rfl) ?_
        go_wp2_with fail
        go_fit hBy
        rintro e w9 ⟨A9, c9, n9, rfl, hown9, hb9⟩
        go_wp2_with fail
        refine Ord.Seg.go trivial (fun _ => hb9) ?_
        (try simp only [Act.put, List.setIfInBounds_toArray, List.set_cons_zero, List.set_cons_succ])
        refine Ord.e_str Try.underlying22 Try.underlying5 Try.underlying9 (Rd.own hown9) rfl (by rfl) (by rfl) ?_
        (try simp only [Act.put, List.setIfInBounds_toArray, List.set_cons_zero, List.set_cons_succ])
        replace hW7 := hW7.more hb9
        have d1 := blk_cell (i := 1) (v := .bool b4) hW7.2.1 rfl
        have hF := wFail_any g _ v4 true b4 w9 hW7.1.1
        rw [Bool.true_and, Bool.not_not] at hF
        clear d0 hq8 hBy hb9 hown9
        repeat (first | (refine Ord.e_p (v := ?_) rfl (by rfl) ?_ ?_; rotate_left; · (intro w2; go_simp; try with_reducible rfl)) | (refine Ord.e_u (by rfl) ?_)); (try simp only [Act.put, List.setIfInBounds_toArray, List.set_cons_zero, List.set_cons_succ])
        refine Ord.e_load Try.underlying4 rfl d1 rfl (by rfl) (by rfl) ?_
        (try simp only [Act.put, List.setIfInBounds_toArray, List.set_cons_zero, List.set_cons_succ])
        refine Ord.e_x rfl (by rfl) ?_
        go_wp2_with fail
        go_fit hF
        rintro e w10 ⟨rfl, rfl⟩
        go_wp2_with fail
        refine Ord.Seg.go trivial (fun _ => Below.refl _ _) ?_
        (try simp only [Act.put, List.setIfInBounds_toArray, List.set_cons_zero, List.set_cons_succ])
        repeat (first | (refine Ord.e_p (v := ?_) rfl (by rfl) ?_ ?_; rotate_left; · (intro w2; go_simp; try with_reducible rfl)) | (refine Ord.e_u (by rfl) ?_)); (try simp only [Act.put, List.setIfInBounds_toArray, List.set_cons_zero, List.set_cons_succ])
        refine Ord.e_nil ?_
        clear d1 hF
        go_wp2
        go_roundw
        case rel => exact ⟨k + 1, v4, l4, b4, A6, n6, k6, by omega, by go_num, hW7, by omega⟩
        case measure => simp [intOf]; omega
      · by_cases hk1 : o.kind = 1
        · rw [hk1] at h1
          clear hk1 hk0
          go_wp2_with fail
          refine Ord.region_ (fun _ => True) true [74, 79, 80] (by kernel_rfl) (by kernel_rfl) trivial ?_
          replace hW := hW.drew
          replace h2 : wr.drew.cell? _ = _ := h2
          replace h4 : wr.drew.cell? _ = _ := h4
          replace h6 := h6.drew
          replace hWb := hWb.drew
          generalize wr.drew = w3 at *
          repeat (first | (refine Ord.e_p (v := ?_) rfl (by rfl) ?_ ?_; rotate_left; · (intro w2; go_simp; try with_reducible rfl)) | (refine Ord.e_u (by rfl) ?_)); (try simp only [Act.put, List.setIfInBounds_toArray, List.set_cons_zero, List.set_cons_succ])
          refine Ord.e_load Try.underlying3 rfl h2 rfl (by rfl) (by rfl) ?_
          (try simp only [Act.put, List.setIfInBounds_toArray, List.set_cons_zero, List.set_cons_succ])
          repeat (first | (refine Ord.e_p (v := ?_) rfl (by rfl) ?_ ?_; rotate_left; · (intro w2; go_simp; try with_reducible rfl)) | (refine Ord.e_u (by rfl) ?_)); (try simp only [Act.put, List.setIfInBounds_toArray, List.set_cons_zero, List.set_cons_succ])
          refine Ord.e_load Try.underlying2 rfl h4 rfl (by rfl) (by rfl) ?_
          (try simp only [Act.put, List.setIfInBounds_toArray, List.set_cons_zero, List.set_cons_succ])
          repeat (first | (refine Ord.e_p (v := ?_) rfl (by rfl) ?_ ?_; rotate_left; · (intro w2; go_simp; try with_reducible rfl)) | (refine Ord.e_u (by rfl) ?_)); (try simp only [Act.put, List.setIfInBounds_toArray, List.set_cons_zero, List.set_cons_succ])
          refine Ord.e_x rfl (by rfl) ?_
          go_wp2_with fail
          go_fit (wI_any g v lw bad o.n o.i w3 hW.1 hi0 (by omega))
          rintro e w4 hret
          obtain ⟨v4, hM⟩ := hW.step hret
          obtain rfl := hret.1
          clear hret
          go_wp2_with fail
          refine Ord.Seg.go trivial (fun h => by cases h) ?_
          (try simp only [Act.put, List.setIfInBounds_toArray, List.set_cons_zero, List.set_cons_succ])
          refine Ord.e_nil ?_
          clear h1 h2 h3 h4 h5 h6 hWb hW
          go_wp2_with fail
          refine Ord.region_ (fun _ => True) true [81, 86, 91] (by kernel_rfl) (by kernel_rfl) trivial ?_
          replace hM := hM.drew
          generalize w4.drew = w5 at *
          obtain ⟨go', off', o', hgo', _, hx', c1, c2, c3, c4, ⟨Ab, nb, cb, c5, c6⟩, _⟩ := (ho.up hM.below).at_ hlt
          injection hgo' with hgo'; injection hgo' with e1 e2 _; subst e1; subst e2; rw [hx] at hx'; injection hx' with hx'; subst hx'
          have hrow5 : w5.rangeAt gq 0 [.slice Aq nq cq, .bool bad] := own_range hM.box 0 (fun j v hv => by simpa using hv)
          have hq5 := Rd.own hM.own
          have hlq := own_len hM.own
          repeat (first | (refine Ord.e_p (v := ?_) rfl (by rfl) ?_ ?_; rotate_left; · (intro w2; go_simp; try with_reducible rfl)) | (refine Ord.e_u (by rfl) ?_)); (try simp only [Act.put, List.setIfInBounds_toArray, List.set_cons_zero, List.set_cons_succ])
          refine Ord.e_row Try.underlying46 rfl (by kernel_rfl) rfl hrow5 (by rfl) (by rfl) ?_
          (try simp only [Act.put, List.setIfInBounds_toArray, List.set_cons_zero, List.set_cons_succ])
          repeat (first | (refine Ord.e_p (v := ?_) rfl (by rfl) ?_ ?_; rotate_left; · (intro w2; go_simp; try with_reducible rfl)) | (refine Ord.e_u (by rfl) ?_)); (try simp only [Act.put, List.setIfInBounds_toArray, List.set_cons_zero, List.set_cons_succ])
          refine Ord.e_load Try.underlying3 rfl c2 rfl (by rfl) (by rfl) ?_
          (try simp only [Act.put, List.setIfInBounds_toArray, List.set_cons_zero, List.set_cons_succ])
          repeat (first | (refine Ord.e_p (v := ?_) rfl (by rfl) ?_ ?_; rotate_left; · (intro w2; go_simp; try with_reducible rfl)) | (refine Ord.e_u (by rfl) ?_)); (try simp only [Act.put, List.setIfInBounds_toArray, List.set_cons_zero, List.set_cons_succ])
          refine Ord.e_load Try.underlying2 rfl c4 rfl (by rfl) (by rfl) ?_
          (try simp only [Act.put, List.setIfInBounds_toArray, List.set_cons_zero, List.set_cons_succ])
          repeat (first | (refine Ord.e_p (v := ?_) rfl (by rfl) ?_ ?_; rotate_left; · (intro w2; go_simp; try with_reducible rfl)) | (refine Ord.e_u (by rfl) ?_)); (try simp only [Act.put, List.setIfInBounds_toArray, List.set_cons_zero, List.set_cons_succ])
          have hle : (wtB bad (fI o.n o.i) lw (bytesN o.n.toNat (un o.i))).length ≤ lw.length + 100 := wtB_le8 bad (fI_le o.n o.i)
          have hcall := qPutI_any Aq nq cq w5.heap.size lw bad o.n o.i w5 hq5 (Nat.le_refl _) hi0 (by omega)
          generalize (bad || !(fI o.n o.i)) = b4 at *
          generalize wtB bad (fI o.n o.i) lw (bytesN o.n.toNat (un o.i)) = l4 at *
          refine Ord.e_x rfl (by rfl) ?_
          go_wp2_with fail
          go_fit hcall
          rintro e w6 ⟨A6, n6, k6, rfl, hown6, hz6, hb56⟩
          obtain ⟨hbox6, hW7⟩ := hM.step hown6 hz6 hb56
          have hl4 := hM.wtr.2.1.1
          clear hM hrow5 hq5 c1 c2 c3 c4 c5 c6 hown6 hz6
          go_wp2_with fail
          refine Ord.Seg.go trivial (fun _ => hb56) ?_
          (try simp only [Act.put, List.setIfInBounds_toArray, List.set_cons_zero, List.set_cons_succ])
          repeat (first | (refine Ord.e_p (v := ?_) rfl (by rfl) ?_ ?_; rotate_left; · (intro w2; go_simp; try with_reducible rfl)) | (refine Ord.e_u (by rfl) ?_)); (try simp only [Act.put, List.setIfInBounds_toArray, List.set_cons_zero, List.set_cons_succ])
          have hk1 := blk_set (i := 0) hbox6 (.slice A6 n6 k6)
          have s1 : w6.cell? ⟨gq, 0, none⟩ = some (.slice Aq nq cq) := blk_cell hbox6 rfl
          have s2 := blk_free (i := 0) hbox6
          have s3 : (w6.setCell ⟨gq, 0, none⟩ (.slice A6 n6 k6)).cell? ⟨gq, 1, none⟩ = some (.bool bad) := blk_cell hk1 rfl
          have s4 := blk_free (i := 1) hk1
          refine Ord.e_x rfl (by rfl) ?_
          go_wp2
          generalize ((w6.setCell ⟨gq, 0, none⟩ (.slice A6 n6 k6)).setCell ⟨gq, 1, none⟩ (.bool b4)) = w7 at *
          clear hbox6 hk1 s1 s2 s3 s4 hb56
          refine Ord.Seg.go trivial (fun h => by cases h) ?_
          (try simp only [Act.put, List.setIfInBounds_toArray, List.set_cons_zero, List.set_cons_succ])
          repeat (first | (refine Ord.e_p (v := ?_) rfl (by rfl) ?_ ?_; rotate_left; · (intro w2; go_simp; try with_reducible rfl)) | (refine Ord.e_u (by rfl) ?_)); (try simp only [Act.put, List.setIfInBounds_toArray, List.set_cons_zero, List.set_cons_succ])
          refine Ord.e_nil ?_
          go_wp2_with fail
          refine Ord.region_at [0, 3, 4, 5, 1, 2, 6, 7, 8, 10, 11, 9, 12, 13] (fun _ => True) true [95, 97, 98, 104] (by kernel_rfl) (by kernel_rfl) rfl trivial ?_
          simp only [Ord.lst, List.filterMap_cons, List.filterMap_nil, List.getElem?_toArray, List.getElem?_cons_succ, List.getElem?_cons_zero]
          replace hW7 := hW7.drew
          generalize w7.drew = w8 at *
          have d0 := blk_cell (i := 0) (v := .slice A6 n6 k6) hW7.2.1 rfl
          have hq8 := Rd.own hW7.2.2.1
          have hBy := wBytes_any g v4 l4 b4 w8 hW7.1 (by omega)
          repeat (first | (refine Ord.e_p (v := ?_) rfl (by rfl) ?_ ?_; rotate_left; · (intro w2; go_simp; try with_reducible rfl)) | (refine Ord.e_u (by rfl) ?_)); (try simp only [Act.put, List.setIfInBounds_toArray, List.set_cons_zero, List.set_cons_succ])
          refine Ord.e_load Try.underlying22 rfl d0 rfl (by rfl) (by rfl) ?_
          (try simp only [Act.put, List.setIfInBounds_toArray, List.set_cons_zero, List.set_cons_succ])
          refine Ord.e_str Try.underlying22 Try.underlying5 Try.underlying9 hq8 rfl (by rfl) (by rfl) ?_
          (try simp only [Act.put, List.setIfInBounds_toArray, List.set_cons_zero, List.set_cons_succ])
          repeat (first | (refine Ord.e_p (v := ?_) rfl (by rfl) ?_ ?_; rotate_left; · (intro w2; go_simp; try with_reducible rfl)) | (refine Ord.e_u (by rfl) ?_)); (try simp only [Act.put, List.setIfInBounds_toArray, List.set_cons_zero, List.set_cons_succ])
          refine Ord.e_x rfl (by rfl) ?_
          go_wp2_with fail
          go_fit hBy
          rintro e w9 ⟨A9, c9, n9, rfl, hown9, hb9⟩
          go_wp2_with fail
          refine Ord.Seg.go trivial (fun _ => hb9) ?_
          (try simp only [Act.put, List.setIfInBounds_toArray, List.set_cons_zero, List.set_cons_succ])
          refine Ord.e_str Try.underlying22 Try.underlying5 Try.underlying9 (Rd.own hown9) rfl (by rfl) (by rfl) ?_
          (try simp only [Act.put, List.setIfInBounds_toArray, List.set_cons_zero, List.set_cons_succ])
          replace hW7 := hW7.more hb9
          have d1 := blk_cell (i := 1) (v := .bool b4) hW7.2.1 rfl
          have hF := wFail_any g _ v4 true b4 w9 hW7.1.1
          rw [Bool.true_and, Bool.not_not] at hF
          clear d0 hq8 hBy hb9 hown9
          repeat (first | (refine Ord.e_p (v := ?_) rfl (by rfl) ?_ ?_; rotate_left; · (intro w2; go_simp; try with_reducible rfl)) | (refine Ord.e_u (by rfl) ?_)); (try simp only [Act.put, List.setIfInBounds_toArray, List.set_cons_zero, List.set_cons_succ])
          refine Ord.e_load Try.underlying4 rfl d1 rfl (by rfl) (by rfl) ?_
          (try simp only [Act.put, List.setIfInBounds_toArray, List.set_cons_zero, List.set_cons_succ])
          refine Ord.e_x rfl (by rfl) ?_
          go_wp2_with fail
          go_fit hF
          rintro e w10 ⟨rfl, rfl⟩
          go_wp2_with fail
          refine Ord.Seg.go trivial (fun _ => Below.refl _ _) ?_
          (try simp only [Act.put, List.setIfInBounds_toArray, List.set_cons_zero, List.set_cons_succ])
          repeat (first | (refine Ord.e_p (v := ?_) rfl (by rfl) ?_ ?_; rotate_left; · (intro w2; go_simp; try with_reducible rfl)) | (refine Ord.e_u (by rfl) ?_)); (try simp only [Act.put, List.setIfInBounds_toArray, List.set_cons_zero, List.set_cons_succ])
          refine Ord.e_nil ?_
          clear d1 hF
          go_wp2
          go_roundw
          case rel => exact ⟨k + 1, v4, l4, b4, A6, n6, k6, by omega, by go_num, hW7, by omega⟩
          case measure => simp [intOf]; omega
        · skip
          go_wp2_with fail
          go_fit (wRaw_any g v lw bad Ab nb cb w.heap.size o.b wr hW.1 h6 (by omega))
          rintro e w4 hret
          obtain ⟨v4, hM⟩ := hW.step hret
          obtain rfl := hret.1
          clear hret
          clear h1 h2 h3 h4 h5 h6 hWb hW
          go_wp2_with fail
          refine Ord.region_ (fun _ => True) true [34, 39] (by kernel_rfl) (by kernel_rfl) trivial ?_
          replace hM := hM.drew
          generalize w4.drew = w5 at *
          obtain ⟨go', off', o', hgo', _, hx', c1, c2, c3, c4, ⟨Ab, nb, cb, c5, c6⟩, _⟩ := (ho.up hM.below).at_ hlt
          injection hgo' with hgo'; injection hgo' with e1 e2 _; subst e1; subst e2; rw [hx] at hx'; injection hx' with hx'; subst hx'
          have hrow5 : w5.rangeAt gq 0 [.slice Aq nq cq, .bool bad] := own_range hM.box 0 (fun j v hv => by simpa using hv)
          have hq5 := Rd.own hM.own
          have hlq := own_len hM.own
          repeat (first | (refine Ord.e_p (v := ?_) rfl (by rfl) ?_ ?_; rotate_left; · (intro w2; go_simp; try with_reducible rfl)) | (refine Ord.e_u (by rfl) ?_)); (try simp only [Act.put, List.setIfInBounds_toArray, List.set_cons_zero, List.set_cons_succ])
          refine Ord.e_row Try.underlying46 rfl (by kernel_rfl) rfl hrow5 (by rfl) (by rfl) ?_
          (try simp only [Act.put, List.setIfInBounds_toArray, List.set_cons_zero, List.set_cons_succ])
          repeat (first | (refine Ord.e_p (v := ?_) rfl (by rfl) ?_ ?_; rotate_left; · (intro w2; go_simp; try with_reducible rfl)) | (refine Ord.e_u (by rfl) ?_)); (try simp only [Act.put, List.setIfInBounds_toArray, List.set_cons_zero, List.set_cons_succ])
          refine Ord.e_load Try.underlying22 rfl c5 rfl (by rfl) (by rfl) ?_
          (try simp only [Act.put, List.setIfInBounds_toArray, List.set_cons_zero, List.set_cons_succ])
          repeat (first | (refine Ord.e_p (v := ?_) rfl (by rfl) ?_ ?_; rotate_left; · (intro w2; go_simp; try with_reducible rfl)) | (refine Ord.e_u (by rfl) ?_)); (try simp only [Act.put, List.setIfInBounds_toArray, List.set_cons_zero, List.set_cons_succ])
          have hle : (wtB bad true lw o.b).length ≤ lw.length + 100 := Nat.le_trans (wtB_le bad true lw o.b) (by omega)
          have hcall := qPutRaw_any Aq nq cq w5.heap.size lw bad Ab nb cb w.heap.size o.b w5 hq5 (Nat.le_refl _) c6 hM.below.size hM.nil (by have := c6.blen; omega)
          obtain ⟨b4, hb4⟩ : ∃ b4, b4 = bad := ⟨_, rfl⟩
          generalize wtB bad true lw o.b = l4 at *
          refine Ord.e_x rfl (by rfl) ?_
          go_wp2_with fail
          go_fit hcall
          rintro e w6 ⟨A6, n6, k6, rfl, hown6, hz6, hb56⟩
          obtain ⟨hbox6, hW7⟩ := hM.step hown6 hz6 hb56
          have hl4 := hM.wtr.2.1.1
          clear hM hrow5 hq5 c1 c2 c3 c4 c5 c6 hown6 hz6
          go_wp2_with fail
          refine Ord.Seg.go trivial (fun _ => hb56) ?_
          (try simp only [Act.put, List.setIfInBounds_toArray, List.set_cons_zero, List.set_cons_succ])
          repeat (first | (refine Ord.e_p (v := ?_) rfl (by rfl) ?_ ?_; rotate_left; · (intro w2; go_simp; try with_reducible rfl)) | (refine Ord.e_u (by rfl) ?_)); (try simp only [Act.put, List.setIfInBounds_toArray, List.set_cons_zero, List.set_cons_succ])
          have hk1 := blk_set (i := 0) hbox6 (.slice A6 n6 k6)
          have s1 : w6.cell? ⟨gq, 0, none⟩ = some (.slice Aq nq cq) := blk_cell hbox6 rfl
          have s2 := blk_free (i := 0) hbox6
          have s3 : (w6.setCell ⟨gq, 0, none⟩ (.slice A6 n6 k6)).cell? ⟨gq, 1, none⟩ = some (.bool bad) := blk_cell hk1 rfl
          have s4 := blk_free (i := 1) hk1
          refine Ord.e_x rfl (by rfl) ?_
          go_wp2
          generalize ((w6.setCell ⟨gq, 0, none⟩ (.slice A6 n6 k6)).setCell ⟨gq, 1, none⟩ (.bool bad)) = w7 at *
          clear hbox6 hk1 s1 s2 s3 s4 hb56
          refine Ord.Seg.go trivial (fun h => by cases h) ?_
          (try simp only [Act.put, List.setIfInBounds_toArray, List.set_cons_zero, List.set_cons_succ])
          repeat (first | (refine Ord.e_p (v := ?_) rfl (by rfl) ?_ ?_; rotate_left; · (intro w2; go_simp; try with_reducible rfl)) | (refine Ord.e_u (by rfl) ?_)); (try simp only [Act.put, List.setIfInBounds_toArray, List.set_cons_zero, List.set_cons_succ])
          refine Ord.e_nil ?_
          go_wp2_with fail
          refine Ord.region_at [0, 3, 4, 5, 1, 2, 6, 7, 8, 10, 11, 9, 12, 13] (fun _ => True) true [95, 97, 98, 104] (by kernel_rfl) (by kernel_rfl) rfl trivial ?_
          simp only [Ord.lst, List.filterMap_cons, List.filterMap_nil, List.getElem?_toArray, List.getElem?_cons_succ, List.getElem?_cons_zero]
          replace hW7 := hW7.drew
          generalize w7.drew = w8 at *
          have d0 := blk_cell (i := 0) (v := .slice A6 n6 k6) hW7.2.1 rfl
          have hq8 := Rd.own hW7.2.2.1
          have hBy := wBytes_any g v4 l4 bad w8 hW7.1 (by omega)
          repeat (first | (refine Ord.e_p (v := ?_) rfl (by rfl) ?_ ?_; rotate_left; · (intro w2; go_simp; try with_reducible rfl)) | (refine Ord.e_u (by rfl) ?_)); (try simp only [Act.put, List.setIfInBounds_toArray, List.set_cons_zero, List.set_cons_succ])
          refine Ord.e_load Try.underlying22 rfl d0 rfl (by rfl) (by rfl) ?_
          (try simp only [Act.put, List.setIfInBounds_toArray, List.set_cons_zero, List.set_cons_succ])
          refine Ord.e_str Try.underlying22 Try.underlying5 Try.underlying9 hq8 rfl (by rfl) (by rfl) ?_
          (try simp only [Act.put, List.setIfInBounds_toArray, List.set_cons_zero, List.set_cons_succ])
          repeat (first | (refine Ord.e_p (v := ?_) rfl (by rfl) ?_ ?_; rotate_left; · (intro w2; go_simp; try with_reducible rfl)) | (refine Ord.e_u (by rfl) ?_)); (try simp only [Act.put, List.setIfInBounds_toArray, List.set_cons_zero, List.set_cons_succ])
          refine Ord.e_x rfl (by rfl) ?_
          go_wp2_with fail
          go_fit hBy
          rintro e w9 ⟨A9, c9, n9, rfl, hown9, hb9⟩
          go_wp2_with fail
          refine Ord.Seg.go trivial (fun _ => hb9) ?_
          (try simp only [Act.put, List.setIfInBounds_toArray, List.set_cons_zero, List.set_cons_succ])
          refine Ord.e_str Try.underlying22 Try.underlying5 Try.underlying9 (Rd.own hown9) rfl (by rfl) (by rfl) ?_
          (try simp only [Act.put, List.setIfInBounds_toArray, List.set_cons_zero, List.set_cons_succ])
          replace hW7 := hW7.more hb9
          have d1 := blk_cell (i := 1) (v := .bool bad) hW7.2.1 rfl
          have hF := wFail_any g _ v4 true bad w9 hW7.1.1
          rw [Bool.true_and, Bool.not_not] at hF
          clear d0 hq8 hBy hb9 hown9
          repeat (first | (refine Ord.e_p (v := ?_) rfl (by rfl) ?_ ?_; rotate_left; · (intro w2; go_simp; try with_reducible rfl)) | (refine Ord.e_u (by rfl) ?_)); (try simp only [Act.put, List.setIfInBounds_toArray, List.set_cons_zero, List.set_cons_succ])
          refine Ord.e_load Try.underlying4 rfl d1 rfl (by rfl) (by rfl) ?_
          (try simp only [Act.put, List.setIfInBounds_toArray, List.set_cons_zero, List.set_cons_succ])
          refine Ord.e_x rfl (by rfl) ?_
          go_wp2_with fail
          go_fit hF
          rintro e w10 ⟨rfl, rfl⟩
          go_wp2_with fail
          refine Ord.Seg.go trivial (fun _ => Below.refl _ _) ?_
          (try simp only [Act.put, List.setIfInBounds_toArray, List.set_cons_zero, List.set_cons_succ])
          repeat (first | (refine Ord.e_p (v := ?_) rfl (by rfl) ?_ ?_; rotate_left; · (intro w2; go_simp; try with_reducible rfl)) | (refine Ord.e_u (by rfl) ?_)); (try simp only [Act.put, List.setIfInBounds_toArray, List.set_cons_zero, List.set_cons_succ])
          refine Ord.e_nil ?_
          clear d1 hF
          go_wp2
          go_roundw
          case rel => exact ⟨k + 1, v4, l4, bad, A6, n6, k6, by omega, by go_num, hW7, by omega⟩
          case measure => simp [intOf]; omega
    · go_wp2
      go_ret
      exact ⟨rfl, hW.2.2.2.2.2.2.1⟩

set_option maxHeartbeats 400000 in
theorem writes_any (Ao : Option Addr) (no co : Nat) (ops : List OpV) (w : World) (ho : RdOps w w.heap.size Ao no co ops) :
    Calls Try.prog 4 #[.slice Ao no co] w fun e w' => e = .returned (.bool true) ∧ Below w.heap.size w w' := by
  cases hf : fewN ops with
  | true => exact writes_go Ao no co ops w ho hf
  | false =>
    go_enter Try.func4, Try.ntmps4
    go_wp2_with fail
    go_fit (few_any Ao no co w.heap.size ops w ho)
    rintro e w1 ⟨rfl, rfl⟩
    rw [hf]
    go_wp2_with fail
    go_fit (knows04 w)
    rintro e w1 ⟨rfl, hb1⟩
    go_wp2
    go_ret
    exact ⟨rfl, hb1⟩

end Go.Proofs.Ytglfhdkknhdphaa
