/-
  The law AckPlays walked; a row of calls (printed by gen_ack12.py).
-/
import Derived.Test.YtkelepnipndbbaaAck11
set_option linter.unusedSimpArgs false
set_option linter.unusedVariables false
namespace Go.Proofs.Ytkelepnipndbbaa
open Go.RowKit NumLaw
attribute [local go_sem] Addr.add_mid

/-- A call of the law: Ask, or Hear. -/
structure OpV where
  ask : Bool
  yes : Bool
  c : Int
  i : Int
def OpAt (w : World) (g off : Nat) (o : OpV) : Prop :=
  w.cell? ⟨g, off, none⟩ = some (.bool o.ask) ∧ w.cell? ⟨g, off + 1, none⟩ = some (.bool o.yes) ∧ w.cell? ⟨g, off + 2, none⟩ = some (.int .i64 o.c) ∧ w.cell? ⟨g, off + 3, none⟩ = some (.int .i64 o.i) ∧
    (-9223372036854775808 ≤ o.c ∧ o.c ≤ 9223372036854775807) ∧ (-9223372036854775808 ≤ o.i ∧ o.i ≤ 9223372036854775807)
def RdOp (w : World) (B : Nat) (A : Option Addr) (n c : Nat) (l : List OpV) : Prop :=
  l.length = n ∧ n ≤ c ∧ c ≤ maxLen ∧ (0 < n → ∃ g off, A = some ⟨g, off, none⟩ ∧ g < B ∧ ∀ k o, l[k]? = some o → OpAt w g (off + k * 4) o)
theorem RdOp.at_ {w : World} {B n c : Nat} {A : Option Addr} {l : List OpV} (h : RdOp w B A n c l) {k : Nat} (hk : k < n) : ∃ g off o, A = some ⟨g, off, none⟩ ∧ g < B ∧ l[k]? = some o ∧ OpAt w g (off + k * 4) o := by
  obtain ⟨h1, h2, h3, h4⟩ := h
  obtain ⟨g, off, e, hlt, ho⟩ := h4 (by omega)
  exact ⟨g, off, l[k], e, hlt, List.getElem?_eq_getElem (by omega), ho k _ (List.getElem?_eq_getElem (by omega))⟩
theorem Bk.below {w w2 w3 : World} {B g : Nat} {A : Option Addr} {n c : Nat} {l : List (Int × Int)} {y no od : Nat} (h : Bk w2 g A n c l y no od) (hb : Below B w w2) (hg : B ≤ g) (ha : Aw (Ft g A) w2 w3) : Below B w w3 := by
  have hgl := blk_lt h.hp
  refine ⟨ha.os.trans hb.os, ha.tape.trans hb.tape, ha.output.trans hb.output, Nat.le_trans hb.size ha.size, fun k hk => (ha.block k (by omega) ?_).trans (hb.block k hk)⟩
  rintro (h1 | ⟨a, h1, h2⟩)
  · omega
  · have := (h.ne a h1).1
    omega
theorem Aw.setRow {w : World} (g : Nat) (cs : Array Value) : Aw (fun k => k = g) w (w.setRow g cs) :=
  ⟨setRow_os w g cs, setRow_tape w g cs, setRow_output w g cs, by rw [setRow_size]; exact Nat.le_refl _, fun k _ hu => setRow_other w g k cs hu⟩
theorem RdA.aw {w w' : World} {n c : Nat} {A : Option Addr} {l : List (Int × Int)} {U : Nat → Prop} (h : RdA w w.heap.size A n c l) (ha : Aw U w w') (hu : ∀ a, A = some a → ¬ U a.block) : RdA w' w'.heap.size A n c l :=
  h.keep fun g off e hlt => ⟨Nat.lt_of_lt_of_le hlt ha.size, fun j => by
    have := ha.block g hlt (hu _ e)
    rw [World.cell?, World.cell?, show (⟨g, j, none⟩ : Addr).block = g from rfl, this]⟩
theorem dropAt_len (l : List (Int × Int)) (i : Int) : (dropAt l i).length ≤ l.length := by
  unfold dropAt
  split
  · exact Nat.le_refl _
  · rw [List.length_append, List.length_take, List.length_drop]; omega
set_option maxRecDepth 10000 in
set_option maxHeartbeats 8000000 in
theorem ackplays_any (A : Option Addr) (n c : Nat) (l : List OpV) (w : World) (h : RdOp w w.heap.size A n c l) :
    Calls Try.prog 3 #[.slice A n c] w fun e w' => e = .returned (.bool true) ∧ Below w.heap.size w w' := by
  have hle := h.2.1
  have hmx := h.2.2.1
  unfold maxLen at hmx
  go_enter Try.func3, Try.ntmps3
  by_cases hn : 60 < n
  · go_wp2_with fail
    go_fit (knows19 _)
    rintro e w1 ⟨rfl, hb1⟩
    go_wp2
    go_ret
    exact ⟨rfl, hb1⟩
  go_wp2_with fail
  go_fit (knows19 _)
  rintro e w1 ⟨rfl, hb1⟩
  go_wp2_with fail
  go_fit (ackNew_any w1)
  rintro e w2 ⟨rfl, hk2, hb12⟩
  have hb2 := bnx hb1 hb12
  have hg1 : w.heap.size ≤ w1.heap.size := hb1.size
  generalize w1.heap.size = g at *
  clear hb1 hb12 w1
  have hgl := blk_lt hk2.hp
  have hk3 := hk2.up ((Below.refl _ _).alloc (Nat.le_refl _) (.cells #[.slice none 0 0, .int .i64 0, .int .i64 0, .int .i64 0] 28))
  have hb3 := hb2.alloc hb2.size (.cells #[.slice none 0 0, .int .i64 0, .int .i64 0, .int .i64 0] 28)
  have hq3 := heap_alloc_new w2 (.cells #[.slice none 0 0, .int .i64 0, .int .i64 0, .int .i64 0] 28)
  go_wp2_with fail
  generalize (w2.alloc (.cells #[.slice none 0 0, .int .i64 0, .int .i64 0, .int .i64 0] 28)) = w3 at *
  have hgq : g < w2.heap.size := hgl
  have hgq0 : w.heap.size ≤ w2.heap.size := hb2.size
  generalize w2.heap.size = gq at *
  clear hk2 hb2 w2
  go_loopw [5] (fun i wr => ∃ (k : Nat) (Ak : Option Addr) (nk ck : Nat) (Aq : Option Addr) (nq cq : Nat) (L : List (Int × Int)) (y no od : Nat), k ≤ n ∧ i = .int .i64 k ∧ Below w.heap.size w wr ∧ Bk wr g Ak nk ck L y no od ∧ wr.heap[gq]? = some (.cells #[.slice Aq nq cq, .int .i64 y, .int .i64 no, .int .i64 od] 28) ∧ RdA wr wr.heap.size Aq nq cq L ∧ (∀ a, Aq = some a → ¬ Ft g Ak a.block ∧ a.block ≠ gq ∧ a.block < wr.heap.size) ∧ ¬ Ft g Ak gq ∧ L.length ≤ k ∧ y ≤ k ∧ no ≤ k ∧ od ≤ k) (fun i _ => n - (intOf i).toNat)
  case atStart => exact ⟨0, none, 0, 0, none, 0, 0, [], 0, 0, 0, by omega, rfl, hb3, hk3, hq3, ⟨rfl, Nat.le_refl _, Nat.zero_le _, fun h => absurd h (Nat.lt_irrefl _)⟩, fun a e => by (cases e), by (rintro (h | ⟨a, h, _⟩); omega; cases h), by (simp), by omega, by omega, by omega⟩
  case round =>
    clear hk3 hb3 hq3 w3
    obtain ⟨k, Ak, nk, ck, Aq, nq, cq, L, y, no, od, hk, rfl, hb, hbk, hq, hrq, hdq, hdg, hL, hy, hno, hod⟩ := hrel
    by_cases hlt : k < n
    · obtain ⟨gi, off, o, rfl, hgi, hx, a0, a1, a2, a3, hc, hi⟩ := h.at_ hlt
      clear hx
      obtain ⟨ask, yes, cl, id⟩ := o
      simp only at a0 a1 a2 a3 hc hi
      have a0' := (hb.cell (p := ⟨gi, off + k * 4, none⟩) hgi).trans a0
      have hnk : nk ≤ 900 := by have := hbk.rd.1; omega
      have hnq : nq ≤ 900 := by have := hrq.1; omega
      cases ask with
      | true =>
        go_wp2_with fail
        clear a0'
        refine Ord.region_ (fun w' => Below w.heap.size w w') false [] (by kernel_rfl) (by kernel_rfl) hb.drew ?_
        have hb2 := hb.drew
        have hbk2 := hbk.up (Below.refl _ _).drew
        have hq2 : wr.drew.heap[gq]? = _ := hq
        replace hdq : ∀ a, Aq = some a → ¬ Ft g Ak a.block ∧ a.block ≠ gq ∧ a.block < wr.drew.heap.size := hdq
        have hrq2 := hrq.nx (Below.refl _ _).drew
        generalize wr.drew = w2 at *
        clear hb hbk hq hrq
        ((with_reducible refine Ord.e_p (v := ?_) ?_ ?_ ?_ ?_); rotate_left; (· exact rfl); (· kernel_rfl); (· intro w2; go_simp; try with_reducible rfl))
        ((with_reducible refine Ord.e_p (v := ?_) ?_ ?_ ?_ ?_); rotate_left; (· exact rfl); (· kernel_rfl); (· intro w2; go_simp; try with_reducible rfl))
        ((with_reducible refine Ord.e_p (v := ?_) ?_ ?_ ?_ ?_); rotate_left; (· exact rfl); (· kernel_rfl); (· intro w2; go_simp; try with_reducible rfl))
        ((with_reducible refine Ord.e_p (v := ?_) ?_ ?_ ?_ ?_); rotate_left; (· exact rfl); (· kernel_rfl); (· intro w2; go_simp; try with_reducible rfl))
        ((with_reducible refine Ord.e_p (v := ?_) ?_ ?_ ?_ ?_); rotate_left; (· exact rfl); (· kernel_rfl); (· intro w2; go_simp; try with_reducible rfl))
        ((with_reducible refine Ord.e_p (v := ?_) ?_ ?_ ?_ ?_); rotate_left; (· exact rfl); (· kernel_rfl); (· intro w2; go_simp; try with_reducible rfl))
        (try simp only [Act.put, List.setIfInBounds_toArray, List.set_cons_zero, List.set_cons_succ])
        refine Ord.e_loadS Try.underlying2 rfl (fun w' hS => ((show Below _ w w' from hS).cell (p := ⟨gi, off + k * 4 + 2, none⟩) hgi).trans a2) hb2 rfl (by kernel_rfl) ?_
        (try simp only [Act.put, List.setIfInBounds_toArray, List.set_cons_zero, List.set_cons_succ])
        ((with_reducible refine Ord.e_p (v := ?_) ?_ ?_ ?_ ?_); rotate_left; (· exact rfl); (· kernel_rfl); (· intro w2; go_simp; try with_reducible rfl))
        ((with_reducible refine Ord.e_p (v := ?_) ?_ ?_ ?_ ?_); rotate_left; (· exact rfl); (· kernel_rfl); (· intro w2; go_simp; try with_reducible rfl))
        ((with_reducible refine Ord.e_p (v := ?_) ?_ ?_ ?_ ?_); rotate_left; (· exact rfl); (· kernel_rfl); (· intro w2; go_simp; try with_reducible rfl))
        ((with_reducible refine Ord.e_p (v := ?_) ?_ ?_ ?_ ?_); rotate_left; (· exact rfl); (· kernel_rfl); (· intro w2; go_simp; try with_reducible rfl))
        ((with_reducible refine Ord.e_p (v := ?_) ?_ ?_ ?_ ?_); rotate_left; (· exact rfl); (· kernel_rfl); (· intro w2; go_simp; try with_reducible rfl))
        (try simp only [Act.put, List.setIfInBounds_toArray, List.set_cons_zero, List.set_cons_succ])
        refine Ord.e_loadS Try.underlying2 rfl (fun w' hS => ((show Below _ w w' from hS).cell (p := ⟨gi, off + k * 4 + 3, none⟩) hgi).trans a3) hb2 rfl (by kernel_rfl) ?_
        (try simp only [Act.put, List.setIfInBounds_toArray, List.set_cons_zero, List.set_cons_succ])
        refine Ord.e_x rfl (by kernel_rfl) ?_
        go_wp2_with fail
        go_fit (ask_any g Ak nk ck L y no od cl id w2 hbk2 hc hi hnk)
        rintro e w3 ⟨rfl, A3, n3, c3, hk3, ha3, hA3⟩
        have hb3 := hbk2.below hb2 hg1 ha3
        go_wp2_with fail
        refine Ord.Seg.go hb3 (fun h => by cases h) ?_
        (try simp only [Act.put, List.setIfInBounds_toArray, List.set_cons_zero, List.set_cons_succ])
        ((with_reducible refine Ord.e_p (v := ?_) ?_ ?_ ?_ ?_); rotate_left; (· exact rfl); (· kernel_rfl); (· intro w2; go_simp; try with_reducible rfl))
        (try simp only [Act.put, List.setIfInBounds_toArray, List.set_cons_zero, List.set_cons_succ])
        refine Ord.e_nil ?_
        have hq3 := ha3.keep hq2 hdg
        have hrq3 := hrq2.aw ha3 (fun a e => (hdq a e).1)
        have hgq2 := blk_lt hq2
        have hdg3 : ¬ Ft g A3 gq := by
          rintro (h | ⟨a, h, h'⟩)
          · omega
          · rcases hA3 a h with ⟨b, e1, e2⟩ | h1
            · exact hdg (.inr ⟨b, e1, e2.trans h'⟩)
            · omega
        have hdq3 : ∀ a, Aq = some a → ¬ Ft g A3 a.block ∧ a.block ≠ gq := fun a e => ⟨by
          rintro (h | ⟨a', h, h'⟩)
          · exact (hdq a e).1 (.inl h)
          · rcases hA3 a' h with ⟨b, e1, e2⟩ | h1
            · exact (hdq a e).1 (.inr ⟨b, e1, e2.trans h'⟩)
            · have := (hdq a e).2.2
              omega, (hdq a e).2.1⟩
        have hlow3 : ∀ a, Aq = some a → a.block < w3.heap.size := fun a e => Nat.lt_of_lt_of_le (hdq a e).2.2 ha3.size
        have hnk3 := hk3.rd.1
        clear hq2 hrq2 hbk2 ha3 hdq hdg hA3 hgq2 hb2
        go_wp2_with fail
        refine Ord.region_ (fun w' => Below w.heap.size w w') true [47] (by kernel_rfl) (by kernel_rfl) hb3.drew ?_
        replace hb3 := hb3.drew
        replace hk3 := hk3.up (Below.refl _ _).drew
        replace hq3 : w3.drew.heap[gq]? = _ := hq3
        replace hrq3 := hrq3.nx (Below.refl _ _).drew
        replace hlow3 : ∀ a, Aq = some a → a.block < w3.drew.heap.size := hlow3
        generalize w3.drew = w4 at *
        have hrow : w4.rangeAt gq 0 [.slice Aq nq cq, .int .i64 y, .int .i64 no, .int .i64 od] := own_range hq3 0 (fun j v hv => by simpa using hv)
        refine Ord.e_row Try.underlying28 rfl (by kernel_rfl) rfl hrow (by rfl) (by kernel_rfl) ?_
        (try simp only [Act.put, List.setIfInBounds_toArray, List.set_cons_zero, List.set_cons_succ])
        ((with_reducible refine Ord.e_p (v := ?_) ?_ ?_ ?_ ?_); rotate_left; (· exact rfl); (· kernel_rfl); (· intro w2; go_simp; try with_reducible rfl))
        ((with_reducible refine Ord.e_p (v := ?_) ?_ ?_ ?_ ?_); rotate_left; (· exact rfl); (· kernel_rfl); (· intro w2; go_simp; try with_reducible rfl))
        ((with_reducible refine Ord.e_p (v := ?_) ?_ ?_ ?_ ?_); rotate_left; (· exact rfl); (· kernel_rfl); (· intro w2; go_simp; try with_reducible rfl))
        ((with_reducible refine Ord.e_p (v := ?_) ?_ ?_ ?_ ?_); rotate_left; (· exact rfl); (· kernel_rfl); (· intro w2; go_simp; try with_reducible rfl))
        ((with_reducible refine Ord.e_p (v := ?_) ?_ ?_ ?_ ?_); rotate_left; (· exact rfl); (· kernel_rfl); (· intro w2; go_simp; try with_reducible rfl))
        (try simp only [Act.put, List.setIfInBounds_toArray, List.set_cons_zero, List.set_cons_succ])
        refine Ord.e_loadS Try.underlying2 rfl (fun w' hS => ((show Below _ w w' from hS).cell (p := ⟨gi, off + k * 4 + 2, none⟩) hgi).trans a2) hb3 rfl (by kernel_rfl) ?_
        (try simp only [Act.put, List.setIfInBounds_toArray, List.set_cons_zero, List.set_cons_succ])
        ((with_reducible refine Ord.e_p (v := ?_) ?_ ?_ ?_ ?_); rotate_left; (· exact rfl); (· kernel_rfl); (· intro w2; go_simp; try with_reducible rfl))
        ((with_reducible refine Ord.e_p (v := ?_) ?_ ?_ ?_ ?_); rotate_left; (· exact rfl); (· kernel_rfl); (· intro w2; go_simp; try with_reducible rfl))
        ((with_reducible refine Ord.e_p (v := ?_) ?_ ?_ ?_ ?_); rotate_left; (· exact rfl); (· kernel_rfl); (· intro w2; go_simp; try with_reducible rfl))
        ((with_reducible refine Ord.e_p (v := ?_) ?_ ?_ ?_ ?_); rotate_left; (· exact rfl); (· kernel_rfl); (· intro w2; go_simp; try with_reducible rfl))
        ((with_reducible refine Ord.e_p (v := ?_) ?_ ?_ ?_ ?_); rotate_left; (· exact rfl); (· kernel_rfl); (· intro w2; go_simp; try with_reducible rfl))
        (try simp only [Act.put, List.setIfInBounds_toArray, List.set_cons_zero, List.set_cons_succ])
        refine Ord.e_loadS Try.underlying2 rfl (fun w' hS => ((show Below _ w w' from hS).cell (p := ⟨gi, off + k * 4 + 3, none⟩) hgi).trans a3) hb3 rfl (by kernel_rfl) ?_
        (try simp only [Act.put, List.setIfInBounds_toArray, List.set_cons_zero, List.set_cons_succ])
        refine Ord.e_x rfl (by kernel_rfl) ?_
        go_wp2_with fail
        go_fit (qask_any Aq nq cq L y no od cl id w4 hrq3 hnq)
        rintro e w5 ⟨A5, n5, c5, rfl, hrd5, hb45, hfr5⟩
        have hb5 := hb3.trans (hb45.mono hb3.size)
        go_wp2_with fail
        refine Ord.Seg.go hb5 (fun _ => hb45) ?_
        (try simp only [Act.put, List.setIfInBounds_toArray, List.set_cons_zero, List.set_cons_succ])
        have hk5 := hk3.up hb45
        have hq5 := blk_old hq3 hb45 (blk_lt hq3)
        have hdg5 : gq < w4.heap.size := blk_lt hq3
        have hA5 : ∀ a, A5 = some a → ¬ Ft g A3 a.block ∧ a.block ≠ gq := fun a e => by
          rcases hfr5 a e with h1 | h1
          · exact hdq3 a h1
          · refine ⟨?_, by omega⟩
            rintro (h | ⟨a', h, h'⟩)
            · have := blk_lt hk3.hp; omega
            · have := (hk3.ne a' h).2; omega
        have hlow5 : ∀ a, A5 = some a → a.block < w5.heap.size := fun a e => by
          rcases hfr5 a e with h1 | h1
          · exact Nat.lt_of_lt_of_le (hlow3 a h1) hb45.size
          · exact h1.2
        clear hq3 hrq3 hk3 hb3 hrow hb45 hfr5 hlow3
        ((with_reducible refine Ord.e_p (v := ?_) ?_ ?_ ?_ ?_); rotate_left; (· exact rfl); (· kernel_rfl); (· intro w2; go_simp; try with_reducible rfl))
        (try simp only [Act.put, List.setIfInBounds_toArray, List.set_cons_zero, List.set_cons_succ])
        ((with_reducible refine Ord.e_p (v := ?_) ?_ ?_ ?_ ?_); rotate_left; (· exact rfl); (· kernel_rfl); (· intro w2; go_simp; try with_reducible rfl))
        (try simp only [Act.put, List.setIfInBounds_toArray, List.set_cons_zero, List.set_cons_succ])
        ((with_reducible refine Ord.e_p (v := ?_) ?_ ?_ ?_ ?_); rotate_left; (· exact rfl); (· kernel_rfl); (· intro w2; go_simp; try with_reducible rfl))
        (try simp only [Act.put, List.setIfInBounds_toArray, List.set_cons_zero, List.set_cons_succ])
        refine Ord.e_x rfl (by kernel_rfl) ?_
        refine wpList_store_row rfl _ _ _ rfl gq #[.slice A5 n5 c5, .int .i64 ((y : Nat) : Int), .int .i64 ((no : Nat) : Int), .int .i64 ((od : Nat) : Int)] rfl rfl _ _ hq5 (by kernel_rfl) rfl (by kernel_rfl) ?_
        have hb6 := below_setRow hb5 hgq0 (#[.slice A5 n5 c5, .int .i64 ((y : Nat) : Int), .int .i64 ((no : Nat) : Int), .int .i64 ((od : Nat) : Int)] : Array Value)
        have hq6 := setRow_heap _ _ _ (#[.slice A5 n5 c5, .int .i64 ((y : Nat) : Int), .int .i64 ((no : Nat) : Int), .int .i64 ((od : Nat) : Int)] : Array Value) _ _ hq5
        have haw6 := Aw.setRow (w := w5) gq (#[.slice A5 n5 c5, .int .i64 ((y : Nat) : Int), .int .i64 ((no : Nat) : Int), .int .i64 ((od : Nat) : Int)] : Array Value)
        have hk6 := hk5.keep haw6 (fun k hk e => hdg3 (by rw [← e]; exact hk))
        have hrd6 := hrd5.aw haw6 (fun a e => (hA5 a e).2)
        generalize (w5.setRow gq #[.slice A5 n5 c5, .int .i64 ((y : Nat) : Int), .int .i64 ((no : Nat) : Int), .int .i64 ((od : Nat) : Int)]) = w6 at *
        have hsz56 := haw6.size
        clear hq5 hk5 hrd5 haw6 hb5
        go_wp2_with fail
        refine Ord.Seg.go hb6 (fun h => by cases h) ?_
        (try simp only [Act.put, List.setIfInBounds_toArray, List.set_cons_zero, List.set_cons_succ])
        ((with_reducible refine Ord.e_p (v := ?_) ?_ ?_ ?_ ?_); rotate_left; (· exact rfl); (· kernel_rfl); (· intro w2; go_simp; try with_reducible rfl))
        (try simp only [Act.put, List.setIfInBounds_toArray, List.set_cons_zero, List.set_cons_succ])
        refine Ord.e_nil ?_
        go_wp2_with fail
        go_fit (counts_any g A3 n3 c3 _ _ _ _ w6 hk6)
        rintro e w7 ⟨rfl, hb67⟩
        have hsz67 := hb67.size
        replace hb6 := bnx hb6 hb67
        replace hk6 := hk6.up hb67
        replace hq6 := blk_old hq6 hb67 (blk_lt hq6)
        replace hrd6 := hrd6.nx hb67
        clear hb67
        have hLn : ((if (ackOk cl id && decide (L.length < 16)) = true then L ++ [(cl, id)] else L)).length ≤ k + 1 := by split; (rw [List.length_append]; simp only [List.length_cons, List.length_nil]; omega); omega
        have hyn : (y) ≤ k + 1 := by omega
        have hnn : (no) ≤ k + 1 := by omega
        have hon : (od) ≤ k + 1 := by omega
        generalize ((if (ackOk cl id && decide (L.length < 16)) = true then L ++ [(cl, id)] else L)) = L' at *
        generalize ((ackOk cl id && decide (L.length < 16))) = vv at *
        have hn3' : n3 ≤ 900 := by omega
        go_wp2_with fail
        refine Ord.region_ (fun w' => Below w7.heap.size w7 w') false [] (by kernel_rfl) (by kernel_rfl) ((Below.refl _ _).drew) ?_
        have h8 : Below w7.heap.size w7 w7.drew := (Below.refl _ _).drew
        generalize w7.drew = w8 at *
        have hlq := blk_lt hq6
        have q0 := blk_cell (i := 0) (v := .slice A5 n5 c5) hq6 rfl
        have q1 := blk_cell (i := 1) (v := .int .i64 y) hq6 rfl
        have q2 := blk_cell (i := 2) (v := .int .i64 no) hq6 rfl
        have q3 := blk_cell (i := 3) (v := .int .i64 od) hq6 rfl
        ((with_reducible refine Ord.e_p (v := ?_) ?_ ?_ ?_ ?_); rotate_left; (· exact rfl); (· kernel_rfl); (· intro w2; go_simp; try with_reducible rfl))
        (try simp only [Act.put, List.setIfInBounds_toArray, List.set_cons_zero, List.set_cons_succ])
        ((with_reducible refine Ord.e_p (v := ?_) ?_ ?_ ?_ ?_); rotate_left; (· exact rfl); (· kernel_rfl); (· intro w2; go_simp; try with_reducible rfl))
        (try simp only [Act.put, List.setIfInBounds_toArray, List.set_cons_zero, List.set_cons_succ])
        ((with_reducible refine Ord.e_p (v := ?_) ?_ ?_ ?_ ?_); rotate_left; (· exact rfl); (· kernel_rfl); (· intro w2; go_simp; try with_reducible rfl))
        (try simp only [Act.put, List.setIfInBounds_toArray, List.set_cons_zero, List.set_cons_succ])
        ((with_reducible refine Ord.e_p (v := ?_) ?_ ?_ ?_ ?_); rotate_left; (· exact rfl); (· kernel_rfl); (· intro w2; go_simp; try with_reducible rfl))
        (try simp only [Act.put, List.setIfInBounds_toArray, List.set_cons_zero, List.set_cons_succ])
        ((with_reducible refine Ord.e_p (v := ?_) ?_ ?_ ?_ ?_); rotate_left; (· exact rfl); (· kernel_rfl); (· intro w2; go_simp; try with_reducible rfl))
        (try simp only [Act.put, List.setIfInBounds_toArray, List.set_cons_zero, List.set_cons_succ])
        refine Ord.e_x rfl (by kernel_rfl) ?_
        go_wp2_with fail
        go_fit (openA_any g A3 n3 c3 L' _ _ _ w8 (hk6.up h8) (by omega))
        rintro e w9 ⟨A9, n9, c9, rfl, hown9, hb89⟩
        have h9 := h8.trans (hb89.mono h8.size)
        go_wp2_with fail
        refine Ord.Seg.go h9 (fun h => by cases h) ?_
        (try simp only [Act.put, List.setIfInBounds_toArray, List.set_cons_zero, List.set_cons_succ])
        ((with_reducible refine Ord.e_p (v := ?_) ?_ ?_ ?_ ?_); rotate_left; (· exact rfl); (· kernel_rfl); (· intro w2; go_simp; try with_reducible rfl))
        (try simp only [Act.put, List.setIfInBounds_toArray, List.set_cons_zero, List.set_cons_succ])
        refine Ord.e_loadS Try.underlying26 rfl (fun w' hS => ((show Below _ w7 w' from hS).cell (p := ⟨gq, 0, none⟩) hlq).trans q0) h9 rfl (by kernel_rfl) ?_
        (try simp only [Act.put, List.setIfInBounds_toArray, List.set_cons_zero, List.set_cons_succ])
        refine Ord.e_x rfl (by kernel_rfl) ?_
        go_wp2_with fail
        go_fit (qsame19_any A9 n9 c9 A5 n5 c5 L' w9 (rdA_own hown9) (hrd6.nx h9))
        rintro e w10 ⟨rfl, hb910⟩
        have h10 := h9.trans (hb910.mono h9.size)
        go_wp2_with fail
        refine Ord.Seg.go h10 (fun h => by cases h) ?_
        (try simp only [Act.put, List.setIfInBounds_toArray, List.set_cons_zero, List.set_cons_succ])
        clear h8 h9 hb89 hb910 hown9 q0
        ((with_reducible refine Ord.e_p (v := ?_) ?_ ?_ ?_ ?_); rotate_left; (· exact rfl); (· kernel_rfl); (· intro w2; go_simp; try with_reducible rfl))
        (try simp only [Act.put, List.setIfInBounds_toArray, List.set_cons_zero, List.set_cons_succ])
        ((with_reducible refine Ord.e_p (v := ?_) ?_ ?_ ?_ ?_); rotate_left; (· exact rfl); (· kernel_rfl); (· intro w2; go_simp; try with_reducible rfl))
        (try simp only [Act.put, List.setIfInBounds_toArray, List.set_cons_zero, List.set_cons_succ])
        ((with_reducible refine Ord.e_p (v := ?_) ?_ ?_ ?_ ?_); rotate_left; (· exact rfl); (· kernel_rfl); (· intro w2; go_simp; try with_reducible rfl))
        (try simp only [Act.put, List.setIfInBounds_toArray, List.set_cons_zero, List.set_cons_succ])
        ((with_reducible refine Ord.e_p (v := ?_) ?_ ?_ ?_ ?_); rotate_left; (· exact rfl); (· kernel_rfl); (· intro w2; go_simp; try with_reducible rfl))
        ((with_reducible refine Ord.e_p (v := ?_) ?_ ?_ ?_ ?_); rotate_left; (· exact rfl); (· kernel_rfl); (· intro w2; go_simp; try with_reducible rfl))
        (try simp only [Act.put, List.setIfInBounds_toArray, List.set_cons_zero, List.set_cons_succ])
        refine Ord.e_loadS Try.underlying3 rfl (fun w' hS => ((show Below _ w7 w' from hS).cell (p := ⟨gq, 1, none⟩) hlq).trans q1) h10 rfl (by kernel_rfl) ?_
        (try simp only [Act.put, List.setIfInBounds_toArray, List.set_cons_zero, List.set_cons_succ])
        ((with_reducible refine Ord.e_p (v := ?_) ?_ ?_ ?_ ?_); rotate_left; (· exact rfl); (· kernel_rfl); (· intro w2; go_simp; try with_reducible rfl))
        (try simp only [Act.put, List.setIfInBounds_toArray, List.set_cons_zero, List.set_cons_succ])
        ((with_reducible refine Ord.e_p (v := ?_) ?_ ?_ ?_ ?_); rotate_left; (· exact rfl); (· kernel_rfl); (· intro w2; go_simp; try with_reducible rfl))
        (try simp only [Act.put, List.setIfInBounds_toArray, List.set_cons_zero, List.set_cons_succ])
        ((with_reducible refine Ord.e_p (v := ?_) ?_ ?_ ?_ ?_); rotate_left; (· exact rfl); (· kernel_rfl); (· intro w2; go_simp; try with_reducible rfl))
        (try simp only [Act.put, List.setIfInBounds_toArray, List.set_cons_zero, List.set_cons_succ])
        ((with_reducible refine Ord.e_p (v := ?_) ?_ ?_ ?_ ?_); rotate_left; (· exact rfl); (· kernel_rfl); (· intro w2; go_simp; try with_reducible rfl))
        ((with_reducible refine Ord.e_p (v := ?_) ?_ ?_ ?_ ?_); rotate_left; (· exact rfl); (· kernel_rfl); (· intro w2; go_simp; try with_reducible rfl))
        (try simp only [Act.put, List.setIfInBounds_toArray, List.set_cons_zero, List.set_cons_succ])
        refine Ord.e_loadS Try.underlying3 rfl (fun w' hS => ((show Below _ w7 w' from hS).cell (p := ⟨gq, 2, none⟩) hlq).trans q2) h10 rfl (by kernel_rfl) ?_
        (try simp only [Act.put, List.setIfInBounds_toArray, List.set_cons_zero, List.set_cons_succ])
        ((with_reducible refine Ord.e_p (v := ?_) ?_ ?_ ?_ ?_); rotate_left; (· exact rfl); (· kernel_rfl); (· intro w2; go_simp; try with_reducible rfl))
        (try simp only [Act.put, List.setIfInBounds_toArray, List.set_cons_zero, List.set_cons_succ])
        ((with_reducible refine Ord.e_p (v := ?_) ?_ ?_ ?_ ?_); rotate_left; (· exact rfl); (· kernel_rfl); (· intro w2; go_simp; try with_reducible rfl))
        (try simp only [Act.put, List.setIfInBounds_toArray, List.set_cons_zero, List.set_cons_succ])
        ((with_reducible refine Ord.e_p (v := ?_) ?_ ?_ ?_ ?_); rotate_left; (· exact rfl); (· kernel_rfl); (· intro w2; go_simp; try with_reducible rfl))
        (try simp only [Act.put, List.setIfInBounds_toArray, List.set_cons_zero, List.set_cons_succ])
        ((with_reducible refine Ord.e_p (v := ?_) ?_ ?_ ?_ ?_); rotate_left; (· exact rfl); (· kernel_rfl); (· intro w2; go_simp; try with_reducible rfl))
        ((with_reducible refine Ord.e_p (v := ?_) ?_ ?_ ?_ ?_); rotate_left; (· exact rfl); (· kernel_rfl); (· intro w2; go_simp; try with_reducible rfl))
        (try simp only [Act.put, List.setIfInBounds_toArray, List.set_cons_zero, List.set_cons_succ])
        refine Ord.e_loadS Try.underlying3 rfl (fun w' hS => ((show Below _ w7 w' from hS).cell (p := ⟨gq, 3, none⟩) hlq).trans q3) h10 rfl (by kernel_rfl) ?_
        (try simp only [Act.put, List.setIfInBounds_toArray, List.set_cons_zero, List.set_cons_succ])
        ((with_reducible refine Ord.e_p (v := ?_) ?_ ?_ ?_ ?_); rotate_left; (· exact rfl); (· kernel_rfl); (· intro w2; go_simp; try with_reducible rfl))
        (try simp only [Act.put, List.setIfInBounds_toArray, List.set_cons_zero, List.set_cons_succ])
        ((with_reducible refine Ord.e_p (v := ?_) ?_ ?_ ?_ ?_); rotate_left; (· exact rfl); (· kernel_rfl); (· intro w2; go_simp; try with_reducible rfl))
        (try simp only [Act.put, List.setIfInBounds_toArray, List.set_cons_zero, List.set_cons_succ])
        refine Ord.e_nil ?_
        replace hk6 := hk6.up h10
        replace hq6 := blk_old hq6 h10 hlq
        replace hrd6 := hrd6.nx h10
        replace hb6 := bnx hb6 h10
        have hsz10 := h10.size
        have hdone : ∀ a, A5 = some a → ¬ Ft g A3 a.block ∧ a.block ≠ gq ∧ a.block < w10.heap.size := fun a e => ⟨(hA5 a e).1, (hA5 a e).2, by have := hlow5 a e; omega⟩
        clear q1 q2 q3 h10
        go_wp2
        go_roundw
        case rel => exact ⟨k + 1, A3, n3, c3, A5, n5, c5, L', _, _, _, by omega, by go_num, hb6, hk6, hq6, hrd6, hdone, hdg3, hLn, hyn, hnn, hon⟩
        case measure => simp [intOf]; omega
      | false =>
        have a1' := (hb.cell (p := ⟨gi, off + k * 4 + 1, none⟩) hgi).trans a1
        have a2' := (hb.cell (p := ⟨gi, off + k * 4 + 2, none⟩) hgi).trans a2
        have a3' := (hb.cell (p := ⟨gi, off + k * 4 + 3, none⟩) hgi).trans a3
        go_wp2_with fail
        clear a0' a1' a2' a3'
        have hb2 := hb
        have hbk2 := hbk
        have hq2 := hq
        have hrq2 := hrq
        clear hb hbk hq hrq
        obtain ⟨w2, rfl⟩ : ∃ w2, w2 = wr := ⟨_, rfl⟩
        have hH := hear_any g Ak nk ck L y no od yes cl id w2 hbk2 hnk (by omega) (by omega) (by omega)
        have hQ := fun (w4 : World) (h4 : RdA w4 w4.heap.size Aq nq cq L) => qhear_any Aq nq cq L y no od yes cl id w4 h4 hnq (by omega) (by omega) (by omega)
        have hLn := Nat.le_trans (dropAt_len L (idxI (cl, id) 0 L)) (Nat.le_trans hL (Nat.le_succ k))
        have hyn : (if idxI (cl, id) 0 L < 0 then y else if yes = true then y + 1 else y) ≤ k + 1 := by (split; omega; (split <;> omega))
        have hnn : (if idxI (cl, id) 0 L < 0 then no else if yes = true then no else no + 1) ≤ k + 1 := by (split; omega; (split <;> omega))
        have hon : (if idxI (cl, id) 0 L < 0 then od + 1 else od) ≤ k + 1 := by split <;> omega
        generalize (dropAt L (idxI (cl, id) 0 L)) = L' at hH hQ hLn
        generalize (if idxI (cl, id) 0 L < 0 then y else if yes = true then y + 1 else y) = y' at hH hQ hyn
        generalize (if idxI (cl, id) 0 L < 0 then no else if yes = true then no else no + 1) = no' at hH hQ hnn
        generalize (if idxI (cl, id) 0 L < 0 then od + 1 else od) = od' at hH hQ hon
        generalize (decide (0 ≤ idxI (cl, id) 0 L)) = vv at hH hQ
        have HQ := Lib.hid hQ
        clear hQ
        go_fit hH
        rintro e w3 ⟨rfl, A3, n3, c3, hk3, ha3, hA3⟩
        have hb3 := hbk2.below hb2 hg1 ha3
        have hrin : w.rangeAt gi (off + k * 4 + 1) [.bool yes, .int .i64 cl, .int .i64 id] := fun j v hv => by
          match j, hv with
          | 0, hv => simp at hv; subst hv; exact a1
          | 1, hv => simp at hv; subst hv; exact a2
          | 2, hv => simp at hv; subst hv; exact a3
        have Hrin := Lib.hid hrin
        clear hrin
        have hq3 := ha3.keep hq2 hdg
        have hrq3 := hrq2.aw ha3 (fun a e => (hdq a e).1)
        have hgq2 := blk_lt hq2
        have hdg3 : ¬ Ft g A3 gq := by
          rintro (h | ⟨a, h, h'⟩)
          · omega
          · rcases hA3 a h with ⟨b, e1, e2⟩ | h1
            · exact hdg (.inr ⟨b, e1, e2.trans h'⟩)
            · omega
        have hdq3 : ∀ a, Aq = some a → ¬ Ft g A3 a.block ∧ a.block ≠ gq := fun a e => ⟨by
          rintro (h | ⟨a', h, h'⟩)
          · exact (hdq a e).1 (.inl h)
          · rcases hA3 a' h with ⟨b, e1, e2⟩ | h1
            · exact (hdq a e).1 (.inr ⟨b, e1, e2.trans h'⟩)
            · have := (hdq a e).2.2
              omega, (hdq a e).2.1⟩
        have hlow3 : ∀ a, Aq = some a → a.block < w3.heap.size := fun a e => Nat.lt_of_lt_of_le (hdq a e).2.2 ha3.size
        have hnk3 := hk3.rd.1
        clear hq2 hrq2 hbk2 ha3 hdq hdg hA3 hgq2 hb2
        go_wp2_with fail
        refine Ord.region_ (fun w' => Below w.heap.size w w') true [71] (by kernel_rfl) (by kernel_rfl) hb3.drew ?_
        replace hb3 := hb3.drew
        replace hk3 := hk3.up (Below.refl _ _).drew
        replace hq3 : w3.drew.heap[gq]? = _ := hq3
        replace hrq3 := hrq3.nx (Below.refl _ _).drew
        replace hlow3 : ∀ a, Aq = some a → a.block < w3.drew.heap.size := hlow3
        generalize w3.drew = w4 at *
        have hrow : w4.rangeAt gq 0 [.slice Aq nq cq, .int .i64 y, .int .i64 no, .int .i64 od] := own_range hq3 0 (fun j v hv => by simpa using hv)
        refine Ord.e_row Try.underlying28 rfl (by kernel_rfl) rfl hrow (by rfl) (by kernel_rfl) ?_
        (try simp only [Act.put, List.setIfInBounds_toArray, List.set_cons_zero, List.set_cons_succ])
        ((with_reducible refine Ord.e_p (v := ?_) ?_ ?_ ?_ ?_); rotate_left; (· exact rfl); (· kernel_rfl); (· intro w2; go_simp; try with_reducible rfl))
        ((with_reducible refine Ord.e_p (v := ?_) ?_ ?_ ?_ ?_); rotate_left; (· exact rfl); (· kernel_rfl); (· intro w2; go_simp; try with_reducible rfl))
        ((with_reducible refine Ord.e_p (v := ?_) ?_ ?_ ?_ ?_); rotate_left; (· exact rfl); (· kernel_rfl); (· intro w2; go_simp; try with_reducible rfl))
        ((with_reducible refine Ord.e_p (v := ?_) ?_ ?_ ?_ ?_); rotate_left; (· exact rfl); (· kernel_rfl); (· intro w2; go_simp; try with_reducible rfl))
        (try simp only [Act.put, List.setIfInBounds_toArray, List.set_cons_zero, List.set_cons_succ])
        refine Ord.e_rowS Try.underlying30 rfl (by kernel_rfl) rfl (by simp) (fun w' hS j v hv => ((show Below _ w w' from hS).cell (p := ⟨gi, off + k * 4 + 1 + j, none⟩) hgi).trans (Hrin.out j v hv)) hb3 (by kernel_rfl) ?_
        (try simp only [Act.put, List.setIfInBounds_toArray, List.set_cons_zero, List.set_cons_succ])
        refine Ord.e_x rfl (by kernel_rfl) ?_
        go_wp2_with fail
        go_fit (HQ.out w4 hrq3)
        rintro e w5 ⟨A5, n5, c5, rfl, hrd5, hb45, hfr5⟩
        have hb5 := hb3.trans (hb45.mono hb3.size)
        go_wp2_with fail
        refine Ord.Seg.go hb5 (fun _ => hb45) ?_
        (try simp only [Act.put, List.setIfInBounds_toArray, List.set_cons_zero, List.set_cons_succ])
        have hk5 := hk3.up hb45
        have hq5 := blk_old hq3 hb45 (blk_lt hq3)
        have hdg5 : gq < w4.heap.size := blk_lt hq3
        have hA5 : ∀ a, A5 = some a → ¬ Ft g A3 a.block ∧ a.block ≠ gq := fun a e => by
          rcases hfr5 a e with h1 | h1
          · exact hdq3 a h1
          · refine ⟨?_, by omega⟩
            rintro (h | ⟨a', h, h'⟩)
            · have := blk_lt hk3.hp; omega
            · have := (hk3.ne a' h).2; omega
        have hlow5 : ∀ a, A5 = some a → a.block < w5.heap.size := fun a e => by
          rcases hfr5 a e with h1 | h1
          · exact Nat.lt_of_lt_of_le (hlow3 a h1) hb45.size
          · exact h1.2
        clear hq3 hrq3 hk3 hb3 hrow hb45 hfr5 hlow3
        ((with_reducible refine Ord.e_p (v := ?_) ?_ ?_ ?_ ?_); rotate_left; (· exact rfl); (· kernel_rfl); (· intro w2; go_simp; try with_reducible rfl))
        (try simp only [Act.put, List.setIfInBounds_toArray, List.set_cons_zero, List.set_cons_succ])
        ((with_reducible refine Ord.e_p (v := ?_) ?_ ?_ ?_ ?_); rotate_left; (· exact rfl); (· kernel_rfl); (· intro w2; go_simp; try with_reducible rfl))
        (try simp only [Act.put, List.setIfInBounds_toArray, List.set_cons_zero, List.set_cons_succ])
        ((with_reducible refine Ord.e_p (v := ?_) ?_ ?_ ?_ ?_); rotate_left; (· exact rfl); (· kernel_rfl); (· intro w2; go_simp; try with_reducible rfl))
        (try simp only [Act.put, List.setIfInBounds_toArray, List.set_cons_zero, List.set_cons_succ])
        refine Ord.e_x rfl (by kernel_rfl) ?_
        refine wpList_store_row rfl _ _ _ rfl gq #[.slice A5 n5 c5, .int .i64 ((y' : Nat) : Int), .int .i64 ((no' : Nat) : Int), .int .i64 ((od' : Nat) : Int)] rfl rfl _ _ hq5 (by kernel_rfl) rfl (by kernel_rfl) ?_
        have hb6 := below_setRow hb5 hgq0 (#[.slice A5 n5 c5, .int .i64 ((y' : Nat) : Int), .int .i64 ((no' : Nat) : Int), .int .i64 ((od' : Nat) : Int)] : Array Value)
        have hq6 := setRow_heap _ _ _ (#[.slice A5 n5 c5, .int .i64 ((y' : Nat) : Int), .int .i64 ((no' : Nat) : Int), .int .i64 ((od' : Nat) : Int)] : Array Value) _ _ hq5
        have haw6 := Aw.setRow (w := w5) gq (#[.slice A5 n5 c5, .int .i64 ((y' : Nat) : Int), .int .i64 ((no' : Nat) : Int), .int .i64 ((od' : Nat) : Int)] : Array Value)
        have hk6 := hk5.keep haw6 (fun k hk e => hdg3 (by rw [← e]; exact hk))
        have hrd6 := hrd5.aw haw6 (fun a e => (hA5 a e).2)
        generalize (w5.setRow gq #[.slice A5 n5 c5, .int .i64 ((y' : Nat) : Int), .int .i64 ((no' : Nat) : Int), .int .i64 ((od' : Nat) : Int)]) = w6 at *
        have hsz56 := haw6.size
        clear hq5 hk5 hrd5 haw6 hb5
        go_wp2_with fail
        refine Ord.Seg.go hb6 (fun h => by cases h) ?_
        (try simp only [Act.put, List.setIfInBounds_toArray, List.set_cons_zero, List.set_cons_succ])
        ((with_reducible refine Ord.e_p (v := ?_) ?_ ?_ ?_ ?_); rotate_left; (· exact rfl); (· kernel_rfl); (· intro w2; go_simp; try with_reducible rfl))
        (try simp only [Act.put, List.setIfInBounds_toArray, List.set_cons_zero, List.set_cons_succ])
        refine Ord.e_nil ?_
        go_wp2_with fail
        go_fit (counts_any g A3 n3 c3 _ _ _ _ w6 hk6)
        rintro e w7 ⟨rfl, hb67⟩
        have hsz67 := hb67.size
        replace hb6 := bnx hb6 hb67
        replace hk6 := hk6.up hb67
        replace hq6 := blk_old hq6 hb67 (blk_lt hq6)
        replace hrd6 := hrd6.nx hb67
        clear hb67
        have hn3' : n3 ≤ 900 := by omega
        go_wp2_with fail
        refine Ord.region_ (fun w' => Below w7.heap.size w7 w') false [] (by kernel_rfl) (by kernel_rfl) ((Below.refl _ _).drew) ?_
        have h8 : Below w7.heap.size w7 w7.drew := (Below.refl _ _).drew
        generalize w7.drew = w8 at *
        have hlq := blk_lt hq6
        have q0 := blk_cell (i := 0) (v := .slice A5 n5 c5) hq6 rfl
        have q1 := blk_cell (i := 1) (v := .int .i64 y') hq6 rfl
        have q2 := blk_cell (i := 2) (v := .int .i64 no') hq6 rfl
        have q3 := blk_cell (i := 3) (v := .int .i64 od') hq6 rfl
        ((with_reducible refine Ord.e_p (v := ?_) ?_ ?_ ?_ ?_); rotate_left; (· exact rfl); (· kernel_rfl); (· intro w2; go_simp; try with_reducible rfl))
        (try simp only [Act.put, List.setIfInBounds_toArray, List.set_cons_zero, List.set_cons_succ])
        ((with_reducible refine Ord.e_p (v := ?_) ?_ ?_ ?_ ?_); rotate_left; (· exact rfl); (· kernel_rfl); (· intro w2; go_simp; try with_reducible rfl))
        (try simp only [Act.put, List.setIfInBounds_toArray, List.set_cons_zero, List.set_cons_succ])
        ((with_reducible refine Ord.e_p (v := ?_) ?_ ?_ ?_ ?_); rotate_left; (· exact rfl); (· kernel_rfl); (· intro w2; go_simp; try with_reducible rfl))
        (try simp only [Act.put, List.setIfInBounds_toArray, List.set_cons_zero, List.set_cons_succ])
        ((with_reducible refine Ord.e_p (v := ?_) ?_ ?_ ?_ ?_); rotate_left; (· exact rfl); (· kernel_rfl); (· intro w2; go_simp; try with_reducible rfl))
        (try simp only [Act.put, List.setIfInBounds_toArray, List.set_cons_zero, List.set_cons_succ])
        ((with_reducible refine Ord.e_p (v := ?_) ?_ ?_ ?_ ?_); rotate_left; (· exact rfl); (· kernel_rfl); (· intro w2; go_simp; try with_reducible rfl))
        (try simp only [Act.put, List.setIfInBounds_toArray, List.set_cons_zero, List.set_cons_succ])
        refine Ord.e_x rfl (by kernel_rfl) ?_
        go_wp2_with fail
        go_fit (openA_any g A3 n3 c3 L' _ _ _ w8 (hk6.up h8) (by omega))
        rintro e w9 ⟨A9, n9, c9, rfl, hown9, hb89⟩
        have h9 := h8.trans (hb89.mono h8.size)
        go_wp2_with fail
        refine Ord.Seg.go h9 (fun h => by cases h) ?_
        (try simp only [Act.put, List.setIfInBounds_toArray, List.set_cons_zero, List.set_cons_succ])
        ((with_reducible refine Ord.e_p (v := ?_) ?_ ?_ ?_ ?_); rotate_left; (· exact rfl); (· kernel_rfl); (· intro w2; go_simp; try with_reducible rfl))
        (try simp only [Act.put, List.setIfInBounds_toArray, List.set_cons_zero, List.set_cons_succ])
        refine Ord.e_loadS Try.underlying26 rfl (fun w' hS => ((show Below _ w7 w' from hS).cell (p := ⟨gq, 0, none⟩) hlq).trans q0) h9 rfl (by kernel_rfl) ?_
        (try simp only [Act.put, List.setIfInBounds_toArray, List.set_cons_zero, List.set_cons_succ])
        refine Ord.e_x rfl (by kernel_rfl) ?_
        go_wp2_with fail
        go_fit (qsame19_any A9 n9 c9 A5 n5 c5 L' w9 (rdA_own hown9) (hrd6.nx h9))
        rintro e w10 ⟨rfl, hb910⟩
        have h10 := h9.trans (hb910.mono h9.size)
        go_wp2_with fail
        refine Ord.Seg.go h10 (fun h => by cases h) ?_
        (try simp only [Act.put, List.setIfInBounds_toArray, List.set_cons_zero, List.set_cons_succ])
        clear h8 h9 hb89 hb910 hown9 q0
        ((with_reducible refine Ord.e_p (v := ?_) ?_ ?_ ?_ ?_); rotate_left; (· exact rfl); (· kernel_rfl); (· intro w2; go_simp; try with_reducible rfl))
        (try simp only [Act.put, List.setIfInBounds_toArray, List.set_cons_zero, List.set_cons_succ])
        ((with_reducible refine Ord.e_p (v := ?_) ?_ ?_ ?_ ?_); rotate_left; (· exact rfl); (· kernel_rfl); (· intro w2; go_simp; try with_reducible rfl))
        (try simp only [Act.put, List.setIfInBounds_toArray, List.set_cons_zero, List.set_cons_succ])
        ((with_reducible refine Ord.e_p (v := ?_) ?_ ?_ ?_ ?_); rotate_left; (· exact rfl); (· kernel_rfl); (· intro w2; go_simp; try with_reducible rfl))
        (try simp only [Act.put, List.setIfInBounds_toArray, List.set_cons_zero, List.set_cons_succ])
        ((with_reducible refine Ord.e_p (v := ?_) ?_ ?_ ?_ ?_); rotate_left; (· exact rfl); (· kernel_rfl); (· intro w2; go_simp; try with_reducible rfl))
        ((with_reducible refine Ord.e_p (v := ?_) ?_ ?_ ?_ ?_); rotate_left; (· exact rfl); (· kernel_rfl); (· intro w2; go_simp; try with_reducible rfl))
        (try simp only [Act.put, List.setIfInBounds_toArray, List.set_cons_zero, List.set_cons_succ])
        refine Ord.e_loadS Try.underlying3 rfl (fun w' hS => ((show Below _ w7 w' from hS).cell (p := ⟨gq, 1, none⟩) hlq).trans q1) h10 rfl (by kernel_rfl) ?_
        (try simp only [Act.put, List.setIfInBounds_toArray, List.set_cons_zero, List.set_cons_succ])
        ((with_reducible refine Ord.e_p (v := ?_) ?_ ?_ ?_ ?_); rotate_left; (· exact rfl); (· kernel_rfl); (· intro w2; go_simp; try with_reducible rfl))
        (try simp only [Act.put, List.setIfInBounds_toArray, List.set_cons_zero, List.set_cons_succ])
        ((with_reducible refine Ord.e_p (v := ?_) ?_ ?_ ?_ ?_); rotate_left; (· exact rfl); (· kernel_rfl); (· intro w2; go_simp; try with_reducible rfl))
        (try simp only [Act.put, List.setIfInBounds_toArray, List.set_cons_zero, List.set_cons_succ])
        ((with_reducible refine Ord.e_p (v := ?_) ?_ ?_ ?_ ?_); rotate_left; (· exact rfl); (· kernel_rfl); (· intro w2; go_simp; try with_reducible rfl))
        (try simp only [Act.put, List.setIfInBounds_toArray, List.set_cons_zero, List.set_cons_succ])
        ((with_reducible refine Ord.e_p (v := ?_) ?_ ?_ ?_ ?_); rotate_left; (· exact rfl); (· kernel_rfl); (· intro w2; go_simp; try with_reducible rfl))
        ((with_reducible refine Ord.e_p (v := ?_) ?_ ?_ ?_ ?_); rotate_left; (· exact rfl); (· kernel_rfl); (· intro w2; go_simp; try with_reducible rfl))
        (try simp only [Act.put, List.setIfInBounds_toArray, List.set_cons_zero, List.set_cons_succ])
        refine Ord.e_loadS Try.underlying3 rfl (fun w' hS => ((show Below _ w7 w' from hS).cell (p := ⟨gq, 2, none⟩) hlq).trans q2) h10 rfl (by kernel_rfl) ?_
        (try simp only [Act.put, List.setIfInBounds_toArray, List.set_cons_zero, List.set_cons_succ])
        ((with_reducible refine Ord.e_p (v := ?_) ?_ ?_ ?_ ?_); rotate_left; (· exact rfl); (· kernel_rfl); (· intro w2; go_simp; try with_reducible rfl))
        (try simp only [Act.put, List.setIfInBounds_toArray, List.set_cons_zero, List.set_cons_succ])
        ((with_reducible refine Ord.e_p (v := ?_) ?_ ?_ ?_ ?_); rotate_left; (· exact rfl); (· kernel_rfl); (· intro w2; go_simp; try with_reducible rfl))
        (try simp only [Act.put, List.setIfInBounds_toArray, List.set_cons_zero, List.set_cons_succ])
        ((with_reducible refine Ord.e_p (v := ?_) ?_ ?_ ?_ ?_); rotate_left; (· exact rfl); (· kernel_rfl); (· intro w2; go_simp; try with_reducible rfl))
        (try simp only [Act.put, List.setIfInBounds_toArray, List.set_cons_zero, List.set_cons_succ])
        ((with_reducible refine Ord.e_p (v := ?_) ?_ ?_ ?_ ?_); rotate_left; (· exact rfl); (· kernel_rfl); (· intro w2; go_simp; try with_reducible rfl))
        ((with_reducible refine Ord.e_p (v := ?_) ?_ ?_ ?_ ?_); rotate_left; (· exact rfl); (· kernel_rfl); (· intro w2; go_simp; try with_reducible rfl))
        (try simp only [Act.put, List.setIfInBounds_toArray, List.set_cons_zero, List.set_cons_succ])
        refine Ord.e_loadS Try.underlying3 rfl (fun w' hS => ((show Below _ w7 w' from hS).cell (p := ⟨gq, 3, none⟩) hlq).trans q3) h10 rfl (by kernel_rfl) ?_
        (try simp only [Act.put, List.setIfInBounds_toArray, List.set_cons_zero, List.set_cons_succ])
        ((with_reducible refine Ord.e_p (v := ?_) ?_ ?_ ?_ ?_); rotate_left; (· exact rfl); (· kernel_rfl); (· intro w2; go_simp; try with_reducible rfl))
        (try simp only [Act.put, List.setIfInBounds_toArray, List.set_cons_zero, List.set_cons_succ])
        ((with_reducible refine Ord.e_p (v := ?_) ?_ ?_ ?_ ?_); rotate_left; (· exact rfl); (· kernel_rfl); (· intro w2; go_simp; try with_reducible rfl))
        (try simp only [Act.put, List.setIfInBounds_toArray, List.set_cons_zero, List.set_cons_succ])
        refine Ord.e_nil ?_
        replace hk6 := hk6.up h10
        replace hq6 := blk_old hq6 h10 hlq
        replace hrd6 := hrd6.nx h10
        replace hb6 := bnx hb6 h10
        have hsz10 := h10.size
        have hdone : ∀ a, A5 = some a → ¬ Ft g A3 a.block ∧ a.block ≠ gq ∧ a.block < w10.heap.size := fun a e => ⟨(hA5 a e).1, (hA5 a e).2, by have := hlow5 a e; omega⟩
        clear q1 q2 q3 h10
        go_wp2
        go_roundw
        case rel => exact ⟨k + 1, A3, n3, c3, A5, n5, c5, L', _, _, _, by omega, by go_num, hb6, hk6, hq6, hrd6, hdone, hdg3, hLn, hyn, hnn, hon⟩
        case measure => simp [intOf]; omega
    · obtain rfl : k = n := by omega
      go_wp2
      go_ret
      exact ⟨rfl, hb⟩

end Go.Proofs.Ytkelepnipndbbaa
