/-
  The document's book of layer 19: Ask walked.
-/
import Derived.Test.YtkelepnipndbbaaAck8
set_option linter.unusedSimpArgs false
set_option linter.unusedVariables false
namespace Go.Proofs.Ytkelepnipndbbaa
open Go.RowKit NumLaw
attribute [local go_sem] Addr.add_mid

theorem qoctet_any (n : Int) (w : World) : Calls Try.prog 87 #[.int .i64 n] w fun e w' => e = .returned (.bool (decide (0 ≤ n ∧ n ≤ 255))) ∧ w = w' := by
  go_enter Try.func87, Try.ntmps87
  by_cases h : 0 ≤ n
  · go_wp2
    go_ret
    exact ⟨by simp [h], rfl⟩
  · go_wp2
    go_ret
    exact ⟨by simp; omega, rfl⟩
/-- The document's book as a plain value: its row anywhere below. -/
def RetQA (w : World) (A0 : Option Addr) (l' : List (Int × Int)) (y no od : Nat) (v : Bool) (e : Ending) (w' : World) : Prop :=
  ∃ A n c, e = .returned (.tuple #[.agg #[.slice A n c, .int .i64 y, .int .i64 no, .int .i64 od], .bool v]) ∧ RdA w' w'.heap.size A n c l' ∧ Below w.heap.size w w' ∧ ∀ a, A = some a → A0 = some a ∨ (w.heap.size ≤ a.block ∧ a.block < w'.heap.size)
set_option maxRecDepth 10000 in
set_option maxHeartbeats 2000000 in
theorem qask_any (A : Option Addr) (n c : Nat) (l : List (Int × Int)) (y no od : Nat) (cl id : Int) (w : World) (h : RdA w w.heap.size A n c l) (hn : n ≤ 900) :
    Calls Try.prog 23 #[.agg #[.slice A n c, .int .i64 y, .int .i64 no, .int .i64 od], .int .i64 cl, .int .i64 id] w (RetQA w A (if (ackOk cl id && decide (l.length < 16)) = true then l ++ [(cl, id)] else l) y no od (ackOk cl id && decide (l.length < 16))) := by
  have hln := h.1
  have hle := h.2.1
  rw [hln]
  have o1 := fun w => qoctet_any cl w
  have o2 := fun w => qoctet_any id w
  have h0 : Below w.heap.size w ((w.alloc (.cells #[.slice A n c, .int .i64 y, .int .i64 no, .int .i64 od] 28)).alloc (.cells #[.slice none 0 0, .int .i64 0, .int .i64 0, .int .i64 0] 28)) := ((Below.refl _ _).alloc (Nat.le_refl _) _).alloc (by simp) _
  have hbox := (heap_alloc_old (w.alloc (.cells #[.slice A n c, .int .i64 y, .int .i64 no, .int .i64 od] 28)) (.cells #[.slice none 0 0, .int .i64 0, .int .i64 0, .int .i64 0] 28) (blk_lt (heap_alloc_new w _))).trans (heap_alloc_new w (.cells #[.slice A n c, .int .i64 y, .int .i64 no, .int .i64 od] 28))
  have hres := blk_new2 w (.cells #[.slice A n c, .int .i64 y, .int .i64 no, .int .i64 od] 28) (.cells #[.slice none 0 0, .int .i64 0, .int .i64 0, .int .i64 0] 28)
  obtain ⟨ok, hok⟩ : ∃ ok, ok = (ackOk cl id && decide (n < 16)) := ⟨_, rfl⟩
  obtain ⟨l', hl'⟩ : ∃ l', l' = if ok = true then l ++ [(cl, id)] else l := ⟨_, rfl⟩
  rw [← hok, ← hl']
  have Hok := Lib.hid hok
  have Hl' := Lib.hid hl'
  clear hok hl'
  have bad : ok = false → ∀ w1 : World, Below w.heap.size w w1 → w1.heap[w.heap.size]? = some (.cells #[.slice A n c, .int .i64 y, .int .i64 no, .int .i64 od] 28) → w1.heap[w.heap.size + 1]? = some (.cells #[.slice none 0 0, .int .i64 0, .int .i64 0, .int .i64 0] 28) → True := fun _ _ _ _ _ => trivial
  clear bad
  have key : (0 ≤ cl ∧ cl ≤ 255) ∧ (0 ≤ id ∧ id ≤ 255) ∧ n < 16 ∨ ¬ (0 ≤ cl ∧ cl ≤ 255) ∨ ((0 ≤ cl ∧ cl ≤ 255) ∧ ¬ (0 ≤ id ∧ id ≤ 255)) ∨ ((0 ≤ cl ∧ cl ≤ 255) ∧ (0 ≤ id ∧ id ≤ 255) ∧ ¬ n < 16) := by omega
  go_enter Try.func23, Try.ntmps23
  go_wp2_with fail
  generalize ((w.alloc (.cells #[.slice A n c, .int .i64 y, .int .i64 no, .int .i64 od] 28)).alloc (.cells #[.slice none 0 0, .int .i64 0, .int .i64 0, .int .i64 0] 28)) = w1 at *
  have b0 := blk_cell (i := 0) (v := .slice A n c) hbox rfl
  have b1 := blk_cell (i := 1) (v := .int .i64 y) hbox rfl
  have b2 := blk_cell (i := 2) (v := .int .i64 no) hbox rfl
  have b3 := blk_cell (i := 3) (v := .int .i64 od) hbox rfl
  have h1 := h.nx h0
  rcases key with ⟨g1, g2, g3⟩ | g1 | ⟨g1, g2⟩ | ⟨g1, g2, g3⟩
  · obtain rfl : true = ok := by rw [Hok.out]; simp [ackOk, g1, g2, g3]
    obtain rfl : l ++ [(cl, id)] = l' := by rw [Hl'.out, if_pos rfl]
    obtain ⟨i0, hi⟩ := info_parts ack_info
    have Hi := Lib.hid hi
    clear hi
    rw [decide_eq_true g1] at o1
    rw [decide_eq_true g2] at o2
    go_fit (o1 _)
    rintro e w2 ⟨rfl, rfl⟩
    go_wp2_with fail
    go_fit (o2 _)
    rintro e w2 ⟨rfl, rfl⟩
    have hbe : Below w1.heap.size w1 (w1.alloc (.cells #[] 30)) := (Below.refl _ _).alloc (Nat.le_refl _) _
    have b0' := (hbe.cell (p := ⟨w.heap.size, 0, none⟩) (blk_lt hbox)).trans b0
    go_wp2_with (at_builtin; refine stop_ ?_)
    refine go_ (wpList_app (base := w1.heap.size) (n := 0) (xs := []) Try.underlying26 Hi.out rfl (by omega) (own_empty w1 _ _ (Nat.le_refl _) 3) rfl (h1.up hbe).rd rfl (acs_one _) (k := n) (by omega) (List.nil_append _) (by unfold maxLen; omega) (by omega) (by simp) ?_)
    intro A2 c2 w2 hown2 hup2
    have hb2 := hup2 hbe hbe.size (Nat.le_refl _)
    clear hup2 b0' hbe b0 b1 b2 b3
    have hnew := rdA_own (l := [(cl, id)]) (base := 0) (e := 30) (w := w2.alloc (.cells #[.bool false, .int .i64 cl, .int .i64 id] 30)) (A := some ⟨w2.heap.size, 0, none⟩) (n := 1) (c := 1) ⟨rfl, .inr ⟨w2.heap.size, 1, _, rfl, Nat.zero_le _, heap_alloc_new w2 _, Nat.le_refl _, by simp [maxLen], rfl, rfl⟩⟩
    have hbl : Below w2.heap.size w2 (w2.alloc (.cells #[.bool false, .int .i64 cl, .int .i64 id] 30)) := (Below.refl _ _).alloc (Nat.le_refl _) _
    have hown2' := own_up hown2 hbl (Nat.le_refl _)
    have hb3 := hb2.trans (hbl.mono hb2.size)
    go_wp2_with (at_builtin; refine stop_ ?_)
    refine go_ (wpList_app (base := w1.heap.size) Try.underlying26 Hi.out rfl (by omega) hown2' rfl hnew.rd rfl (acs_one _) (k := n + 1) rfl (acs_app _ _).symm (by unfold maxLen; omega) (by omega) hb3.size ?_)
    intro A3 c3 w3 hown3 hup3
    have hb4 := hup3 hb3 hb3.size (Nat.le_refl _)
    clear hup3 hown2' hown2 hnew hbl hb2 hb3
    have hlt1 := blk_lt hbox
    have hlt2 := blk_lt hres
    replace hbox := blk_old hbox hb4 hlt1
    replace hres := blk_old hres hb4 hlt2
    have b0 := blk_cell (i := 0) (v := .slice A n c) hbox rfl
    have f0 := blk_free (i := 0) hbox
    have hbox5 := blk_set (i := 0) hbox (.slice A3 (n + 1) c3)
    have haw : Aw (fun k => k = w.heap.size) w3 (w3.setCell ⟨w.heap.size, 0, none⟩ (.slice A3 (n + 1) c3)) := (Aw.refl _ _).set (p := ⟨w.heap.size, 0, none⟩) _ rfl
    have hres5 := haw.keep hres (by omega)
    have hown5 := own_set hown3 (g := w.heap.size) (i := 0) hlt1 (.slice A3 (n + 1) c3)
    have hb5 : Below w.heap.size w (w3.setCell ⟨w.heap.size, 0, none⟩ (.slice A3 (n + 1) c3)) := (h0.trans (hb4.mono h0.size)).setCell (p := ⟨w.heap.size, 0, none⟩) (Nat.le_refl _) _
    have e0 := blk_cell (i := 0) (v := .slice A3 (n + 1) c3) hbox5 rfl
    have e1 := blk_cell (i := 1) (v := .int .i64 y) hbox5 rfl
    have e2 := blk_cell (i := 2) (v := .int .i64 no) hbox5 rfl
    have e3 := blk_cell (i := 3) (v := .int .i64 od) hbox5 rfl
    have h1lt : w1.heap.size ≤ (w3.setCell ⟨w.heap.size, 0, none⟩ (.slice A3 (n + 1) c3)).heap.size := Nat.le_trans hb4.size haw.size
    clear hown3 haw hb4 hres
    go_wp2_with (with_reducible refine stop_store (t := 28) ?_)
    refine go_ (wpList_store_row rfl _ _ _ rfl (w.heap.size + 1) #[.slice A3 (n + 1) c3, .int .i64 y, .int .i64 no, .int .i64 od] rfl rfl _ _ hres5 (by kernel_rfl) rfl (by kernel_rfl) ?_)
    have hb6 := below_setRow hb5 (show w.heap.size ≤ w.heap.size + 1 by omega) (#[.slice A3 (n + 1) c3, .int .i64 y, .int .i64 no, .int .i64 od] : Array Value)
    have hres6 := setRow_heap _ _ _ (#[.slice A3 (n + 1) c3, .int .i64 y, .int .i64 no, .int .i64 od] : Array Value) _ _ hres5
    have q0 := blk_cell (i := 0) (v := .slice A3 (n + 1) c3) hres6 rfl
    have q1 := blk_cell (i := 1) (v := .int .i64 y) hres6 rfl
    have q2 := blk_cell (i := 2) (v := .int .i64 no) hres6 rfl
    have q3 := blk_cell (i := 3) (v := .int .i64 od) hres6 rfl
    have hsz6 := setRow_size (w3.setCell ⟨w.heap.size, 0, none⟩ (.slice A3 (n + 1) c3)) (w.heap.size + 1) (#[.slice A3 (n + 1) c3, .int .i64 y, .int .i64 no, .int .i64 od] : Array Value)
    have hoth := fun k (hk : k ≠ w.heap.size + 1) => setRow_other (w3.setCell ⟨w.heap.size, 0, none⟩ (.slice A3 (n + 1) c3)) (w.heap.size + 1) k (#[.slice A3 (n + 1) c3, .int .i64 y, .int .i64 no, .int .i64 od] : Array Value) hk
    have Hoth := Lib.hid hoth
    have Hsz6 := Lib.hid hsz6
    clear hoth hsz6 e0 e1 e2 e3 f0 b0 hbox5 hbox
    generalize ((w3.setCell ⟨w.heap.size, 0, none⟩ (.slice A3 (n + 1) c3)).setRow (w.heap.size + 1) #[.slice A3 (n + 1) c3, .int .i64 y, .int .i64 no, .int .i64 od]) = w6 at *
    go_wp2
    refine bodyPost_ret (v := .tuple #[.agg #[.slice A3 (n + 1) c3, .int .i64 y, .int .i64 no, .int .i64 od], .bool true]) (by simp [results, go_sem, q0, q1, q2, q3]) rfl ?_
    refine ⟨_, _, _, rfl, ?_, hb6, fun a ha => .inr (by have := own_blk hown5 (k := a.block) (by rw [ha]; rfl); have := h0.size; have := Hsz6.out; omega)⟩
    refine (rdA_own hown5).keep fun g' off e hlt => ⟨by rw [Hsz6.out]; exact hlt, fun j => ?_⟩
    have hk := own_blk hown5 (k := g') (by rw [e]; rfl)
    have := Hoth.out g' (by omega)
    rw [World.cell?, World.cell?, show (⟨g', j, none⟩ : Addr).block = g' from rfl, this]
  · obtain rfl : false = ok := by rw [Hok.out]; simp [ackOk, g1]; try omega
    obtain rfl : l = l' := by rw [Hl'.out]; simp
    rw [decide_eq_false g1] at o1
    go_fit (o1 _)
    rintro e w2 ⟨rfl, rfl⟩
    go_wp2_with (with_reducible refine stop_store (t := 28) ?_)
    refine go_ (wpList_store_row rfl _ _ _ rfl (w.heap.size + 1) #[.slice A n c, .int .i64 y, .int .i64 no, .int .i64 od] rfl rfl _ _ hres (by kernel_rfl) rfl (by kernel_rfl) ?_)
    have hb6 := below_setRow h0 (show w.heap.size ≤ w.heap.size + 1 by omega) (#[.slice A n c, .int .i64 y, .int .i64 no, .int .i64 od] : Array Value)
    have hres6 := setRow_heap _ _ _ (#[.slice A n c, .int .i64 y, .int .i64 no, .int .i64 od] : Array Value) _ _ hres
    have q0 := blk_cell (i := 0) (v := .slice A n c) hres6 rfl
    have q1 := blk_cell (i := 1) (v := .int .i64 y) hres6 rfl
    have q2 := blk_cell (i := 2) (v := .int .i64 no) hres6 rfl
    have q3 := blk_cell (i := 3) (v := .int .i64 od) hres6 rfl
    have hsz6 := setRow_size (w1) (w.heap.size + 1) (#[.slice A n c, .int .i64 y, .int .i64 no, .int .i64 od] : Array Value)
    have hoth := fun k (hk : k ≠ w.heap.size + 1) => setRow_other (w1) (w.heap.size + 1) k (#[.slice A n c, .int .i64 y, .int .i64 no, .int .i64 od] : Array Value) hk
    have Hoth := Lib.hid hoth
    have Hsz6 := Lib.hid hsz6
    clear hoth hsz6 b0 b1 b2 b3 hbox
    generalize ((w1).setRow (w.heap.size + 1) #[.slice A n c, .int .i64 y, .int .i64 no, .int .i64 od]) = w6 at *
    go_wp2
    refine bodyPost_ret (v := .tuple #[.agg #[.slice A n c, .int .i64 y, .int .i64 no, .int .i64 od], .bool false]) (by simp [results, go_sem, q0, q1, q2, q3]) rfl ?_
    refine ⟨_, _, _, rfl, ?_, hb6, fun a ha => .inl ha⟩
    refine h.keep fun g' off e hlt => ⟨by rw [Hsz6.out]; exact Nat.lt_of_lt_of_le hlt h0.size, fun j => ?_⟩
    have := (Hoth.out g' (by omega)).trans (h0.block g' hlt)
    rw [World.cell?, World.cell?, show (⟨g', j, none⟩ : Addr).block = g' from rfl, this]
  · obtain rfl : false = ok := by rw [Hok.out]; simp [ackOk, g2]; try omega
    obtain rfl : l = l' := by rw [Hl'.out]; simp
    rw [decide_eq_true g1] at o1
    rw [decide_eq_false g2] at o2
    go_fit (o1 _)
    rintro e w2 ⟨rfl, rfl⟩
    go_wp2_with fail
    go_fit (o2 _)
    rintro e w2 ⟨rfl, rfl⟩
    go_wp2_with (with_reducible refine stop_store (t := 28) ?_)
    refine go_ (wpList_store_row rfl _ _ _ rfl (w.heap.size + 1) #[.slice A n c, .int .i64 y, .int .i64 no, .int .i64 od] rfl rfl _ _ hres (by kernel_rfl) rfl (by kernel_rfl) ?_)
    have hb6 := below_setRow h0 (show w.heap.size ≤ w.heap.size + 1 by omega) (#[.slice A n c, .int .i64 y, .int .i64 no, .int .i64 od] : Array Value)
    have hres6 := setRow_heap _ _ _ (#[.slice A n c, .int .i64 y, .int .i64 no, .int .i64 od] : Array Value) _ _ hres
    have q0 := blk_cell (i := 0) (v := .slice A n c) hres6 rfl
    have q1 := blk_cell (i := 1) (v := .int .i64 y) hres6 rfl
    have q2 := blk_cell (i := 2) (v := .int .i64 no) hres6 rfl
    have q3 := blk_cell (i := 3) (v := .int .i64 od) hres6 rfl
    have hsz6 := setRow_size (w1) (w.heap.size + 1) (#[.slice A n c, .int .i64 y, .int .i64 no, .int .i64 od] : Array Value)
    have hoth := fun k (hk : k ≠ w.heap.size + 1) => setRow_other (w1) (w.heap.size + 1) k (#[.slice A n c, .int .i64 y, .int .i64 no, .int .i64 od] : Array Value) hk
    have Hoth := Lib.hid hoth
    have Hsz6 := Lib.hid hsz6
    clear hoth hsz6 b0 b1 b2 b3 hbox
    generalize ((w1).setRow (w.heap.size + 1) #[.slice A n c, .int .i64 y, .int .i64 no, .int .i64 od]) = w6 at *
    go_wp2
    refine bodyPost_ret (v := .tuple #[.agg #[.slice A n c, .int .i64 y, .int .i64 no, .int .i64 od], .bool false]) (by simp [results, go_sem, q0, q1, q2, q3]) rfl ?_
    refine ⟨_, _, _, rfl, ?_, hb6, fun a ha => .inl ha⟩
    refine h.keep fun g' off e hlt => ⟨by rw [Hsz6.out]; exact Nat.lt_of_lt_of_le hlt h0.size, fun j => ?_⟩
    have := (Hoth.out g' (by omega)).trans (h0.block g' hlt)
    rw [World.cell?, World.cell?, show (⟨g', j, none⟩ : Addr).block = g' from rfl, this]
  · obtain rfl : false = ok := by rw [Hok.out]; simp [ackOk, g3]; try omega
    obtain rfl : l = l' := by rw [Hl'.out]; simp
    rw [decide_eq_true g1] at o1
    rw [decide_eq_true g2] at o2
    go_fit (o1 _)
    rintro e w2 ⟨rfl, rfl⟩
    go_wp2_with fail
    go_fit (o2 _)
    rintro e w2 ⟨rfl, rfl⟩
    go_wp2_with (with_reducible refine stop_store (t := 28) ?_)
    refine go_ (wpList_store_row rfl _ _ _ rfl (w.heap.size + 1) #[.slice A n c, .int .i64 y, .int .i64 no, .int .i64 od] rfl rfl _ _ hres (by kernel_rfl) rfl (by kernel_rfl) ?_)
    have hb6 := below_setRow h0 (show w.heap.size ≤ w.heap.size + 1 by omega) (#[.slice A n c, .int .i64 y, .int .i64 no, .int .i64 od] : Array Value)
    have hres6 := setRow_heap _ _ _ (#[.slice A n c, .int .i64 y, .int .i64 no, .int .i64 od] : Array Value) _ _ hres
    have q0 := blk_cell (i := 0) (v := .slice A n c) hres6 rfl
    have q1 := blk_cell (i := 1) (v := .int .i64 y) hres6 rfl
    have q2 := blk_cell (i := 2) (v := .int .i64 no) hres6 rfl
    have q3 := blk_cell (i := 3) (v := .int .i64 od) hres6 rfl
    have hsz6 := setRow_size (w1) (w.heap.size + 1) (#[.slice A n c, .int .i64 y, .int .i64 no, .int .i64 od] : Array Value)
    have hoth := fun k (hk : k ≠ w.heap.size + 1) => setRow_other (w1) (w.heap.size + 1) k (#[.slice A n c, .int .i64 y, .int .i64 no, .int .i64 od] : Array Value) hk
    have Hoth := Lib.hid hoth
    have Hsz6 := Lib.hid hsz6
    clear hoth hsz6 b0 b1 b2 b3 hbox
    generalize ((w1).setRow (w.heap.size + 1) #[.slice A n c, .int .i64 y, .int .i64 no, .int .i64 od]) = w6 at *
    go_wp2
    refine bodyPost_ret (v := .tuple #[.agg #[.slice A n c, .int .i64 y, .int .i64 no, .int .i64 od], .bool false]) (by simp [results, go_sem, q0, q1, q2, q3]) rfl ?_
    refine ⟨_, _, _, rfl, ?_, hb6, fun a ha => .inl ha⟩
    refine h.keep fun g' off e hlt => ⟨by rw [Hsz6.out]; exact Nat.lt_of_lt_of_le hlt h0.size, fun j => ?_⟩
    have := (Hoth.out g' (by omega)).trans (h0.block g' hlt)
    rw [World.cell?, World.cell?, show (⟨g', j, none⟩ : Addr).block = g' from rfl, this]

end Go.Proofs.Ytkelepnipndbbaa
