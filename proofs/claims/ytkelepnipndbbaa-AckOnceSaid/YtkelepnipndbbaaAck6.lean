/-
  ack's book: Ask and Hear walked.
-/
import Derived.Test.YtkelepnipndbbaaAck5
import Derived.ArgAppend
import Derived.Test.YtkelepnipndbbaaOrder
set_option linter.unusedSimpArgs false
set_option linter.unusedVariables false
namespace Go.Proofs.Ytkelepnipndbbaa
open Go.RowKit NumLaw
attribute [local go_sem] Addr.add_mid

def ackOk (c i : Int) : Bool := decide (0 ≤ c ∧ c ≤ 255 ∧ 0 ≤ i ∧ i ≤ 255)
theorem ackE (c i : Int) : shE ackF [c, i] = if ackOk c i = true then 0 else 5 := by
  unfold shE
  rw [if_pos ⟨by decide, rfl⟩]
  have e : inAll ackF [c, i] = ackOk c i := by
    simp [inAll, ackF, inF, ackOk]
    rw [Bool.eq_iff_iff]
    simp
    omega
  rw [e]
/-- What a book's call leaves. -/
def RetBk (w : World) (g : Nat) (A : Option Addr) (l' : List (Int × Int)) (y' no' od' : Nat) (v : Bool) (e : Ending) (w' : World) : Prop :=
  e = .returned (.bool v) ∧ ∃ A' n' c', Bk w' g A' n' c' l' y' no' od' ∧ Aw (Ft g A) w w' ∧ ∀ a, A' = some a → (∃ b, A = some b ∧ b.block = a.block) ∨ w.heap.size ≤ a.block
theorem ask_nil (c i : Int) (w : World) (hc : -9223372036854775808 ≤ c ∧ c ≤ 9223372036854775807) (hi : -9223372036854775808 ≤ i ∧ i ≤ 9223372036854775807) : Calls Try.prog 22 #[.pointer none, .int .i64 c, .int .i64 i] w fun e w' => e = .returned (.bool false) ∧ Below w.heap.size w w' := by
  have hb : Below w.heap.size w (w.alloc (.cells #[.bool false, .int .i64 c, .int .i64 i] 30)) := (Below.refl _ _).alloc (Nat.le_refl _) _
  have hput := ackPut_any c i false (w.alloc (.cells #[.bool false, .int .i64 c, .int .i64 i] 30)) (by intro z hz; simp at hz; rcases hz with rfl | rfl <;> assumption)
  go_enter Try.func22, Try.ntmps22
  go_wp2_with fail
  go_fit hput
  rintro e w1 ⟨A1, n1, c1, rfl, _, hb1⟩
  have hb2 := bnx hb hb1
  go_wp2_with fail
  go_fit (there_nil _)
  rintro e w2 ⟨rfl, rfl⟩
  go_wp2
  go_ret
  exact ⟨rfl, hb2⟩
theorem ask_un (g : Nat) (c i : Int) (w : World) (h : w.cell? ⟨g, 0, none⟩ = some (.bool false)) (hg : g < w.heap.size) (hc : -9223372036854775808 ≤ c ∧ c ≤ 9223372036854775807) (hi : -9223372036854775808 ≤ i ∧ i ≤ 9223372036854775807) : Calls Try.prog 22 #[.pointer (some ⟨g, 0, none⟩), .int .i64 c, .int .i64 i] w fun e w' => e = .returned (.bool false) ∧ Below w.heap.size w w' := by
  have hb : Below w.heap.size w (w.alloc (.cells #[.bool false, .int .i64 c, .int .i64 i] 30)) := (Below.refl _ _).alloc (Nat.le_refl _) _
  have hput := ackPut_any c i false (w.alloc (.cells #[.bool false, .int .i64 c, .int .i64 i] 30)) (by intro z hz; simp at hz; rcases hz with rfl | rfl <;> assumption)
  go_enter Try.func22, Try.ntmps22
  go_wp2_with fail
  go_fit hput
  rintro e w1 ⟨A1, n1, c1, rfl, _, hb1⟩
  have hb2 := bnx hb hb1
  go_wp2_with fail
  go_fit (there_any g false _ ((hb2.cell (p := ⟨g, 0, none⟩) hg).trans h))
  rintro e w2 ⟨rfl, rfl⟩
  go_wp2
  go_ret
  exact ⟨rfl, hb2⟩
/-- append upon a book's row. -/
theorem app_book {w : World} {g : Nat} {A : Option Addr} {n c : Nat} {l : List (Int × Int)} {y no od : Nat} (h : Bk w g A n c l y no od) {B m c2 : Nat} {A2 : Option Addr} {l2 : List (Int × Int)} (hr : RdA w B A2 m c2 l2) (hm : 0 < m) (hn : n + m ≤ 1000) (ty : TypeId) :
    ∃ A' c' w', (Builtin.append_ #[26, 26] ty #[.slice A n c, .slice A2 m c2]).run Try.prog w = .ok (.slice A' (n + m) c') w' ∧ w'.ownsRow (g + 1) 30 3 (.slice A' (n + m) c') (n + m) (acs (l ++ l2)) ∧ Aw (fun k => ∃ a, A = some a ∧ a.block = k) w w' ∧ (∀ a, A' = some a → (∃ b, A = some b ∧ b.block = a.block) ∨ w.heap.size ≤ a.block) := by
  obtain ⟨i0, hi⟩ := info_parts ack_info
  have hgl := blk_lt h.hp
  have key : w.ownsRow (g + 1) 30 3 (.slice A n c) n (acs l) ∨ (n = c ∧ ∃ a, A = some a) := by
    rcases h.own with h1 | h1
    · exact .inl h1
    · cases A with
      | some a => exact .inr ⟨h1, a, rfl⟩
      | none =>
        have hn0 : n = 0 := by
          rcases Nat.eq_zero_or_pos n with h0 | h0
          · exact h0
          · obtain ⟨_, _, h, _⟩ := h.rd.2.2.2 h0; cases h
        subst hn0
        subst h1
        have hl : l = [] := List.eq_nil_of_length_eq_zero h.rd.1
        subst hl
        exact .inl (World.ownsRow_nil _ _ _ _)
  rcases key with h1 | ⟨h1, a, rfl⟩
  · obtain ⟨v', w', hrun, h2, h3, h4⟩ := run_app (P := Try.prog) w (g + 1) 26 ty 30 i0 _ 3 24 Try.underlying26 hi.1 hi.2.1 hi.2.2.1 hi.2.2.2 rfl (by omega) _ n (acs l) h1 B A2 m c2 (acs l2) hr.rd (acs_one _) (by unfold maxLen; omega) (by omega) (by omega)
    obtain ⟨A', c', rfl⟩ := own_sl h2
    refine ⟨A', c', w', hrun, by rw [acs_app]; exact h2, (Aw.of_grown h3).mono fun k hk => ?_, fun a ha => ?_⟩
    · cases A with
      | none => simp [Value.ownBlock] at hk
      | some b => simp [Value.ownBlock] at hk; exact ⟨b, rfl, hk⟩
    · subst ha
      rcases h4 with h4 | h4
      · cases A with
        | none => simp [Value.ownBlock] at h4
        | some b => simp [Value.ownBlock] at h4; exact .inl ⟨b, rfl, h4.symm⟩
      · simp [Value.ownBlock] at h4; exact .inr (by omega)
  · subst h1
    have hcells : ∀ j u, (acs l)[j]? = some u → w.cell? (a.add j) = some u := by
      rcases Nat.eq_zero_or_pos n with h0 | h0
      · have hl : l = [] := List.eq_nil_of_length_eq_zero (by rw [h.rd.1, h0])
        subst hl
        intro j u hu; simp [acs] at hu
      · obtain ⟨ad, e, _, hc⟩ := h.rd.rd.at_ h0
        injection e with e; subst e
        exact hc
    obtain ⟨ad2, e2, _, hc2⟩ := hr.rd.at_ hm
    subst e2
    obtain ⟨v', w', hrun, h2, h3⟩ := run_append_arg_grows (P := Try.prog) w 26 ty 30 i0 _ 3 24 Try.underlying26 hi.1 hi.2.1 hi.2.2.1 hi.2.2.2 rfl (by omega) a n n (acs l) (by rw [acs_len, h.rd.1]) hcells ad2 m c2 (acs l2) (by rw [acs_len, hr.1]) hc2 (by omega) (by unfold maxLen; omega) (by omega)
    obtain ⟨A', c', rfl⟩ := own_sl h2
    refine ⟨A', c', w', hrun, by rw [acs_app]; exact own_mono h2 (by omega), (Aw.of_grown h3).mono (fun k hk => by cases hk), fun a' ha => ?_⟩
    subst ha
    rcases h2.2 with ⟨hv, _⟩ | ⟨k, cap, cur, hv, hk, _⟩
    · injection hv with e1; cases e1
    · injection hv with e1
      injection e1 with e1
      exact .inr (by rw [e1]; exact hk)
set_option maxRecDepth 10000 in
set_option maxHeartbeats 4000000 in
theorem ask_any (g : Nat) (A : Option Addr) (n c : Nat) (l : List (Int × Int)) (y no od : Nat) (cl id : Int) (w : World) (h : Bk w g A n c l y no od) (hc : -9223372036854775808 ≤ cl ∧ cl ≤ 9223372036854775807) (hi : -9223372036854775808 ≤ id ∧ id ≤ 9223372036854775807) (hn : n ≤ 900) :
    Calls Try.prog 22 #[.pointer (some ⟨g, 0, none⟩), .int .i64 cl, .int .i64 id] w (RetBk w g A (if (ackOk cl id && decide (l.length < 16)) = true then l ++ [(cl, id)] else l) y no od (ackOk cl id && decide (l.length < 16))) := by
  have hE := ackE cl id
  have hln := h.rd.1
  have hb : Below w.heap.size w (w.alloc (.cells #[.bool false, .int .i64 cl, .int .i64 id] 30)) := (Below.refl _ _).alloc (Nat.le_refl _) _
  have hput := ackPut_any cl id false (w.alloc (.cells #[.bool false, .int .i64 cl, .int .i64 id] 30)) (by intro z hz; simp at hz; rcases hz with rfl | rfl <;> assumption)
  rw [hE, hln] at *
  obtain ⟨ok, hok⟩ : ∃ ok, ok = ackOk cl id := ⟨_, rfl⟩
  rw [← hok] at hput ⊢
  have hbox := heap_alloc_new w (.cells #[.bool false, .int .i64 cl, .int .i64 id] 30)
  have hg0 := blk_lt h.hp
  clear hE hok
  generalize shP ackF [cl, id] = oP at *
  cases ok with
  | false =>
    simp only [Bool.false_eq_true, if_false] at hput
    simp only [Bool.false_and, Bool.false_eq_true, if_false]
    go_enter Try.func22, Try.ntmps22
    go_wp2_with fail
    go_fit hput
    rintro e w1 ⟨A1, n1, c1, rfl, _, hb1⟩
    have hb2 := bnx hb hb1
    have hk := h.up hb2
    go_wp2_with fail
    go_fit (there_any g true _ (blk_cell hk.hp rfl))
    rintro e w2 ⟨rfl, rfl⟩
    go_wp2
    go_ret
    exact ⟨rfl, A, n, c, hk, (Aw.of_below' (U := Ft g A) hb2), fun a ha => .inl ⟨a, ha, rfl⟩⟩
  | true =>
    simp only [if_true] at hput
    simp only [Bool.true_and, decide_eq_true_eq]
    by_cases h16 : n < 16
    · rw [if_pos h16, decide_eq_true h16]
      go_enter Try.func22, Try.ntmps22
      go_wp2_with fail
      go_fit hput
      rintro e w1 ⟨A1, n1, c1, rfl, _, hb1⟩
      replace hbox := blk_old hbox hb1 (blk_lt hbox)
      have hb2 := bnx hb hb1
      have hk := h.up hb2
      have hgw : w.heap.size < w1.heap.size := blk_lt hbox
      clear hb hb1 hput h
      go_wp2_with fail
      go_fit (there_any g true _ (blk_cell hk.hp rfl))
      rintro e w2 ⟨rfl, rfl⟩
      have k1 : w1.cell? ⟨g, 1, none⟩ = some (.slice A n c) := blk_cell hk.hp rfl
      go_wp2_with fail
      refine Ord.region_ (fun _ => True) true [37, 38] (by kernel_rfl) (by kernel_rfl) trivial ?_
      replace hk := hk.up (Below.refl _ _).drew
      replace hbox : w1.drew.heap[w.heap.size]? = _ := hbox
      replace k1 : w1.drew.cell? ⟨g, 1, none⟩ = some (.slice A n c) := k1
      replace hb2 := hb2.drew
      replace hgw : w.heap.size < w1.drew.heap.size := hgw
      generalize w1.drew = w3 at *
      have hrow : w3.rangeAt w.heap.size 0 [.bool false, .int .i64 cl, .int .i64 id] := own_range hbox 0 (fun j v hv => by simpa using hv)
      ((with_reducible refine Ord.e_p (v := ?_) ?_ ?_ ?_ ?_); rotate_left; (· exact rfl); (· kernel_rfl); (· intro w2; go_simp; try with_reducible rfl))
      ((with_reducible refine Ord.e_p (v := ?_) ?_ ?_ ?_ ?_); rotate_left; (· exact rfl); (· kernel_rfl); (· intro w2; go_simp; try with_reducible rfl))
      ((with_reducible refine Ord.e_p (v := ?_) ?_ ?_ ?_ ?_); rotate_left; (· exact rfl); (· kernel_rfl); (· intro w2; go_simp; try with_reducible rfl))
      ((with_reducible refine Ord.e_p (v := ?_) ?_ ?_ ?_ ?_); rotate_left; (· exact rfl); (· kernel_rfl); (· intro w2; go_simp; try with_reducible rfl))
      (try simp only [Act.put, List.setIfInBounds_toArray, List.set_cons_zero, List.set_cons_succ])
      refine Ord.e_load Try.underlying26 rfl k1 rfl (by rfl) (by kernel_rfl) ?_
      (try simp only [Act.put, List.setIfInBounds_toArray, List.set_cons_zero, List.set_cons_succ])
      refine Ord.e_row Try.underlying30 rfl (by kernel_rfl) rfl hrow (by rfl) (by kernel_rfl) ?_
      (try simp only [Act.put, List.setIfInBounds_toArray, List.set_cons_zero, List.set_cons_succ])
      refine Ord.e_x rfl (by kernel_rfl) ?_
      go_wp2
      have hbl : Below w3.heap.size w3 (w3.alloc (.cells #[.bool false, .int .i64 cl, .int .i64 id] 30)) := (Below.refl _ _).alloc (Nat.le_refl _) _
      replace hk := hk.up hbl
      have hnew := rdA_own (l := [(cl, id)]) (base := 0) (e := 30) (w := w3.alloc (.cells #[.bool false, .int .i64 cl, .int .i64 id] 30)) (A := some ⟨w3.heap.size, 0, none⟩) (n := 1) (c := 1) ⟨rfl, .inr ⟨w3.heap.size, 1, _, rfl, Nat.zero_le _, heap_alloc_new w3 _, Nat.le_refl _, by simp [maxLen], rfl, rfl⟩⟩
      refine Ord.Seg.go trivial (fun _ => hbl) ?_
      (try simp only [Act.put, List.setIfInBounds_toArray, List.set_cons_zero, List.set_cons_succ])
      replace hb2 := bnx hb2 hbl
      clear hbl k1 hbox hrow hgw
      generalize (w3.alloc (.cells #[.bool false, .int .i64 cl, .int .i64 id] 30)) = w4 at *
      obtain ⟨A', c', w5, hrun, hown, haw, hA'⟩ := app_book hk hnew (by omega) (by omega) 26
      refine Ord.e_x rfl (by kernel_rfl) ?_
      refine wpList_app_run rfl rfl hrun ?_
      clear hrun
      go_wp2_with fail
      refine Ord.Seg.go trivial (fun h => by cases h) ?_
      (try simp only [Act.put, List.setIfInBounds_toArray, List.set_cons_zero, List.set_cons_succ])
      have hp5 : w5.heap[g]? = some (.cells #[.bool true, .slice A n c, .int .i64 y, .int .i64 no, .int .i64 od] 45) := haw.keep hk.hp (fun ⟨a, e, hb⟩ => by have := (hk.ne a e).1; omega)
      ((with_reducible refine Ord.e_p (v := ?_) ?_ ?_ ?_ ?_); rotate_left; (· exact rfl); (· kernel_rfl); (· intro w2; go_simp; try with_reducible rfl))
      ((with_reducible refine Ord.e_p (v := ?_) ?_ ?_ ?_ ?_); rotate_left; (· exact rfl); (· kernel_rfl); (· intro w2; go_simp; try with_reducible rfl))
      (try simp only [Act.put, List.setIfInBounds_toArray, List.set_cons_zero, List.set_cons_succ])
      have s1 : w5.cell? ⟨g, 1, none⟩ = some (.slice A n c) := blk_cell hp5 rfl
      have s2 : w5.frozen? ⟨g, 1, none⟩ = false := blk_free (i := 1) hp5
      refine Ord.e_x rfl (by kernel_rfl) ?_
      go_wp2
      have hp6 := blk_set (i := 1) hp5 (.slice A' (n + 1) c')
      have hown6 := own_set hown (g := g) (i := 1) (by omega) (.slice A' (n + 1) c')
      have haw6 := haw.mono (U' := Ft g A) (fun k hk => .inr hk)
      replace haw6 := haw6.set (p := ⟨g, 1, none⟩) (.slice A' (n + 1) c') (.inl rfl)
      have hsz : (w5.setCell ⟨g, 1, none⟩ (.slice A' (n + 1) c')).heap.size = w5.heap.size := by simp [World.setCell]
      refine Ord.Seg.go trivial (fun h => by cases h) ?_
      (try simp only [Act.put, List.setIfInBounds_toArray, List.set_cons_zero, List.set_cons_succ])
      refine Ord.e_nil ?_
      clear s1 s2
      go_wp2
      go_ret
      refine ⟨rfl, A', n + 1, c', ⟨hp6, rdA_own hown6, .inl hown6, fun a ha => ?_⟩, (Aw.of_below' hb2).trans haw6, fun a ha => ?_⟩
      · subst ha
        have := own_blk hown6 (k := a.block) (by simp [Value.ownBlock])
        omega
      · rcases hA' a ha with h1 | h1
        · exact .inl h1
        · exact .inr (Nat.le_trans hb2.size h1)
    · rw [if_neg h16, decide_eq_false h16]
      go_enter Try.func22, Try.ntmps22
      go_wp2_with fail
      go_fit hput
      rintro e w1 ⟨A1, n1, c1, rfl, _, hb1⟩
      have hb2 := bnx hb hb1
      have hk := h.up hb2
      have hle := h.rd.2.1
      go_wp2_with fail
      go_fit (there_any g true _ (blk_cell hk.hp rfl))
      rintro e w2 ⟨rfl, rfl⟩
      have k1 : w1.cell? ⟨g, 1, none⟩ = some (.slice A n c) := blk_cell hk.hp rfl
      go_wp2
      go_ret
      exact ⟨rfl, A, n, c, hk, (Aw.of_below' (U := Ft g A) hb2), fun a ha => .inl ⟨a, ha, rfl⟩⟩

end Go.Proofs.Ytkelepnipndbbaa
