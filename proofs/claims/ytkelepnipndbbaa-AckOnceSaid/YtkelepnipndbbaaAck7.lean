/-
  ack's book: Hear walked.
-/
import Derived.Test.YtkelepnipndbbaaAck6
set_option linter.unusedSimpArgs false
set_option linter.unusedVariables false
namespace Go.Proofs.Ytkelepnipndbbaa
open Go.RowKit NumLaw
attribute [local go_sem] Addr.add_mid

def dropAt (l : List (Int × Int)) (i : Int) : List (Int × Int) := if i < 0 then l else l.take i.toNat ++ l.drop (i.toNat + 1)
theorem hear_nil (b : Bool) (c i : Int) (w : World) : Calls Try.prog 24 #[.pointer none, .agg #[.bool b, .int .i64 c, .int .i64 i]] w fun e w' => e = .returned (.bool false) ∧ Below w.heap.size w w' := by
  have hb : Below w.heap.size w (w.alloc (.cells #[.bool b, .int .i64 c, .int .i64 i] 30)) := (Below.refl _ _).alloc (Nat.le_refl _) _
  go_enter Try.func24, Try.ntmps24
  go_wp2_with fail
  go_fit (there_nil _)
  rintro e w2 ⟨rfl, rfl⟩
  go_wp2
  go_ret
  exact ⟨rfl, hb⟩
theorem hear_un (g : Nat) (b : Bool) (c i : Int) (w : World) (h : w.cell? ⟨g, 0, none⟩ = some (.bool false)) (hg : g < w.heap.size) : Calls Try.prog 24 #[.pointer (some ⟨g, 0, none⟩), .agg #[.bool b, .int .i64 c, .int .i64 i]] w fun e w' => e = .returned (.bool false) ∧ Below w.heap.size w w' := by
  have hb : Below w.heap.size w (w.alloc (.cells #[.bool b, .int .i64 c, .int .i64 i] 30)) := (Below.refl _ _).alloc (Nat.le_refl _) _
  go_enter Try.func24, Try.ntmps24
  go_wp2_with fail
  go_fit (there_any g false _ ((hb.cell (p := ⟨g, 0, none⟩) hg).trans h))
  rintro e w2 ⟨rfl, rfl⟩
  go_wp2
  go_ret
  exact ⟨rfl, hb⟩
theorem Bk.set {w : World} {g : Nat} {A : Option Addr} {n c : Nat} {l : List (Int × Int)} {y no od : Nat} (h : Bk w g A n c l y no od) {j : Nat} {v : Value} {y' no' od' : Nat} (hp' : (w.setCell ⟨g, j, none⟩ v).heap[g]? = some (.cells #[.bool true, .slice A n c, .int .i64 y', .int .i64 no', .int .i64 od'] 45)) : Bk (w.setCell ⟨g, j, none⟩ v) g A n c l y' no' od' := by
  have haw2 : Aw (fun k => k = g) w (w.setCell ⟨g, j, none⟩ v) := (Aw.refl _ _).set (p := ⟨g, j, none⟩) _ rfl
  refine ⟨hp', h.rd.keep fun g' off e hlt => ⟨Nat.lt_of_lt_of_le hlt haw2.size, fun i => ?_⟩, ?_, fun a e => ⟨(h.ne a e).1, Nat.lt_of_lt_of_le (h.ne a e).2 haw2.size⟩⟩
  · have hne := (h.ne _ e).1
    have := haw2.block g' hlt (by have : g < g' := hne; omega)
    rw [World.cell?, World.cell?, show (⟨g', i, none⟩ : Addr).block = g' from rfl, this]
  · rcases h.own with h1 | h1
    · exact .inl (own_set h1 (by omega) _)
    · exact .inr h1
/-- append(l[:i:i], l[i+1:]..) upon a book's row. -/
theorem del_book {w : World} {g : Nat} {A : Option Addr} {n c : Nat} {l : List (Int × Int)} {y no od : Nat} (h : Bk w g A n c l y no od) {k : Nat} (hk : k < n) (hn : n ≤ 1000) (ty : TypeId) :
    ∃ A' c' w', (Builtin.append_ #[26, 26] ty #[.slice A k k, .slice (cutA A c (k + 1) 3) (n - (k + 1)) (c - (k + 1))]).run Try.prog w = .ok (.slice A' (n - 1) c') w' ∧ RdA w' w'.heap.size A' (n - 1) c' (l.take k ++ l.drop (k + 1)) ∧ (w'.ownsRow (g + 1) 30 3 (.slice A' (n - 1) c') (n - 1) (acs (l.take k ++ l.drop (k + 1))) ∨ n - 1 = c') ∧ Aw (fun _ => False) w w' ∧ (∀ a, A' = some a → (∃ b, A = some b ∧ b.block = a.block) ∨ (w.heap.size ≤ a.block ∧ a.block < w'.heap.size)) := by
  obtain ⟨i0, hi⟩ := info_parts ack_info
  have hgl := blk_lt h.hp
  have hln := h.rd.1
  obtain ⟨gb, off, e, hgb, hcell⟩ := h.rd.2.2.2 (by omega)
  subst e
  have hle := h.rd.2.1
  have hmx := h.rd.2.2.1
  have hcells : ∀ j u, (acs l)[j]? = some u → w.cell? ((⟨gb, off, none⟩ : Addr).add j) = some u := by
    intro j u hu
    rw [show (⟨gb, off, none⟩ : Addr).add j = ⟨gb, off + j, none⟩ by unfold Addr.add; split <;> simp_all]
    exact hcell j u hu
  have hpre : ∀ j u, (acs (l.take k))[j]? = some u → w.cell? ((⟨gb, off, none⟩ : Addr).add j) = some u := by
    intro j u hu
    rw [acs_take, List.getElem?_take] at hu
    split at hu
    · exact hcells j u hu
    · cases hu
  have hpl : (acs (l.take k)).length = k * 3 := by rw [acs_len, List.length_take]; omega
  have hsl : (acs (l.drop (k + 1))).length = (n - (k + 1)) * 3 := by rw [acs_len, List.length_drop]; omega
  by_cases hlast : n = k + 1
  · have hd : l.drop (k + 1) = [] := List.drop_of_length_le (by omega)
    have hcut : ∃ ad, cutA (some ⟨gb, off, none⟩) c (k + 1) 3 = some ad := by unfold cutA; split <;> exact ⟨_, rfl⟩
    obtain ⟨ad, hcut⟩ := hcut
    have hrun := run_append_room_cells (P := Try.prog) w 26 ty 30 i0 Try.underlying26 hi.1 gb off k k ad 0 (c - (k + 1)) [] (by simp) (fun j u hu => by simp at hu) (fun u hu => by simp at hu) (by omega) (fun j hj => by simp at hj) (fun j hj => by simp at hj)
    refine ⟨some ⟨gb, off, none⟩, k, w, ?_, ?_, .inr (by omega), Aw.refl _ _, fun a ha => .inl ⟨_, rfl, by cases ha; rfl⟩⟩
    · rw [hcut, show n - (k + 1) = 0 by omega, show n - 1 = k by omega]
      exact hrun
    · rw [hd, List.append_nil, show n - 1 = k by omega]
      refine ⟨by rw [List.length_take]; omega, Nat.le_refl _, by omega, fun _ => ⟨gb, off, rfl, hgb, fun j u hu => ?_⟩⟩
      have := hpre j u hu
      rwa [show (⟨gb, off, none⟩ : Addr).add j = ⟨gb, off + j, none⟩ by unfold Addr.add; split <;> simp_all] at this
  · have hdr := h.rd.rd.drop' (k := k + 1) (by omega)
    rw [← acs_drop] at hdr
    obtain ⟨ad2, e2, _, hc2⟩ := hdr.at_ (by omega)
    rw [e2]
    obtain ⟨v', w', hrun, h2, h3⟩ := run_append_arg_grows (P := Try.prog) w 26 ty 30 i0 _ 3 24 Try.underlying26 hi.1 hi.2.1 hi.2.2.1 hi.2.2.2 rfl (by omega) ⟨gb, off, none⟩ k k (acs (l.take k)) hpl hpre ad2 (n - (k + 1)) (c - (k + 1)) (acs (l.drop (k + 1))) hsl hc2 (by omega) (by unfold maxLen; omega) (by omega)
    rw [show k + (n - (k + 1)) = n - 1 by omega, ← acs_app] at h2
    obtain ⟨A', c', rfl⟩ := own_sl h2
    refine ⟨A', c', w', hrun, rdA_own h2, .inl (own_mono h2 (by omega)), (Aw.of_grown h3).mono (fun k hk => by cases hk), fun a' ha => ?_⟩
    subst ha
    rcases h2.2 with ⟨hv, _⟩ | ⟨k', cap, cur, hv, hk', _⟩
    · injection hv with e1; cases e1
    · injection hv with e1
      injection e1 with e1
      exact .inr ⟨by rw [e1]; exact hk', (own_blk h2 (k := a'.block) rfl).2⟩
set_option maxRecDepth 10000 in
set_option maxHeartbeats 600000 in
theorem hear_any (g : Nat) (A : Option Addr) (n c : Nat) (l : List (Int × Int)) (y no od : Nat) (b : Bool) (cl id : Int) (w : World) (h : Bk w g A n c l y no od) (hn : n ≤ 900) (hy : y ≤ 1000000) (hno : no ≤ 1000000) (hod : od ≤ 1000000) :
    Calls Try.prog 24 #[.pointer (some ⟨g, 0, none⟩), .agg #[.bool b, .int .i64 cl, .int .i64 id]] w (RetBk w g A (dropAt l (idxI (cl, id) 0 l)) (if idxI (cl, id) 0 l < 0 then y else if b = true then y + 1 else y) (if idxI (cl, id) 0 l < 0 then no else if b = true then no else no + 1) (if idxI (cl, id) 0 l < 0 then od + 1 else od) (decide (0 ≤ idxI (cl, id) 0 l))) := by
  have hln := h.rd.1
  have hb1 : Below w.heap.size w (w.alloc (.cells #[.bool b, .int .i64 cl, .int .i64 id] 30)) := (Below.refl _ _).alloc (Nat.le_refl _) _
  have hbox := heap_alloc_new w (.cells #[.bool b, .int .i64 cl, .int .i64 id] 30)
  have hrange := idxI_range (cl, id) l 0
  have hk0 := h.up hb1
  have hidx := indexFunc_any A n c _ l w.heap.size b cl id (w.alloc (.cells #[.bool b, .int .i64 cl, .int .i64 id] 30)) hk0.rd (Nat.le_refl _) hbox
  generalize idxI (cl, id) 0 l = t at *
  obtain ⟨l', hl'⟩ : ∃ x, x = dropAt l t := ⟨_, rfl⟩
  obtain ⟨y', hy'⟩ : ∃ x, x = (if t < 0 then y else if b = true then y + 1 else y) := ⟨_, rfl⟩
  obtain ⟨no', hno'⟩ : ∃ x, x = (if t < 0 then no else if b = true then no else no + 1) := ⟨_, rfl⟩
  obtain ⟨od', hod'⟩ : ∃ x, x = (if t < 0 then od + 1 else od) := ⟨_, rfl⟩
  obtain ⟨v', hv'⟩ : ∃ x, x = decide (0 ≤ t) := ⟨_, rfl⟩
  rw [← hl', ← hy', ← hno', ← hod', ← hv']
  have Hl := Lib.hid hl'
  have Hy := Lib.hid hy'
  have Hno := Lib.hid hno'
  have Hod := Lib.hid hod'
  have Hv := Lib.hid hv'
  clear hl' hy' hno' hod' hv'
  have hle := h.rd.2.1
  have hmx := h.rd.2.2.1
  unfold maxLen at hmx
  clear h
  go_enter Try.func24, Try.ntmps24
  go_wp2_with fail
  generalize (w.alloc (.cells #[.bool b, .int .i64 cl, .int .i64 id] 30)) = w1 at *
  go_fit (there_any g true _ (blk_cell hk0.hp rfl))
  rintro e w2 ⟨rfl, rfl⟩
  have k1 : w1.cell? ⟨g, 1, none⟩ = some (.slice A n c) := blk_cell hk0.hp rfl
  go_wp2_with fail
  go_fit hidx
  rintro e w2 ⟨rfl, hb12⟩
  have hk := hk0.up hb12
  have hb2 := bnx hb1 hb12
  replace hbox := blk_old hbox hb12 (blk_lt hbox)
  clear hk0 hb12 hb1 k1 hidx
  have hp := hk.hp
  have hgne : g ≠ w.heap.size := fun e => by rw [e] at hp; rw [hp] at hbox; cases hbox
  by_cases hneg : t < 0
  · obtain rfl : l = l' := by rw [Hl.out]; unfold dropAt; rw [if_pos hneg]
    obtain rfl : y = y' := by rw [Hy.out, if_pos hneg]
    obtain rfl : no = no' := by rw [Hno.out, if_pos hneg]
    obtain rfl : od + 1 = od' := by rw [Hod.out, if_pos hneg]
    obtain rfl : false = v' := by rw [Hv.out]; simp; omega
    have c4 : w2.cell? ⟨g, 4, none⟩ = some (.int .i64 od) := blk_cell hp rfl
    have f4 : w2.frozen? ⟨g, 4, none⟩ = false := blk_free (i := 4) hp
    have hp3 := blk_set (i := 4) hp (.int .i64 ((od : Int) + 1))
    have haw : Aw (Ft g A) w (w2.setCell ⟨g, 4, none⟩ (.int .i64 ((od : Int) + 1))) := (Aw.of_below' (U := Ft g A) hb2).set (p := ⟨g, 4, none⟩) _ (.inl rfl)
    have hkeep := hk.set (y' := y) (no' := no) (od' := od + 1) hp3
    clear hp3 hk hbox hp
    go_wp2
    go_ret
    exact ⟨rfl, A, n, c, hkeep, haw, fun a ha => .inl ⟨a, ha, rfl⟩⟩
  · obtain ⟨k, rfl⟩ : ∃ k : Nat, t = k := ⟨t.toNat, by omega⟩
    have hkn : k < n := by omega
    obtain rfl : l.take k ++ l.drop (k + 1) = l' := by rw [Hl.out]; unfold dropAt; rw [if_neg (by omega)]; simp
    obtain rfl : od = od' := by rw [Hod.out, if_neg hneg]
    obtain rfl : true = v' := by rw [Hv.out]; simp
    obtain ⟨i0, hi0⟩ := info_parts ack_info
    have hs1 : ∀ w, (Instr.slice 26 (.slice A n c) none (some (.int .i64 (k : Int))) (some (.int .i64 (k : Int)))).run Try.prog w = .ok (.slice A k k) w := run_cut_hm (P := Try.prog) Try.underlying26 hi0.1 A n c k (by omega)
    have hs2 : ∀ w, (Instr.slice 26 (.slice A n c) (some (.int .i64 ((k : Int) + 1))) none none).run Try.prog w = .ok (.slice (cutA A c (k + 1) 3) (n - (k + 1)) (c - (k + 1))) w := fun w => by
      have := run_cut_l (P := Try.prog) Try.underlying26 hi0.1 hi0.2.2.1 A n c (k + 1) (by omega) w
      rwa [show ((k + 1 : Nat) : Int) = (k : Int) + 1 from by simp] at this
    have wz : IntKind.i64.wrap ((k : Int) + 1) = (k : Int) + 1 := by rw [IntKind.wrap_i64]; omega
    clear hi0 hrange hln
    rcases b with _ | _
    · obtain rfl : y = y' := by rw [Hy.out, if_neg hneg]; simp
      obtain rfl : no + 1 = no' := by rw [Hno.out, if_neg hneg]; simp
      have c0 : w2.cell? ⟨w.heap.size, 0, none⟩ = some (.bool false) := blk_cell hbox rfl
      have cj : w2.cell? ⟨g, 3, none⟩ = some (.int .i64 no) := blk_cell hp rfl
      have fj : w2.frozen? ⟨g, 3, none⟩ = false := blk_free (i := 3) hp
      have hp3 := blk_set (i := 3) hp (.int .i64 ((no : Int) + 1))
      have hk3 := hk.set (y' := y) (no' := no + 1) (od' := od) hp3
      have haw3 : Aw (Ft g A) w (w2.setCell ⟨g, 3, none⟩ (.int .i64 ((no : Int) + 1))) := (Aw.of_below' (U := Ft g A) hb2).set (p := ⟨g, 3, none⟩) _ (.inl rfl)
      have hsz : w.heap.size ≤ (w2.setCell ⟨g, 3, none⟩ (.int .i64 ((no : Int) + 1))).heap.size := haw3.size
      clear hk hp hp3 hb2
      go_wp2_with fail
      generalize (w2.setCell ⟨g, 3, none⟩ (.int .i64 ((no : Int) + 1))) = w3 at *
      clear c0 cj fj hbox
      refine Ord.region_ (fun _ => True) true [46, 53] (by kernel_rfl) (by kernel_rfl) trivial ?_
      replace hk3 := hk3.up (Below.refl _ _).drew
      replace haw3 := haw3.drew
      replace hsz : w.heap.size ≤ w3.drew.heap.size := hsz
      generalize w3.drew = w4 at *
      have k1 : w4.cell? ⟨g, 1, none⟩ = some (.slice A n c) := blk_cell hk3.hp rfl
      ((with_reducible refine Ord.e_p (v := ?_) ?_ ?_ ?_ ?_); rotate_left; (· exact rfl); (· kernel_rfl); (· intro w2; go_simp; try with_reducible rfl))
      ((with_reducible refine Ord.e_p (v := ?_) ?_ ?_ ?_ ?_); rotate_left; (· exact rfl); (· kernel_rfl); (· intro w2; go_simp; try with_reducible rfl))
      ((with_reducible refine Ord.e_p (v := ?_) ?_ ?_ ?_ ?_); rotate_left; (· exact rfl); (· kernel_rfl); (· intro w2; go_simp; try with_reducible rfl))
      ((with_reducible refine Ord.e_p (v := ?_) ?_ ?_ ?_ ?_); rotate_left; (· exact rfl); (· kernel_rfl); (· intro w2; go_simp; try with_reducible rfl))
      (try simp only [Act.put, List.setIfInBounds_toArray, List.set_cons_zero, List.set_cons_succ])
      refine Ord.e_load Try.underlying26 rfl k1 rfl (by rfl) (by kernel_rfl) ?_
      (try simp only [Act.put, List.setIfInBounds_toArray, List.set_cons_zero, List.set_cons_succ])
      ((with_reducible refine Ord.e_p (v := ?_) ?_ ?_ ?_ ?_); rotate_left; (· exact rfl); (· kernel_rfl); (· intro w2; go_simp; try with_reducible rfl))
      ((with_reducible refine Ord.e_p (v := ?_) ?_ ?_ ?_ ?_); rotate_left; (· exact rfl); (· kernel_rfl); (· intro w2; go_simp; try with_reducible rfl))
      (try simp only [Act.put, List.setIfInBounds_toArray, List.set_cons_zero, List.set_cons_succ])
      ((with_reducible refine Ord.e_p (v := ?_) ?_ ?_ ?_ ?_); rotate_left; (· exact rfl); (· kernel_rfl); (· intro w2; go_simp; try with_reducible rfl))
      (try simp only [Act.put, List.setIfInBounds_toArray, List.set_cons_zero, List.set_cons_succ])
      ((with_reducible refine Ord.e_p (v := ?_) ?_ ?_ ?_ ?_); rotate_left; (· exact rfl); (· kernel_rfl); (· intro w2; go_simp; try with_reducible rfl))
      ((with_reducible refine Ord.e_p (v := ?_) ?_ ?_ ?_ ?_); rotate_left; (· exact rfl); (· kernel_rfl); (· intro w2; go_simp; try with_reducible rfl))
      ((with_reducible refine Ord.e_p (v := ?_) ?_ ?_ ?_ ?_); rotate_left; (· exact rfl); (· kernel_rfl); (· intro w2; go_simp; try with_reducible rfl))
      (try simp only [Act.put, List.setIfInBounds_toArray, List.set_cons_zero, List.set_cons_succ])
      refine Ord.e_load Try.underlying26 rfl k1 rfl (by rfl) (by kernel_rfl) ?_
      (try simp only [Act.put, List.setIfInBounds_toArray, List.set_cons_zero, List.set_cons_succ])
      ((with_reducible refine Ord.e_p (v := ?_) ?_ ?_ ?_ ?_); rotate_left; (· exact rfl); (· kernel_rfl); (· intro w2; go_simp; try with_reducible rfl))
      (try simp only [Act.put, List.setIfInBounds_toArray, List.set_cons_zero, List.set_cons_succ])
      ((with_reducible refine Ord.e_p (v := ?_) ?_ ?_ ?_ ?_); rotate_left; (· exact rfl); (· kernel_rfl); (· intro w2; go_simp; try with_reducible rfl))
      (try simp only [Act.put, List.setIfInBounds_toArray, List.set_cons_zero, List.set_cons_succ])
      ((with_reducible refine Ord.e_p (v := ?_) ?_ ?_ ?_ ?_); rotate_left; (· exact rfl); (· kernel_rfl); (· intro w2; go_simp; try with_reducible rfl))
      (try simp only [Act.put, List.setIfInBounds_toArray, List.set_cons_zero, List.set_cons_succ])
      obtain ⟨A', c', w5, hrun, hrd, hown, haw, hA'⟩ := del_book hk3 hkn (by omega) 26
      refine Ord.e_x rfl (by kernel_rfl) ?_
      refine wpList_app_run rfl rfl hrun ?_
      clear hrun
      go_wp2_with fail
      refine Ord.Seg.go trivial (fun h => by cases h) ?_
      (try simp only [Act.put, List.setIfInBounds_toArray, List.set_cons_zero, List.set_cons_succ])
      have hp5 := haw.keep hk3.hp (fun h => h)
      ((with_reducible refine Ord.e_p (v := ?_) ?_ ?_ ?_ ?_); rotate_left; (· exact rfl); (· kernel_rfl); (· intro w2; go_simp; try with_reducible rfl))
      ((with_reducible refine Ord.e_p (v := ?_) ?_ ?_ ?_ ?_); rotate_left; (· exact rfl); (· kernel_rfl); (· intro w2; go_simp; try with_reducible rfl))
      (try simp only [Act.put, List.setIfInBounds_toArray, List.set_cons_zero, List.set_cons_succ])
      have s1 : w5.cell? ⟨g, 1, none⟩ = some (.slice A n c) := blk_cell hp5 rfl
      have s2 : w5.frozen? ⟨g, 1, none⟩ = false := blk_free (i := 1) hp5
      refine Ord.e_x rfl (by kernel_rfl) ?_
      go_wp2
      have hp6 := blk_set (i := 1) hp5 (.slice A' (n - 1) c')
      have haw6 := haw.mono (U' := Ft g A) (fun k hk => hk.elim)
      replace haw6 := haw3.trans (haw6.set (p := ⟨g, 1, none⟩) (.slice A' (n - 1) c') (.inl rfl))
      have haw56 : Aw (fun k => k = g) w5 (w5.setCell ⟨g, 1, none⟩ (.slice A' (n - 1) c')) := (Aw.refl _ _).set (p := ⟨g, 1, none⟩) _ rfl
      have hsz56 := haw56.size
      have hsz45 := haw.size
      have hgl := blk_lt hk3.hp
      have hgA' : ∀ a, A' = some a → g < a.block ∧ a.block < w5.heap.size ∧ ((∃ b, A = some b ∧ b.block = a.block) ∨ w.heap.size ≤ a.block) := fun a ha => by
        rcases hA' a ha with ⟨b, e1, e2⟩ | h1
        · have := hk3.ne b e1
          rw [e2] at this
          exact ⟨this.1, by omega, .inl ⟨b, e1, e2⟩⟩
        · exact ⟨by omega, h1.2, .inr (by omega)⟩
      have hrd6 : RdA (w5.setCell ⟨g, 1, none⟩ (.slice A' (n - 1) c')) (w5.setCell ⟨g, 1, none⟩ (.slice A' (n - 1) c')).heap.size A' (n - 1) c' (l.take k ++ l.drop (k + 1)) := hrd.keep fun g' off e hlt => ⟨Nat.lt_of_lt_of_le hlt haw56.size, fun i => by
        have hne : g < g' := (hgA' _ e).1
        have := haw56.block g' hlt (by omega)
        rw [World.cell?, World.cell?, show (⟨g', i, none⟩ : Addr).block = g' from rfl, this]⟩
      refine Ord.Seg.go trivial (fun h => by cases h) ?_
      (try simp only [Act.put, List.setIfInBounds_toArray, List.set_cons_zero, List.set_cons_succ])
      refine Ord.e_nil ?_
      clear s1 s2 k1
      go_wp2
      go_ret
      refine ⟨rfl, A', n - 1, c', ⟨hp6, hrd6, ?_, fun a ha => ⟨(hgA' a ha).1, Nat.lt_of_lt_of_le (hgA' a ha).2.1 hsz56⟩⟩, haw6, fun a ha => (hgA' a ha).2.2⟩
      rcases hown with h1 | h1
      · exact .inl (own_set h1 (by omega) _)
      · exact .inr h1
    · obtain rfl : y + 1 = y' := by rw [Hy.out, if_neg hneg]; simp
      obtain rfl : no = no' := by rw [Hno.out, if_neg hneg]; simp
      have c0 : w2.cell? ⟨w.heap.size, 0, none⟩ = some (.bool true) := blk_cell hbox rfl
      have cj : w2.cell? ⟨g, 2, none⟩ = some (.int .i64 y) := blk_cell hp rfl
      have fj : w2.frozen? ⟨g, 2, none⟩ = false := blk_free (i := 2) hp
      have hp3 := blk_set (i := 2) hp (.int .i64 ((y : Int) + 1))
      have hk3 := hk.set (y' := y + 1) (no' := no) (od' := od) hp3
      have haw3 : Aw (Ft g A) w (w2.setCell ⟨g, 2, none⟩ (.int .i64 ((y : Int) + 1))) := (Aw.of_below' (U := Ft g A) hb2).set (p := ⟨g, 2, none⟩) _ (.inl rfl)
      have hsz : w.heap.size ≤ (w2.setCell ⟨g, 2, none⟩ (.int .i64 ((y : Int) + 1))).heap.size := haw3.size
      clear hk hp hp3 hb2
      go_wp2_with fail
      generalize (w2.setCell ⟨g, 2, none⟩ (.int .i64 ((y : Int) + 1))) = w3 at *
      clear c0 cj fj hbox
      refine Ord.region_ (fun _ => True) true [46, 53] (by kernel_rfl) (by kernel_rfl) trivial ?_
      replace hk3 := hk3.up (Below.refl _ _).drew
      replace haw3 := haw3.drew
      replace hsz : w.heap.size ≤ w3.drew.heap.size := hsz
      generalize w3.drew = w4 at *
      have k1 : w4.cell? ⟨g, 1, none⟩ = some (.slice A n c) := blk_cell hk3.hp rfl
      ((with_reducible refine Ord.e_p (v := ?_) ?_ ?_ ?_ ?_); rotate_left; (· exact rfl); (· kernel_rfl); (· intro w2; go_simp; try with_reducible rfl))
      ((with_reducible refine Ord.e_p (v := ?_) ?_ ?_ ?_ ?_); rotate_left; (· exact rfl); (· kernel_rfl); (· intro w2; go_simp; try with_reducible rfl))
      ((with_reducible refine Ord.e_p (v := ?_) ?_ ?_ ?_ ?_); rotate_left; (· exact rfl); (· kernel_rfl); (· intro w2; go_simp; try with_reducible rfl))
      ((with_reducible refine Ord.e_p (v := ?_) ?_ ?_ ?_ ?_); rotate_left; (· exact rfl); (· kernel_rfl); (· intro w2; go_simp; try with_reducible rfl))
      (try simp only [Act.put, List.setIfInBounds_toArray, List.set_cons_zero, List.set_cons_succ])
      refine Ord.e_load Try.underlying26 rfl k1 rfl (by rfl) (by kernel_rfl) ?_
      (try simp only [Act.put, List.setIfInBounds_toArray, List.set_cons_zero, List.set_cons_succ])
      ((with_reducible refine Ord.e_p (v := ?_) ?_ ?_ ?_ ?_); rotate_left; (· exact rfl); (· kernel_rfl); (· intro w2; go_simp; try with_reducible rfl))
      ((with_reducible refine Ord.e_p (v := ?_) ?_ ?_ ?_ ?_); rotate_left; (· exact rfl); (· kernel_rfl); (· intro w2; go_simp; try with_reducible rfl))
      (try simp only [Act.put, List.setIfInBounds_toArray, List.set_cons_zero, List.set_cons_succ])
      ((with_reducible refine Ord.e_p (v := ?_) ?_ ?_ ?_ ?_); rotate_left; (· exact rfl); (· kernel_rfl); (· intro w2; go_simp; try with_reducible rfl))
      (try simp only [Act.put, List.setIfInBounds_toArray, List.set_cons_zero, List.set_cons_succ])
      ((with_reducible refine Ord.e_p (v := ?_) ?_ ?_ ?_ ?_); rotate_left; (· exact rfl); (· kernel_rfl); (· intro w2; go_simp; try with_reducible rfl))
      ((with_reducible refine Ord.e_p (v := ?_) ?_ ?_ ?_ ?_); rotate_left; (· exact rfl); (· kernel_rfl); (· intro w2; go_simp; try with_reducible rfl))
      ((with_reducible refine Ord.e_p (v := ?_) ?_ ?_ ?_ ?_); rotate_left; (· exact rfl); (· kernel_rfl); (· intro w2; go_simp; try with_reducible rfl))
      (try simp only [Act.put, List.setIfInBounds_toArray, List.set_cons_zero, List.set_cons_succ])
      refine Ord.e_load Try.underlying26 rfl k1 rfl (by rfl) (by kernel_rfl) ?_
      (try simp only [Act.put, List.setIfInBounds_toArray, List.set_cons_zero, List.set_cons_succ])
      ((with_reducible refine Ord.e_p (v := ?_) ?_ ?_ ?_ ?_); rotate_left; (· exact rfl); (· kernel_rfl); (· intro w2; go_simp; try with_reducible rfl))
      (try simp only [Act.put, List.setIfInBounds_toArray, List.set_cons_zero, List.set_cons_succ])
      ((with_reducible refine Ord.e_p (v := ?_) ?_ ?_ ?_ ?_); rotate_left; (· exact rfl); (· kernel_rfl); (· intro w2; go_simp; try with_reducible rfl))
      (try simp only [Act.put, List.setIfInBounds_toArray, List.set_cons_zero, List.set_cons_succ])
      ((with_reducible refine Ord.e_p (v := ?_) ?_ ?_ ?_ ?_); rotate_left; (· exact rfl); (· kernel_rfl); (· intro w2; go_simp; try with_reducible rfl))
      (try simp only [Act.put, List.setIfInBounds_toArray, List.set_cons_zero, List.set_cons_succ])
      obtain ⟨A', c', w5, hrun, hrd, hown, haw, hA'⟩ := del_book hk3 hkn (by omega) 26
      refine Ord.e_x rfl (by kernel_rfl) ?_
      refine wpList_app_run rfl rfl hrun ?_
      clear hrun
      go_wp2_with fail
      refine Ord.Seg.go trivial (fun h => by cases h) ?_
      (try simp only [Act.put, List.setIfInBounds_toArray, List.set_cons_zero, List.set_cons_succ])
      have hp5 := haw.keep hk3.hp (fun h => h)
      ((with_reducible refine Ord.e_p (v := ?_) ?_ ?_ ?_ ?_); rotate_left; (· exact rfl); (· kernel_rfl); (· intro w2; go_simp; try with_reducible rfl))
      ((with_reducible refine Ord.e_p (v := ?_) ?_ ?_ ?_ ?_); rotate_left; (· exact rfl); (· kernel_rfl); (· intro w2; go_simp; try with_reducible rfl))
      (try simp only [Act.put, List.setIfInBounds_toArray, List.set_cons_zero, List.set_cons_succ])
      have s1 : w5.cell? ⟨g, 1, none⟩ = some (.slice A n c) := blk_cell hp5 rfl
      have s2 : w5.frozen? ⟨g, 1, none⟩ = false := blk_free (i := 1) hp5
      refine Ord.e_x rfl (by kernel_rfl) ?_
      go_wp2
      have hp6 := blk_set (i := 1) hp5 (.slice A' (n - 1) c')
      have haw6 := haw.mono (U' := Ft g A) (fun k hk => hk.elim)
      replace haw6 := haw3.trans (haw6.set (p := ⟨g, 1, none⟩) (.slice A' (n - 1) c') (.inl rfl))
      have haw56 : Aw (fun k => k = g) w5 (w5.setCell ⟨g, 1, none⟩ (.slice A' (n - 1) c')) := (Aw.refl _ _).set (p := ⟨g, 1, none⟩) _ rfl
      have hsz56 := haw56.size
      have hsz45 := haw.size
      have hgl := blk_lt hk3.hp
      have hgA' : ∀ a, A' = some a → g < a.block ∧ a.block < w5.heap.size ∧ ((∃ b, A = some b ∧ b.block = a.block) ∨ w.heap.size ≤ a.block) := fun a ha => by
        rcases hA' a ha with ⟨b, e1, e2⟩ | h1
        · have := hk3.ne b e1
          rw [e2] at this
          exact ⟨this.1, by omega, .inl ⟨b, e1, e2⟩⟩
        · exact ⟨by omega, h1.2, .inr (by omega)⟩
      have hrd6 : RdA (w5.setCell ⟨g, 1, none⟩ (.slice A' (n - 1) c')) (w5.setCell ⟨g, 1, none⟩ (.slice A' (n - 1) c')).heap.size A' (n - 1) c' (l.take k ++ l.drop (k + 1)) := hrd.keep fun g' off e hlt => ⟨Nat.lt_of_lt_of_le hlt haw56.size, fun i => by
        have hne : g < g' := (hgA' _ e).1
        have := haw56.block g' hlt (by omega)
        rw [World.cell?, World.cell?, show (⟨g', i, none⟩ : Addr).block = g' from rfl, this]⟩
      refine Ord.Seg.go trivial (fun h => by cases h) ?_
      (try simp only [Act.put, List.setIfInBounds_toArray, List.set_cons_zero, List.set_cons_succ])
      refine Ord.e_nil ?_
      clear s1 s2 k1
      go_wp2
      go_ret
      refine ⟨rfl, A', n - 1, c', ⟨hp6, hrd6, ?_, fun a ha => ⟨(hgA' a ha).1, Nat.lt_of_lt_of_le (hgA' a ha).2.1 hsz56⟩⟩, haw6, fun a ha => (hgA' a ha).2.2⟩
      rcases hown with h1 | h1
      · exact .inl (own_set h1 (by omega) _)
      · exact .inr h1

end Go.Proofs.Ytkelepnipndbbaa
