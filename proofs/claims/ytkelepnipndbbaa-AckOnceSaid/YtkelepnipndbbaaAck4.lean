/-
  The search over a row of acknowledgements (slices.IndexFunc), slices.Clone of one.
-/
import Derived.Test.YtkelepnipndbbaaAck3
import Derived.Test.YtkelepnipndbbaaSlices
set_option linter.unusedSimpArgs false
set_option linter.unusedVariables false
namespace Go.Proofs.Ytkelepnipndbbaa
open Go.RowKit NumLaw
attribute [local go_sem] Addr.add_mid

/-- Where q stands first, from k on; none: -1. -/
def idxI (q : Int × Int) : Nat → List (Int × Int) → Int
  | _, [] => -1
  | k, p :: l => if (p.1 == q.1 && p.2 == q.2) = true then (k : Int) else idxI q (k + 1) l
theorem idxI_range (q : Int × Int) : ∀ (l : List (Int × Int)) (k : Nat), idxI q k l = -1 ∨ ((k : Int) ≤ idxI q k l ∧ idxI q k l < k + l.length)
  | [], k => .inl rfl
  | p :: l, k => by
    unfold idxI
    split
    · right; simp; omega
    · rcases idxI_range q l (k + 1) with h | h
      · exact .inl h
      · right; simp at h ⊢; omega
set_option maxRecDepth 10000 in
set_option maxHeartbeats 1000000 in
theorem indexFunc_any (A : Option Addr) (n c B : Nat) (l : List (Int × Int)) (ga : Nat) (y : Bool) (cl id : Int) (w : World) (h : RdA w B A n c l) (hB : B ≤ w.heap.size) (hg : w.heap[ga]? = some (.cells #[.bool y, .int .i64 cl, .int .i64 id] 30)) :
    Calls Try.prog 88 #[.slice A n c, .func (.func 89) #[] #[.pointer (some ⟨ga, 0, none⟩)]] w fun e w' => e = .returned (.int .i64 (idxI (cl, id) 0 l)) ∧ Below w.heap.size w w' := by
  have hle := h.2.1
  have hmx := h.2.2.1
  unfold maxLen at hmx
  have Hl := Lib.hid h.1
  have hlt := blk_lt hg
  obtain ⟨t, ht⟩ : ∃ t, t = idxI (cl, id) 0 l := ⟨_, rfl⟩
  rw [← ht]
  have Ht := Lib.hid ht
  clear ht
  go_enter Try.func88, Try.ntmps88
  go_wp2_with fail
  go_loopw [8] (fun i wr => ∃ (k : Nat), k ≤ n ∧ i = .int .i64 k ∧ Below w.heap.size w wr ∧ Hid (t = idxI (cl, id) k (l.drop k))) (fun i _ => n - (intOf i).toNat)
  case atStart => exact ⟨0, by omega, rfl, Below.refl _ _, Lib.hid (by rw [Ht.out]; rfl)⟩
  case round =>
    obtain ⟨k, hk, rfl, hb, hid⟩ := hrel
    by_cases hlt2 : k < n
    · obtain ⟨gf, off, p, rfl, hgf, hx, h1, h2, h3⟩ := (h.up (hb.mono hB)).at_ hlt2
      have hdr : l.drop k = p :: l.drop (k + 1) := by
        obtain ⟨hkl, he⟩ := List.getElem?_eq_some_iff.1 hx
        rw [List.drop_eq_getElem_cons hkl, he]
      have hstep := hid.out
      rw [hdr] at hstep
      unfold idxI at hstep
      have Hs := Lib.hid hstep
      obtain ⟨pc, pi⟩ := p
      simp only at h1 h2 h3 Hs
      clear hdr hx hstep hid
      go_wp2_with fail
      go_fit (hear1_any false pc pi ga y cl id wr (blk_old hg hb hlt))
      rintro e w2 ⟨rfl, hb2⟩
      have hb3 := bnx hb hb2
      cases hq : (pc == cl && pi == id) with
      | true =>
        have e1 : t = (k : Int) := by rw [Hs.out, if_pos hq]
        clear hq
        go_wp2
        go_ret
        exact ⟨ret_int e1.symm, hb3⟩
      | false =>
        have e1 : t = idxI (cl, id) (k + 1) (l.drop (k + 1)) := by rw [Hs.out, if_neg (by rw [hq]; simp)]
        have E1 := Lib.hid e1
        clear hq e1
        go_wp2
        go_roundw
        case rel => exact ⟨k + 1, by omega, by go_num, hb3, E1⟩
        case measure => simp [intOf]; omega
    · obtain rfl : k = n := by omega
      have e1 : t = -1 := by rw [hid.out, List.drop_of_length_le (by rw [Hl.out]; omega)]; rfl
      clear hid
      go_wp2
      go_ret
      exact ⟨ret_int e1.symm, hb⟩
/-- A row in new memory. -/
def RetA (w : World) (l : List (Int × Int)) (e : Ending) (w' : World) : Prop :=
  ∃ A n c, e = .returned (.slice A n c) ∧ w'.ownsRow w.heap.size 30 3 (.slice A n c) n (acs l) ∧ Below w.heap.size w w'
set_option maxRecDepth 10000 in
set_option maxHeartbeats 400000 in
theorem cloneA_any (A : Option Addr) (n c B : Nat) (l : List (Int × Int)) (w : World) (h : RdA w B A n c l) (hB : B ≤ w.heap.size) (hn : n ≤ 1000) :
    Calls Try.prog 90 #[.slice A n c] w (RetA w l) := by
  obtain ⟨i0, hi⟩ := info_parts ack_info
  have Hl := Lib.hid h.1
  have hq := Lib.run_eql_slice_nil (P := Try.prog) w 26 30 A n c 0 0 Try.underlying26
  cases A with
  | none =>
    have hn0 : n = 0 := by
      rcases Nat.eq_zero_or_pos n with h0 | h0
      · exact h0
      · obtain ⟨_, _, h, _⟩ := h.2.2.2 h0; cases h
    obtain rfl : l = [] := List.eq_nil_of_length_eq_zero (by rw [Hl.out, hn0])
    simp only [Option.isNone_none] at hq
    clear hn0
    go_enter Try.func90, Try.ntmps90
    go_wp2
    go_ret
    exact ⟨none, 0, 0, rfl, World.ownsRow_nil _ _ _ _, Below.refl _ _⟩
  | some ad =>
    simp only [Option.isNone_some] at hq
    go_enter Try.func90, Try.ntmps90
    go_wp2_with (at_builtin; refine stop_ ?_)
    refine go_ (wpList_app (base := w.heap.size) (n := 0) (xs := []) Try.underlying26 hi rfl (by omega) (own_empty _ _ _ (Nat.le_refl _) 3) rfl (h.up ((Below.refl _ _).alloc hB _)).rd rfl (acs_one _) (Nat.zero_add _) (List.nil_append _) (by unfold maxLen; omega) (by omega) (by simp) ?_)
    intro A' c' w' hown hup
    have hb : Below w.heap.size w w' := hup ((Below.refl _ _).alloc (Nat.le_refl _) _) (by simp) (Nat.le_refl _)
    clear hup hq
    go_wp2
    go_ret
    exact ⟨A', n, c', rfl, hown, hb⟩

end Go.Proofs.Ytkelepnipndbbaa
