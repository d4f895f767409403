/-
  Used of layer 17 walked: the document's (printed by gen_sats6.py).
-/
import Derived.Test.YtkelepnipndbbaaSats5
set_option linter.unusedSimpArgs false
set_option linter.unusedVariables false
namespace Go.Proofs.Ytkelepnipndbbaa
open Go.RowKit NumLaw
attribute [local go_sem] Addr.add_mid

set_option maxRecDepth 10000 in
set_option maxHeartbeats 8000000 in
theorem qsatsUsed_any (t : Int) (A : Option Addr) (n c : Nat) (l : List (List Int)) (w : World) (hr : RdR w w.heap.size 7 A n c (l.map saC)) (hlen : ∀ s ∈ l, s.length = 7) :
    Calls Try.prog 64 #[.agg #[.int .i64 t, .slice A n c]] w fun e w' => e = .returned (.tuple #[.int .i64 ((usedV l).1 : Int), .int .i64 (usedV l).2]) ∧ Below w.heap.size w w' := by
  have hll : l.length = n := by have := hr.1; simpa using this
  have hle := hr.2.2.1
  have hmx := hr.2.2.2.1
  unfold maxLen at hmx
  have Hll := Lib.hid hll
  have Hlen := Lib.hid hlen
  clear hlen hll
  have a0 := heap_alloc_new w (.cells #[.int .i64 t, .slice A n c] 89)
  have hb : Below w.heap.size w (w.alloc (.cells #[.int .i64 t, .slice A n c] 89)) := (Below.refl _ _).alloc (Nat.le_refl _) _
  have hr1 := hr.up hb
  have hg0 : w.heap.size < (w.alloc (.cells #[.int .i64 t, .slice A n c] 89)).heap.size := blk_lt a0
  obtain ⟨oU, hoU⟩ : ∃ u, u = usedV l := ⟨_, rfl⟩
  rw [← hoU]
  have HoU := Lib.hid hoU
  clear hoU
  go_enter Try.func64, Try.ntmps64
  go_wp2_with fail
  generalize (w.alloc (.cells #[.int .i64 t, .slice A n c] 89)) = w1 at *
  go_loopw [4, 5, 6] (fun s b i wr => ∃ (k m : Nat) (v : Int), k ≤ n ∧ i = .int .i64 k ∧ s = .int .i64 m ∧ b = .int .i64 v ∧ m ≤ k ∧ Below w1.heap.size w1 wr ∧ Hid (usedV (l.take k) = (m, v))) (fun _ _ i _ => n - (intOf i).toNat)
  case atStart => exact ⟨0, 0, 0, by omega, rfl, rfl, rfl, by omega, Below.refl _ _, Lib.hid rfl⟩
  case round =>
    obtain ⟨k, m, v, hk, rfl, rfl, rfl, hmk, hbw, hst⟩ := hrel
    have hblk := blk_old a0 hbw hg0
    have c1 : wr.cell? ⟨w.heap.size, 1, none⟩ = some (.slice A n c) := blk_cell hblk rfl
    by_cases hlt : k < n
    · obtain ⟨g1, off, rr, hA, hg1, hx, hrl, hrow⟩ := hr1.at_ hlt
      obtain ⟨s, hs, rfl⟩ : ∃ s, l[k]? = some s ∧ saC s = rr := by simpa using hx
      have hs7 := Hlen.out s (List.mem_of_getElem? hs)
      have hstep := usedV_succ hs
      rw [hst.out] at hstep
      obtain ⟨x0, x1, x2, x3, x4, x5, x6, rfl⟩ := len7 s hs7
      have hrow2 : wr.rangeAt g1 (off + k * 7) (saC [x0, x1, x2, x3, x4, x5, x6]) := fun j v hv => (hbw.cell (p := ⟨g1, off + k * 7 + j, none⟩) (by show g1 < _; omega)).trans (hrow j v hv)
      have hbx : Below w1.heap.size w1 (wr.alloc (.cells #[.int .i64 x0, .int .i64 x1, .int .i64 x2, .int .i64 x3, .int .i64 x4, .int .i64 x5, .int .i64 x6] 143)) := hbw.alloc hbw.size _
      have hsbox := heap_alloc_new wr (.cells #[.int .i64 x0, .int .i64 x1, .int .i64 x2, .int .i64 x3, .int .i64 x4, .int .i64 x5, .int .i64 x6] 143)
      have Hstep := Lib.hid hstep
      have Hbx := Lib.hid hbx
      have q0 : wr.cell? ⟨g1, off + k * 7, none⟩ = some (.int .i64 x0) := hrow2 0 _ rfl
      have q1 : wr.cell? ⟨g1, off + k * 7 + 1, none⟩ = some (.int .i64 x1) := hrow2 1 _ rfl
      have q2 : wr.cell? ⟨g1, off + k * 7 + 2, none⟩ = some (.int .i64 x2) := hrow2 2 _ rfl
      have q3 : wr.cell? ⟨g1, off + k * 7 + 3, none⟩ = some (.int .i64 x3) := hrow2 3 _ rfl
      have q4 : wr.cell? ⟨g1, off + k * 7 + 4, none⟩ = some (.int .i64 x4) := hrow2 4 _ rfl
      have q5 : wr.cell? ⟨g1, off + k * 7 + 5, none⟩ = some (.int .i64 x5) := hrow2 5 _ rfl
      have q6 : wr.cell? ⟨g1, off + k * 7 + 6, none⟩ = some (.int .i64 x6) := hrow2 6 _ rfl
      clear hs hx hrow hrow2 hrl hs7 hstep hst hbw hbx
      subst hA
      go_wp2_with (with_reducible refine stop_loadT 2 ?_)
      refine go_ ?_
      clear q0 q1 q2 q3 q4 q5 q6 c1
      generalize (wr.alloc (.cells #[.int .i64 x0, .int .i64 x1, .int .i64 x2, .int .i64 x3, .int .i64 x4, .int .i64 x5, .int .i64 x6] 143)) = v1 at *
      generalize wr.heap.size = gv at *
      have z2 := blk_cell (i := 2) (v := .int .i64 x2) hsbox rfl
      have z6 := blk_cell (i := 6) (v := .int .i64 x6) hsbox rfl
      have e8 := i64_and1 (x6 / 8)
      cases hf : flg x6 with
      | false =>
        have hd : x6 / 8 % 2 = 0 := by unfold flg at hf; have := of_decide_eq_false hf; omega
        rw [hd] at e8
        have hU : Hid (usedV (l.take (k + 1)) = (m, v)) := Lib.hid (by rw [Hstep.out]; unfold usd; rw [if_neg (by show ¬ flg x6 = true; rw [hf]; simp)])
        clear hf hd
        go_wp2
        go_roundw
        case rel => exact ⟨k + 1, m, v, by omega, by go_num, rfl, rfl, by omega, Hbx.out, hU⟩
        case measure => simp [intOf]; omega
      | true =>
        have hd : x6 / 8 % 2 = 1 := by unfold flg at hf; exact of_decide_eq_true hf
        rw [hd] at e8
        have hU : Hid (usedV (l.take (k + 1)) = (m + 1, if m = 0 ∨ v < x2 then x2 else v)) := Lib.hid (by rw [Hstep.out]; unfold usd; rw [if_pos (by show flg x6 = true; exact hf)]; rfl)
        clear hf hd
        by_cases hm : m = 0
        · subst hm
          rw [if_pos (.inl rfl)] at hU
          rw [show ((0 : Nat) : Int) = 0 from rfl]
          go_wp2
          go_roundw
          case rel => exact ⟨k + 1, 0 + 1, x2, by omega, by go_num, by go_num, rfl, by omega, Hbx.out, hU⟩
          case measure => simp [intOf]; omega
        · by_cases hlv : v < x2
          · rw [if_pos (.inr hlv)] at hU
            have hm' : ¬ ((m : Int) = 0) := by omega
            clear hm
            go_wp2
            go_roundw
            case rel => exact ⟨k + 1, m + 1, x2, by omega, by go_num, by go_num, rfl, by omega, Hbx.out, hU⟩
            case measure => simp [intOf]; omega
          · rw [if_neg (fun h => h.elim hm hlv)] at hU
            have hm' : ¬ ((m : Int) = 0) := by omega
            clear hm
            go_wp2
            go_roundw
            case rel => exact ⟨k + 1, m + 1, v, by omega, by go_num, by go_num, rfl, by omega, Hbx.out, hU⟩
            case measure => simp [intOf]; omega
    · obtain rfl : k = n := by omega
      have ht : l.take k = l := List.take_of_length_le (by rw [Hll.out]; exact Nat.le_refl _)
      have hfin := hst.out
      rw [ht, ← HoU.out] at hfin
      subst hfin
      clear ht
      have hbf := hb.trans (hbw.mono hb.size)
      go_wp2
      go_ret2
      exact ⟨rfl, hbf⟩

end Go.Proofs.Ytkelepnipndbbaa
