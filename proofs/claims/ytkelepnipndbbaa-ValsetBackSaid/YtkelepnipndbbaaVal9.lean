/-
  ValsetBack walked (printed by gen_val8.py).
-/
import Derived.Test.YtkelepnipndbbaaVal8
set_option linter.unusedSimpArgs false
set_option linter.unusedVariables false
namespace Go.Proofs.Ytkelepnipndbbaa
open Go.RowKit NumLaw

theorem flatB_le : ∀ (l : List (Int × Int)), (l.flatMap prB).length ≤ 12 * l.length
  | [] => by simp
  | p :: l => by
    have := flatB_le l
    have h := prB_le p
    rw [List.flatMap_cons, List.length_append, List.length_cons]
    omega
theorem valP_len {t : Int} {l : List (Int × Int)} : (valP t l).length ≤ 4 + 12 * l.length := by
  unfold valP
  split
  · rename_i h
    obtain ⟨_, h2, _⟩ := valE_zero h
    unfold valB
    rw [List.length_append, vhP_len h2]
    have := flatB_le l
    omega
  · simp
theorem valT_rng (b : List UInt8) : -9223372036854775808 ≤ valTt b ∧ valTt b ≤ 9223372036854775807 := by
  by_cases h : valTE b = 0
  · have et : valTt b = (shT vhF (b.take 4)).getD 1 0 := by unfold valTt; rw [if_pos h]
    unfold valTE at h
    split at h
    · cases h
    · split at h
      · rename_i hh
        obtain ⟨t, hv, h0, h7⟩ := vheadT hh
        rw [et, hv]
        show -9223372036854775808 ≤ t ∧ t ≤ 9223372036854775807
        omega
      · exact absurd h (by assumption)
  · rw [(valT_none h).1]; omega
set_option maxRecDepth 10000 in
set_option maxHeartbeats 8000000 in
theorem valback_any (t : Int) (A : Option Addr) (n c : Nat) (l : List (Int × Int)) (A' : Option Addr) (n' c' : Nat) (b : List UInt8) (w : World) (hr : RdR w w.heap.size 2 A n c (l.map prC)) (ht : -9223372036854775808 ≤ t ∧ t ≤ 9223372036854775807) (h : Rd w w.heap.size 1 A' n' c' (bv b)) :
    Calls Try.prog 19 #[.agg #[.int .i64 t, .slice A n c], .slice A' n' c'] w fun e w' => e = .returned (.bool true) ∧ Below w.heap.size w w' := by
  have hmx := hr.2.2.2.1
  have hle := hr.2.2.1
  unfold maxLen at hmx
  have hmx' := h.max
  have hle' := h.le
  unfold maxLen at hmx'
  have hln : l.length = n := by have := hr.1; rwa [List.length_map] at this
  have Hln := Lib.hid hln
  clear hln
  have h1 : Below w.heap.size w (w.alloc (.cells #[.int .i64 t, .slice A n c] 101)) := (Below.refl _ _).alloc (Nat.le_refl _) _
  have hbox := heap_alloc_new w (.cells #[.int .i64 t, .slice A n c] 101)
  have c1 := blk_cell (i := 1) (v := .slice A n c) hbox rfl
  have hlb := blk_lt hbox
  go_enter Try.func19, Try.ntmps19
  by_cases hn : 40 < n
  · go_wp2_with fail
    go_fit (knows20 _)
    rintro e w1 ⟨rfl, hb1⟩
    go_wp2
    go_ret
    exact ⟨rfl, bnx h1 hb1⟩
  by_cases hn' : 600 < n'
  · go_wp2_with fail
    go_fit (knows20 _)
    rintro e w1 ⟨rfl, hb1⟩
    go_wp2
    go_ret
    exact ⟨rfl, bnx h1 hb1⟩
  go_wp2_with fail
  go_fit (knows20 _)
  rintro e w1 ⟨rfl, hb1⟩
  replace hbox := blk_old hbox hb1 hlb
  have hb2 := bnx h1 hb1
  clear h1 hb1 hlb c1
  have P1 := Lib.hid (valPut_any t A n c l w1 (hr.nx hb2) ht)
  unfold RetPS at P1
  have c0 : w1.cell? ⟨w.heap.size, 0, none⟩ = some (.int .i64 t) := blk_cell hbox rfl
  have c1 : w1.cell? ⟨w.heap.size, 1, none⟩ = some (.slice A n c) := blk_cell hbox rfl
  go_wp2_with fail
  go_fit P1.out
  rintro e w2 ⟨A2, n2, c2, rfl, hown2, hb12⟩
  have hr2 := Rd.own hown2
  replace hbox := blk_old hbox hb12 (blk_lt hbox)
  have hb3 := bnx hb2 hb12
  clear hown2 hb2 hb12 P1 c0 c1
  have hl2 := hr2.blen
  have hTb := valT_rng b
  have hp := fun w' hr hB => valTake_any A' n' c' w.heap.size b w' hr hB (by omega)
  unfold RetTVal at hp
  have Hp := Lib.hid hp
  have HTb := Lib.hid hTb
  clear hp hTb
  by_cases hE : valE t l = 0
  · obtain ⟨q1, q2, q3⟩ := val_there hE
    have q4 := valP_len (t := t) (l := l)
    have hn2 : n2 ≤ 4 + 12 * n := by rw [← Hln.out, ← hl2]; exact q4
    have P1 := Lib.hid (valTake_any A2 n2 c2 w2.heap.size (valP t l) w2 hr2 (Nat.le_refl _) (by omega))
    unfold RetTVal at P1
    rw [q1, q2, q3] at P1
    rw [hE]
    clear q1 q2 q3 q4 hl2
    generalize valP t l = oP at *
    go_wp2_with fail
    go_fit (num20_any _ _)
    rintro e w9 ⟨rfl, rfl⟩
    go_wp2_with fail
    go_fit P1.out
    rintro e w3 ⟨A3, n3, c3, rfl, hr3, hb23⟩
    have hb4 := bnx hb3 hb23
    replace hbox := blk_old hbox hb23 (blk_lt hbox)
    replace hr2 := hr2.nx hb23
    have hbx := heap_alloc_new w3 (.cells #[.int .i64 t, .slice A3 n3 c3] 101)
    have hbb : Below w3.heap.size w3 (w3.alloc (.cells #[.int .i64 t, .slice A3 n3 c3] 101)) := (Below.refl _ _).alloc (Nat.le_refl _) _
    have hb5 := bnx hb4 hbb
    replace hr2 := hr2.nx hbb
    replace hr3 := hr3.nx hbb
    replace hbox := blk_old hbox hbb (blk_lt hbox)
    clear hb3 hb23 hb4 hbb P1
    go_wp2_with fail
    generalize (w3.alloc (.cells #[.int .i64 t, .slice A3 n3 c3] 101)) = w4 at *
    generalize w3.heap.size = gp at *
    obtain rfl : n3 = n := by
      have i2 := hr.1
      have i4 := hr3.1
      omega
    have p0 := blk_cell (i := 0) (v := .int .i64 t) hbx rfl
    have p1 := blk_cell (i := 1) (v := .slice A3 n3 c3) hbx rfl
    have c0 : w4.cell? ⟨w.heap.size, 0, none⟩ = some (.int .i64 t) := blk_cell hbox rfl
    have c1 : w4.cell? ⟨w.heap.size, 1, none⟩ = some (.slice A n3 c) := blk_cell hbox rfl
    go_fit (num20_any _ _)
    rintro e w9 ⟨rfl, rfl⟩
    go_wp2_with fail
    go_fit (same20_any t A A3 n3 c c3 l w4 (hr.nx hb5) hr3)
    rintro e w5 ⟨rfl, hbf⟩
    have hb6 := bnx hb5 hbf
    replace hr2 := hr2.nx hbf
    replace hbox := blk_old hbox hbf (blk_lt hbox)
    clear hb5 hbf p0 p1 c0 c1 hbx hr3
    go_wp2_with fail
    clear hbox
    go_fit (Hp.out w5 (h.up hb6) hb6.size)
    rintro e wa ⟨Aa, na, ca, rfl, hra, hba⟩
    have hbb1 := bnx hb6 hba
    replace hr2 := hr2.nx hba
    have hbx := heap_alloc_new wa (.cells #[.int .i64 (valTt b), .slice Aa na ca] 101)
    have hbb : Below wa.heap.size wa (wa.alloc (.cells #[.int .i64 (valTt b), .slice Aa na ca] 101)) := (Below.refl _ _).alloc (Nat.le_refl _) _
    have hbb2 := bnx hbb1 hbb
    replace hr2 := hr2.nx hbb
    replace hra := hra.nx hbb
    clear hbb1 hba hbb hb6
    by_cases hF : valTE b = 0
    · obtain ⟨s1, s2⟩ := val_back hF
      have R0 := HTb.out
      rw [hF]
      go_wp2_with fail
      generalize (wa.alloc (.cells #[.int .i64 (valTt b), .slice Aa na ca] 101)) = wb at *
      generalize wa.heap.size = gp at *
      have P1 := Lib.hid (valPut_any (valTt b) Aa na ca (valTl b) wb hra R0)
      unfold RetPS at P1
      rw [s1, s2] at P1
      clear R0 s1 s2 hra Hp HTb hF
      have p0 := blk_cell (i := 0) (v := .int .i64 (valTt b)) hbx rfl
      have p1 := blk_cell (i := 1) (v := .slice Aa na ca) hbx rfl
      generalize valTt b = oT at *
      go_fit (num20_any _ _)
      rintro e w9 ⟨rfl, rfl⟩
      go_wp2_with fail
      go_fit P1.out
      rintro e wc ⟨Ac, nc, cc, rfl, hownc, hbc⟩
      have hbb3 := bnx hbb2 hbc
      have hrc := Rd.own hownc
      have hB := h.up hbb3
      have v1 := run_str wc 46 9 5 Try.underlying46 Try.underlying5 Try.underlying9 hrc
      have v2 := run_str wc 46 9 5 Try.underlying46 Try.underlying5 Try.underlying9 hB
      clear p0 p1 hbx hbb2 hbc hownc hrc hB P1 hr2
      go_wp2_with fail
      go_fit (num20_any _ _)
      rintro e w9 ⟨rfl, rfl⟩
      go_wp2
      go_ret
      exact ⟨rfl, hbb3⟩
    · obtain ⟨s1, s2⟩ := valT_none hF
      rw [s2] at hra
      rw [s1] at hbx
      rw [s1]
      have hF' : ¬ (valTE b : Int) = 0 := by omega
      go_wp2_with fail
      rw [s1] at hra hbb2 hr2
      generalize (wa.alloc (.cells #[.int .i64 0, .slice Aa na ca] 101)) = wb at *
      generalize wa.heap.size = gp at *
      obtain rfl : na = 0 := by have := hra.1; simpa using this.symm
      have p0 := blk_cell (i := 0) (v := .int .i64 0) hbx rfl
      have p1 := blk_cell (i := 1) (v := .slice Aa 0 ca) hbx rfl
      clear Hp HTb s1 s2
      generalize valTE b = oF at *
      go_fit (num20_any _ _)
      rintro e w9 ⟨rfl, rfl⟩
      go_wp2_with fail
      go_fit (same20_any 0 Aa none 0 ca 0 [] wb hra (RdR.none_ _ _ _))
      rintro e wc ⟨rfl, hbc⟩
      have hbb3 := bnx hbb2 hbc
      clear p0 p1 hbx hbb2 hbc hra hr2
      go_wp2_with fail
      go_fit (num20_any _ _)
      rintro e w9 ⟨rfl, rfl⟩
      go_wp2
      go_ret
      exact ⟨rfl, hbb3⟩
  · have hn2 : n2 = 0 := by rw [← hl2, valP_none hE]; rfl
    have hE' : ¬ (valE t l : Int) = 0 := by omega
    subst hn2
    clear hl2 hbox
    go_wp2_with fail
    go_fit (num20_any _ _)
    rintro e w9 ⟨rfl, rfl⟩
    go_wp2_with fail
    go_fit (Hp.out w2 (h.up hb3) hb3.size)
    rintro e wa ⟨Aa, na, ca, rfl, hra, hba⟩
    have hbb1 := bnx hb3 hba
    replace hr2 := hr2.nx hba
    have hbx := heap_alloc_new wa (.cells #[.int .i64 (valTt b), .slice Aa na ca] 101)
    have hbb : Below wa.heap.size wa (wa.alloc (.cells #[.int .i64 (valTt b), .slice Aa na ca] 101)) := (Below.refl _ _).alloc (Nat.le_refl _) _
    have hbb2 := bnx hbb1 hbb
    replace hr2 := hr2.nx hbb
    replace hra := hra.nx hbb
    clear hbb1 hba hbb hb3
    by_cases hF : valTE b = 0
    · obtain ⟨s1, s2⟩ := val_back hF
      have R0 := HTb.out
      rw [hF]
      go_wp2_with fail
      generalize (wa.alloc (.cells #[.int .i64 (valTt b), .slice Aa na ca] 101)) = wb at *
      generalize wa.heap.size = gp at *
      have P1 := Lib.hid (valPut_any (valTt b) Aa na ca (valTl b) wb hra R0)
      unfold RetPS at P1
      rw [s1, s2] at P1
      clear R0 s1 s2 hra Hp HTb hF
      have p0 := blk_cell (i := 0) (v := .int .i64 (valTt b)) hbx rfl
      have p1 := blk_cell (i := 1) (v := .slice Aa na ca) hbx rfl
      generalize valTt b = oT at *
      go_fit (num20_any _ _)
      rintro e w9 ⟨rfl, rfl⟩
      go_wp2_with fail
      go_fit P1.out
      rintro e wc ⟨Ac, nc, cc, rfl, hownc, hbc⟩
      have hbb3 := bnx hbb2 hbc
      have hrc := Rd.own hownc
      have hB := h.up hbb3
      have v1 := run_str wc 46 9 5 Try.underlying46 Try.underlying5 Try.underlying9 hrc
      have v2 := run_str wc 46 9 5 Try.underlying46 Try.underlying5 Try.underlying9 hB
      clear p0 p1 hbx hbb2 hbc hownc hrc hB P1 hr2
      go_wp2_with fail
      go_fit (num20_any _ _)
      rintro e w9 ⟨rfl, rfl⟩
      go_wp2
      go_ret
      exact ⟨rfl, hbb3⟩
    · obtain ⟨s1, s2⟩ := valT_none hF
      rw [s2] at hra
      rw [s1] at hbx
      rw [s1]
      have hF' : ¬ (valTE b : Int) = 0 := by omega
      go_wp2_with fail
      rw [s1] at hra hbb2 hr2
      generalize (wa.alloc (.cells #[.int .i64 0, .slice Aa na ca] 101)) = wb at *
      generalize wa.heap.size = gp at *
      obtain rfl : na = 0 := by have := hra.1; simpa using this.symm
      have p0 := blk_cell (i := 0) (v := .int .i64 0) hbx rfl
      have p1 := blk_cell (i := 1) (v := .slice Aa 0 ca) hbx rfl
      clear Hp HTb s1 s2
      generalize valTE b = oF at *
      go_fit (num20_any _ _)
      rintro e w9 ⟨rfl, rfl⟩
      go_wp2_with fail
      go_fit (same20_any 0 Aa none 0 ca 0 [] wb hra (RdR.none_ _ _ _))
      rintro e wc ⟨rfl, hbc⟩
      have hbb3 := bnx hbb2 hbc
      clear p0 p1 hbx hbb2 hbc hra hr2
      have hE' : ¬ (valE t l : Int) = 0 := by omega
      generalize valE t l = oE at *
      go_wp2_with fail
      go_fit (num20_any _ _)
      rintro e w9 ⟨rfl, rfl⟩
      go_wp2
      go_ret
      exact ⟨rfl, hbb3⟩

end Go.Proofs.Ytkelepnipndbbaa
