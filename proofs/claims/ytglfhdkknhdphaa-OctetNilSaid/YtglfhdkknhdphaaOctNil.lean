/-
  octet's calls of what there is not, or no call made; the law OctetNil walked.
-/
import Derived.Test.YtglfhdkknhdphaaOctKnows
import Derived.Test.YtglfhdkknhdphaaOctRef
set_option linter.unusedSimpArgs false
set_option linter.unusedVariables false
namespace Go.Proofs.Ytglfhdkknhdphaa
open Go.RowKit NumLaw

/-- Nothing, or a row that no call made, of type e. -/
def Dead (w : World) (e : Nat) (p : Value) : Prop := p = .pointer none ∨ ∃ g, p = .pointer (some ⟨g, 0, none⟩) ∧ RowAt w g e (.slice none 0 0) false false
theorem Dead.up {w w' : World} {e : Nat} {p : Value} (h : Dead w e p) (hb : Below w.heap.size w w') : Dead w' e p := by
  rcases h with rfl | ⟨g, rfl, h⟩
  · exact .inl rfl
  · exact .inr ⟨g, rfl, blk_old h hb h.lt⟩
abbrev DW (w : World) (p : Value) : Prop := Dead w 58 p
abbrev DR (w : World) (p : Value) : Prop := Dead w 57 p
theorem wFail_dead {w : World} {p : Value} (h : DW w p) : Calls Try.prog 37 #[p] w fun x w' => x = .returned (.bool true) ∧ w = w' := by
  rcases h with rfl | ⟨g, rfl, h⟩
  · exact wFail_nil w
  · exact wFail_any g _ _ _ _ w h
theorem wput_dead {w : World} {p : Value} (h : DW w p) (n : Int) (u : Nat) (fits : Bool) : Calls Try.prog 78 #[p, .int .i64 n, .int .u64 u, .bool fits] w fun x w' => x = .returned (.tuple #[]) ∧ Below w.heap.size w w' := by
  rcases h with rfl | ⟨g, rfl, h⟩
  · exact wput_nil n u fits w
  · exact wput_bad g _ _ _ _ n u fits w h rfl
set_option maxHeartbeats 400000 in
theorem wU_dead {w : World} {p : Value} (h : DW w p) (n : Int) (u : Nat) : Calls Try.prog 30 #[p, .int .i64 n, .int .u64 u] w fun x w' => x = .returned (.tuple #[]) ∧ Below w.heap.size w w' := by
  have hput := wput_dead h n u
  clear h
  rcases (by omega : n < 1 ∨ 8 < n ∨ n = 8 ∨ (1 ≤ n ∧ n ≤ 7)) with h1 | h1 | rfl | ⟨h1, h2⟩
  all_goals
    go_enter Try.func30, Try.ntmps30
    go_wp2_with fail
    go_fit (hput _)
    rintro x w' ⟨rfl, hb⟩
    go_wp2
    ((try simp only [Exit.inBlock, Exit.then]); refine bodyPost_end (results_none rfl _ _ _) rfl ?_)
    exact ⟨rfl, hb⟩
set_option maxHeartbeats 400000 in
theorem wI_dead {w : World} {p : Value} (h : DW w p) (n i : Int) : Calls Try.prog 32 #[p, .int .i64 n, .int .i64 i] w fun x w' => x = .returned (.tuple #[]) ∧ Below w.heap.size w w' := by
  have hput := wput_dead h n (un i)
  rw [← un_wrap i] at hput
  clear h
  rcases (by omega : n < 1 ∨ 8 < n ∨ (1 ≤ n ∧ n ≤ 8)) with h1 | h1 | ⟨h1, h2⟩
  · go_enter Try.func32, Try.ntmps32
    go_wp2_with fail
    go_fit (hput _)
    rintro x w' ⟨rfl, hb⟩
    go_wp2
    ((try simp only [Exit.inBlock, Exit.then]); refine bodyPost_end (results_none rfl _ _ _) rfl ?_)
    exact ⟨rfl, hb⟩
  · go_enter Try.func32, Try.ntmps32
    go_wp2_with fail
    go_fit (hput _)
    rintro x w' ⟨rfl, hb⟩
    go_wp2
    ((try simp only [Exit.inBlock, Exit.then]); refine bodyPost_end (results_none rfl _ _ _) rfl ?_)
    exact ⟨rfl, hb⟩
  · by_cases hq2 : i / 2 ^ ((8 * n).toNat - 1) = 0
    all_goals
      go_enter Try.func32, Try.ntmps32
      go_wp2_with fail
      go_fit (hput _)
      rintro x w' ⟨rfl, hb⟩
      go_wp2
      ((try simp only [Exit.inBlock, Exit.then]); refine bodyPost_end (results_none rfl _ _ _) rfl ?_)
      exact ⟨rfl, hb⟩
theorem wRaw_dead {w : World} {p : Value} (h : DW w p) (v : Value) : Calls Try.prog 34 #[p, v] w fun x w' => x = .returned (.tuple #[]) ∧ Below w.heap.size w w' := by
  have hf := wFail_dead h
  clear h
  go_enter Try.func34, Try.ntmps34
  go_wp2_with fail
  go_fit hf
  rintro x w1 ⟨rfl, rfl⟩
  go_wp2
  ((try simp only [Exit.inBlock, Exit.then]); refine bodyPost_end (results_none rfl _ _ _) rfl ?_)
  exact ⟨rfl, Below.refl _ _⟩
theorem wBytes_dead {w : World} {p : Value} (h : DW w p) : Calls Try.prog 36 #[p] w fun x w' => x = .returned (.slice none 0 0) ∧ w = w' := by
  have hf := wFail_dead h
  clear h
  go_enter Try.func36, Try.ntmps36
  go_wp2_with fail
  go_fit hf
  rintro x w1 ⟨rfl, rfl⟩
  go_wp2
  go_ret
  exact ⟨rfl, rfl⟩
theorem rnext_dead {w : World} {p : Value} (h : DR w p) (n : Int) : Calls Try.prog 74 #[p, .int .i64 n] w fun x w' => x = .returned (.slice none 0 0) ∧ w = w' := by
  rcases h with rfl | ⟨g, rfl, h⟩
  · exact next_nil n w
  · exact next_bad g _ _ _ _ n w h rfl
theorem rFail_dead {w : World} {p : Value} (h : DR w p) : Calls Try.prog 28 #[p] w fun x w' => x = .returned (.bool true) ∧ w = w' := by
  rcases h with rfl | ⟨g, rfl, h⟩
  · go_enter Try.func28, Try.ntmps28
    go_wp2
    go_ret
    exact ⟨rfl, rfl⟩
  · go_enter Try.func28, Try.ntmps28
    go_wp2_with fail
    go_fit (fine_any _ _ _ _ _ w h)
    rintro x w1 ⟨rfl, rfl⟩
    go_wp2
    go_ret
    exact ⟨rfl, rfl⟩
theorem rLeft_dead {w : World} {p : Value} (h : DR w p) : Calls Try.prog 27 #[p] w fun x w' => x = .returned (.int .i64 0) ∧ w = w' := by
  rcases h with rfl | ⟨g, rfl, h⟩
  · go_enter Try.func27, Try.ntmps27
    go_wp2
    go_ret
    exact ⟨rfl, rfl⟩
  · have h0 := h.c0
    go_enter Try.func27, Try.ntmps27
    go_wp2
    go_ret
    exact ⟨rfl, rfl⟩
set_option maxHeartbeats 400000 in
theorem rU_dead {w : World} {p : Value} (h : DR w p) (n : Int) : Calls Try.prog 21 #[p, .int .i64 n] w fun x w' => x = .returned (.int .u64 0) ∧ w = w' := by
  have hn := rnext_dead h
  clear h
  rcases (by omega : n < 1 ∨ (¬ n < 1 ∧ 8 < n) ∨ (¬ n < 1 ∧ ¬ 8 < n)) with h1 | ⟨h1, h2⟩ | ⟨h1, h2⟩
  all_goals
    go_enter Try.func21, Try.ntmps21
    go_wp2_with fail
    go_fit (hn _)
    rintro x w1 ⟨rfl, rfl⟩
    go_wp2
    go_loop [5, 18] (fun u i => i = .int .i64 0 ∧ u = .int .u64 0) (fun _ i => 0)
    case atStart => exact ⟨rfl, rfl⟩
    case round =>
      obtain ⟨rfl, rfl⟩ := hrel
      go_wp2
      go_ret
      exact ⟨rfl, rfl⟩
set_option maxHeartbeats 400000 in
theorem rI_dead {w : World} {p : Value} (h : DR w p) (n : Int) : Calls Try.prog 23 #[p, .int .i64 n] w fun x w' => x = .returned (.int .i64 0) ∧ w = w' := by
  have hn := rU_dead h n
  clear h
  rcases (by omega : n < 1 ∨ (¬ n < 1 ∧ 8 < n) ∨ (¬ n < 1 ∧ ¬ 8 < n)) with h1 | ⟨h1, h2⟩ | ⟨h1, h2⟩
  all_goals
    go_enter Try.func23, Try.ntmps23
    go_wp2_with fail
    go_fit hn
    rintro x w1 ⟨rfl, rfl⟩
    go_wp2
    go_ret
    first
      | exact ⟨rfl, rfl⟩
      | (refine ⟨?_, rfl⟩; obtain ⟨k, rfl⟩ : ∃ k : Nat, n = k := ⟨n.toNat, by omega⟩; have := sgn_shift k 0 (by omega) (by omega) (Nat.pow_pos (by omega)); rw [sgn_zero] at this; simpa using ret_int this)
theorem rRaw_dead {w : World} {p : Value} (h : DR w p) (n : Int) : Calls Try.prog 25 #[p, .int .i64 n] w fun x w' => ∃ A c, x = .returned (.slice A 0 c) ∧ Below w.heap.size w w' := by
  have hn := rnext_dead h n
  clear h
  go_enter Try.func25, Try.ntmps25
  go_wp2_with fail
  go_fit hn
  rintro x w1 ⟨rfl, rfl⟩
  go_wp2_with fail
  go_fit (clone_any none 0 0 0 [] w (Rd.none_ _ _ _) (by omega) (by omega))
  rintro x w2 ⟨A2, c2, n2, rfl, hown, hb⟩
  have := own_len hown
  obtain rfl : n2 = 0 := by simpa using this.symm
  go_wp2
  go_ret
  exact ⟨A2, c2, rfl, hb⟩

set_option maxRecDepth 10000 in
set_option maxHeartbeats 4000000 in
theorem nil_any (n : Int) (u : Nat) (A : Option Addr) (nb cb : Nat) (l : List UInt8) (w : World) (hn : -9223372036854775808 ≤ n ∧ n ≤ 9223372036854775807) (hu : u < 18446744073709551616) (hr : Rd w w.heap.size 1 A nb cb (bv l)) :
    Calls Try.prog 6 #[.int .i64 n, .int .u64 u, .slice A nb cb] w fun e w' => e = .returned (.bool true) ∧ Below w.heap.size w w' := by
  go_enter Try.func6, Try.ntmps6
  by_cases hnb : nb ≤ 1000
  · go_wp2_with fail
    go_loopw [7, 8, 9] (fun r p i wr => ∃ k : Nat, k ≤ 2 ∧ i = .int .i64 k ∧ DR wr r ∧ DW wr p ∧ Below w.heap.size w wr) (fun _ _ i _ => 2 - (intOf i).toNat)
    case atStart => exact ⟨0, by omega, rfl, .inl rfl, .inl rfl, Below.refl _ _⟩
    case round =>
      rename_i r p i
      obtain ⟨k, hk, rfl, hr, hp, hb⟩ := hrel
      by_cases hlt : k < 2
      · go_wp2_with fail
        go_fit (wU_dead hp n u)
        rintro e w2 ⟨rfl, hb2⟩
        replace hr := hr.up hb2
        replace hp := hp.up hb2
        replace hb := bnx hb hb2
        clear hb2
        go_wp2_with fail
        go_fit (wI_dead hp n _)
        rintro e w3 ⟨rfl, hb2⟩
        replace hr := hr.up hb2
        replace hp := hp.up hb2
        replace hb := bnx hb hb2
        clear hb2
        go_wp2_with fail
        go_fit (wRaw_dead hp _)
        rintro e w4 ⟨rfl, hb2⟩
        replace hr := hr.up hb2
        replace hp := hp.up hb2
        replace hb := bnx hb hb2
        clear hb2
        go_wp2_with fail
        go_fit (rU_dead hr n)
        rintro e w5 ⟨rfl, rfl⟩
        go_wp2_with fail
        go_fit (rI_dead hr n)
        rintro e w5 ⟨rfl, rfl⟩
        go_wp2_with fail
        go_fit (rRaw_dead hr n)
        rintro e w5 ⟨A5, c5, rfl, hb2⟩
        replace hr := hr.up hb2
        replace hp := hp.up hb2
        replace hb := bnx hb hb2
        clear hb2
        go_wp2_with fail
        go_fit (rLeft_dead hr)
        rintro e w6 ⟨rfl, rfl⟩
        go_wp2_with fail
        go_fit (rFail_dead hr)
        rintro e w6 ⟨rfl, rfl⟩
        go_wp2_with fail
        go_fit (wBytes_dead hp)
        rintro e w6 ⟨rfl, rfl⟩
        go_wp2_with fail
        go_fit (wFail_dead hp)
        rintro e w6 ⟨rfl, rfl⟩
        go_wp2
        have hba := hb.alloc hb.size (.cells #[.slice none 0 0, .bool false, .bool false] 57)
        go_roundw
        case rel =>
          refine ⟨k + 1, by omega, by go_num, .inr ⟨_, rfl, (heap_alloc_old _ _ (by simp)).trans (heap_alloc_new _ _)⟩, .inr ⟨_, rfl, by have := heap_alloc_new (w5.alloc (.cells #[.slice none 0 0, .bool false, .bool false] 57)) (.cells #[.slice none 0 0, .bool false, .bool false] 58); rw [World.size_alloc] at this; exact this⟩, hba.alloc hba.size _⟩
        case measure => simp [intOf]; omega
      · go_wp2_with fail
        go_fit (knows04 _)
        rintro e w2 ⟨rfl, hb2⟩
        go_wp2
        go_ret
        exact ⟨rfl, bnx hb hb2⟩
  · go_wp2_with fail
    go_fit (knows04 w)
    rintro e w1 ⟨rfl, hb1⟩
    go_wp2
    go_ret
    exact ⟨rfl, hb1⟩

end Go.Proofs.Ytglfhdkknhdphaa
