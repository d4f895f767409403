/-
  octet's writer: U, I, Raw, Bytes.
-/
import Derived.Test.YtonejdjhdjckjaaGreatOctWrite
set_option linter.unusedSimpArgs false
set_option linter.unusedVariables false
namespace Go.Proofs.YtonejdjhdjckjaaGreat
open Go.RowKit Go.Shelf NumLaw

/-- What is there behind a writing of add, if it fits. -/
def wtB (bad fits : Bool) (l add : List UInt8) : List UInt8 := if (bad || !fits) = true then [] else l ++ add
theorem Aw.of_below' {w w' : World} {U : Nat → Prop} (h : Below w.heap.size w w') : Aw U w w' := ⟨h.os, h.tape, h.output, h.size, fun k hk _ => h.block k hk⟩
theorem RetW.of_below {w w' : World} {g : Nat} {v : Value} {l : List UInt8} {bad : Bool} (h : Wtr w g v l bad) (hb : Below w.heap.size w w') : RetW w g v l bad (.returned (.tuple #[])) w' :=
  ⟨rfl, v, h.keep (Aw.of_below' (U := fun _ => False) hb) (fun _ _ hk => hk), Aw.of_below' hb, fun k hk => .inl hk⟩
theorem wput_any (g : Nat) (v : Value) (l : List UInt8) (bad : Bool) (n : Int) (u : Nat) (fits : Bool) (w : World) (h : Wtr w g v l bad) (hn : fits = true → 0 ≤ n ∧ n ≤ 8) (hu : u < 18446744073709551616) (hl : l.length ≤ 1000000) :
    Calls Tryz.prog 103 #[.pointer (some ⟨g, 0, none⟩), .int .i64 n, .int .u64 u, .bool fits] w (RetW w g v (wtB bad fits l (bytesN n.toNat u)) (bad || !fits)) := by
  cases bad with
  | true =>
    obtain rfl := h.2.2 rfl
    refine (wput_bad g _ v true true n u fits w h.1 rfl).mono ?_
    rintro x w' ⟨rfl, hb⟩
    exact RetW.of_below h hb
  | false =>
    cases fits with
    | false => exact wput_no g v l n u w h
    | true =>
      obtain ⟨k, rfl⟩ : ∃ k : Nat, n = k := ⟨n.toNat, by have := hn rfl; omega⟩
      exact wput_yes g v l k u w h (by have := hn rfl; omega) hu hl

/-- Does u fit in n bytes? -/
def fU (n : Int) (u : Nat) : Bool := decide (1 ≤ n ∧ n ≤ 8 ∧ u < 256 ^ n.toNat)
theorem fU_eq (n : Int) (u : Nat) (h1 : 1 ≤ n) (h2 : n ≤ 7) : fU n u = (n == 8 || (u : Int) / 2 ^ (8 * n).toNat == 0) := by
  unfold fU
  rw [Bool.eq_iff_iff]
  rcases (by omega : n = 1 ∨ n = 2 ∨ n = 3 ∨ n = 4 ∨ n = 5 ∨ n = 6 ∨ n = 7) with rfl | rfl | rfl | rfl | rfl | rfl | rfl
  all_goals
    simp
    omega
set_option maxHeartbeats 400000 in
theorem wU_any (g : Nat) (v : Value) (l : List UInt8) (bad : Bool) (n : Int) (u : Nat) (w : World) (h : Wtr w g v l bad) (hu : u < 18446744073709551616) (hl : l.length ≤ 1000000) :
    Calls Tryz.prog 106 #[.pointer (some ⟨g, 0, none⟩), .int .i64 n, .int .u64 u] w (RetW w g v (wtB bad (fU n u) l (bytesN n.toNat u)) (bad || !fU n u)) := by
  have hput := fun (fits : Bool) hn => wput_any g v l bad n u fits w h hn hu hl
  rcases (by omega : n < 1 ∨ 8 < n ∨ n = 8 ∨ (1 ≤ n ∧ n ≤ 7)) with h1 | h1 | rfl | ⟨h1, h2⟩
  · have hf : fU n u = false := by unfold fU; rw [decide_eq_false]; omega
    rw [hf]
    have hc := hput false (fun h => by cases h)
    clear hf hput
    go_enter Tryz.func106, Tryz.ntmps106
    go_wp2_with fail
    go_fit hc
    rintro x w' hret
    obtain rfl := hret.1
    go_wp2
    ((try simp only [Exit.inBlock, Exit.then]); refine bodyPost_end (results_none rfl _ _ _) rfl ?_)
    exact hret
  · have hf : fU n u = false := by unfold fU; rw [decide_eq_false]; omega
    rw [hf]
    have hc := hput false (fun h => by cases h)
    clear hf hput
    go_enter Tryz.func106, Tryz.ntmps106
    go_wp2_with fail
    go_fit hc
    rintro x w' hret
    obtain rfl := hret.1
    go_wp2
    ((try simp only [Exit.inBlock, Exit.then]); refine bodyPost_end (results_none rfl _ _ _) rfl ?_)
    exact hret
  · have hf : fU 8 u = true := by
      unfold fU
      rw [decide_eq_true]
      exact ⟨by omega, by omega, hu⟩
    rw [hf]
    have hc := hput true (fun h => by omega)
    clear hf hput
    go_enter Tryz.func106, Tryz.ntmps106
    go_wp2_with fail
    go_fit hc
    rintro x w' hret
    obtain rfl := hret.1
    go_wp2
    ((try simp only [Exit.inBlock, Exit.then]); refine bodyPost_end (results_none rfl _ _ _) rfl ?_)
    exact hret
  · obtain ⟨b, hb⟩ : ∃ b, b = fU n u := ⟨_, rfl⟩
    rw [← hb]
    have hc : Calls Tryz.prog 103 #[.pointer (some ⟨g, 0, none⟩), .int .i64 n, .int .u64 u, .bool (n == 8 || (u : Int) / 2 ^ (8 * n).toNat == 0)] w (RetW w g v (wtB bad b l (bytesN n.toNat u)) (bad || !b)) := by
      rw [← fU_eq n u h1 h2, ← hb]
      exact hput b (fun _ => by omega)
    clear hput hb
    go_enter Tryz.func106, Tryz.ntmps106
    go_wp2_with fail
    go_fit hc
    rintro x w' hret
    obtain rfl := hret.1
    go_wp2
    ((try simp only [Exit.inBlock, Exit.then]); refine bodyPost_end (results_none rfl _ _ _) rfl ?_)
    exact hret

/-- Does i fit in n bytes, with a sign? -/
def fI (n : Int) (i : Int) : Bool := decide (1 ≤ n ∧ n ≤ 8 ∧ -(128 * 256 ^ (n.toNat - 1)) ≤ i ∧ i < 128 * 256 ^ (n.toNat - 1))
/-- A number with a sign, as one without. -/
def un (i : Int) : Nat := (i % 18446744073709551616).toNat
theorem un_lt (i : Int) : un i < 18446744073709551616 := by unfold un; omega
theorem un_wrap (i : Int) : IntKind.u64.wrap i = ((un i : Nat) : Int) := by
  unfold un
  simp [IntKind.wrap, IntKind.bits, IntKind.signed]
  omega
theorem fI_eq (n i : Int) (h1 : 1 ≤ n) (h2 : n ≤ 8) : fI n i = (i / 2 ^ (8 * n - 1).toNat == 0 || i / 2 ^ (8 * n - 1).toNat == -1) := by
  unfold fI
  rw [Bool.eq_iff_iff]
  rcases (by omega : n = 1 ∨ n = 2 ∨ n = 3 ∨ n = 4 ∨ n = 5 ∨ n = 6 ∨ n = 7 ∨ n = 8) with rfl | rfl | rfl | rfl | rfl | rfl | rfl | rfl
  all_goals
    simp
    omega
set_option maxHeartbeats 400000 in
theorem wI_any (g : Nat) (v : Value) (l : List UInt8) (bad : Bool) (n i : Int) (w : World) (h : Wtr w g v l bad) (hi : -9223372036854775808 ≤ i ∧ i ≤ 9223372036854775807) (hl : l.length ≤ 1000000) :
    Calls Tryz.prog 90 #[.pointer (some ⟨g, 0, none⟩), .int .i64 n, .int .i64 i] w (RetW w g v (wtB bad (fI n i) l (bytesN n.toNat (un i))) (bad || !fI n i)) := by
  have hput := fun (fits : Bool) hn => wput_any g v l bad n (un i) fits w h hn (un_lt i) hl
  rw [← un_wrap i] at hput
  rcases (by omega : n < 1 ∨ 8 < n ∨ (1 ≤ n ∧ n ≤ 8)) with h1 | h1 | ⟨h1, h2⟩
  · have hf : fI n i = false := by unfold fI; rw [decide_eq_false]; omega
    rw [hf]
    have hc := hput false (fun h => by cases h)
    clear hf hput
    go_enter Tryz.func90, Tryz.ntmps90
    go_wp2_with fail
    go_fit hc
    rintro x w' hret
    obtain rfl := hret.1
    go_wp2
    ((try simp only [Exit.inBlock, Exit.then]); refine bodyPost_end (results_none rfl _ _ _) rfl ?_)
    exact hret
  · have hf : fI n i = false := by unfold fI; rw [decide_eq_false]; omega
    rw [hf]
    have hc := hput false (fun h => by cases h)
    clear hf hput
    go_enter Tryz.func90, Tryz.ntmps90
    go_wp2_with fail
    go_fit hc
    rintro x w' hret
    obtain rfl := hret.1
    go_wp2
    ((try simp only [Exit.inBlock, Exit.then]); refine bodyPost_end (results_none rfl _ _ _) rfl ?_)
    exact hret
  · by_cases hq : i / 2 ^ (8 * n - 1).toNat = 0
    · have hf : fI n i = true := by rw [fI_eq n i h1 h2, hq]; rfl
      rw [hf]
      have hc := hput true (fun _ => by omega)
      clear hf hput
      have hq2 : i / 2 ^ ((8 * n).toNat - 1) = 0 := by rw [← hq]; congr 2; omega
      go_enter Tryz.func90, Tryz.ntmps90
      go_wp2_with fail
      go_fit hc
      rintro x w' hret
      obtain rfl := hret.1
      go_wp2
      ((try simp only [Exit.inBlock, Exit.then]); refine bodyPost_end (results_none rfl _ _ _) rfl ?_)
      exact hret
    · obtain ⟨b, hb⟩ : ∃ b, b = fI n i := ⟨_, rfl⟩
      rw [← hb]
      have hc : Calls Tryz.prog 103 #[.pointer (some ⟨g, 0, none⟩), .int .i64 n, .int .u64 (IntKind.u64.wrap i), .bool (i / 2 ^ ((8 * n).toNat - 1) == 0 || i / 2 ^ ((8 * n).toNat - 1) == -1)] w (RetW w g v (wtB bad b l (bytesN n.toNat (un i))) (bad || !b)) := by
        have e := fI_eq n i h1 h2
        rw [show (8 * n - 1).toNat = (8 * n).toNat - 1 by omega] at e
        rw [← e, ← hb]
        exact hput b (fun _ => by omega)
      clear hput hb
      have hq2 : ¬ i / 2 ^ ((8 * n).toNat - 1) = 0 := fun h => hq (by rw [← h]; congr 2; omega)
      go_enter Tryz.func90, Tryz.ntmps90
      go_wp2_with fail
      go_fit hc
      rintro x w' hret
      obtain rfl := hret.1
      go_wp2
      ((try simp only [Exit.inBlock, Exit.then]); refine bodyPost_end (results_none rfl _ _ _) rfl ?_)
      exact hret

/- Raw -/
/- Bytes -/
theorem wBytes_any (g : Nat) (v : Value) (l : List UInt8) (bad : Bool) (w : World) (h : Wtr w g v l bad) (hl : l.length ≤ 1000000) :
    Calls Tryz.prog 72 #[.pointer (some ⟨g, 0, none⟩)] w (RetB w l) := by
  cases bad with
  | true =>
    obtain rfl := h.2.2 rfl
    go_enter Tryz.func72, Tryz.ntmps72
    go_wp2_with fail
    go_fit (wFail_any g _ v true true _ h.1)
    rintro x w1 ⟨rfl, rfl⟩
    go_wp2
    go_ret
    exact ⟨none, 0, 0, rfl, World.ownsRow_nil _ _ _ _, Below.refl _ _⟩
  | false =>
    obtain ⟨hrow, hown, hz⟩ := h
    obtain ⟨A0, c0, rfl⟩ := own_sl hown
    have hc0 := hrow.c0
    have hc := clone_any A0 l.length c0 w.heap.size l w (Rd.own hown) (Nat.le_refl _) (by omega)
    generalize l.length = k0 at *
    go_enter Tryz.func72, Tryz.ntmps72
    go_wp2_with fail
    go_fit (wFail_any g _ _ true false _ hrow)
    rintro x w1 ⟨rfl, rfl⟩
    go_wp2_with fail
    go_fit hc
    rintro x w2 ⟨A2, c2, n2, rfl, hown2, hb⟩
    go_wp2
    go_ret
    exact ⟨A2, c2, n2, rfl, hown2, hb⟩

end Go.Proofs.YtonejdjhdjckjaaGreat
