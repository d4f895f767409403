/-
  The functions of package slices that the program calls at bytes: Clone, Grow, Concat: what each hands back.
-/
import Derived.Test.YtonejdjhdjckjaaGreatBase
import Derived.Lib.SliceRun
set_option linter.unusedSimpArgs false
set_option linter.unusedVariables false
namespace Go.Proofs.YtonejdjhdjckjaaGreat
open Go.RowKit

theorem u8_info : (Tryz.prog.info? 5).map (fun i => (i.zero, i.size, i.bytes)) = some (some (.int .u8 0), 1, 1) := by kernel_rfl

/-- Bytes in new memory. -/
def RetB (w : World) (l : List UInt8) (e : Ending) (w' : World) : Prop :=
  ∃ A c n, e = .returned (.slice A n c) ∧ w'.ownsRow w.heap.size 5 1 (.slice A n c) n (bv l) ∧ Below w.heap.size w w'
theorem RetB.back {w wc w' : World} {l : List UInt8} {e : Ending} (hb : Below w.heap.size w wc) (h : RetB wc l e w') : RetB w l e w' := by
  obtain ⟨A, c, n, rfl, hown, hb'⟩ := h
  exact ⟨A, c, n, rfl, own_mono hown hb.size, bnx hb hb'⟩
theorem own_cast {w : World} {base : Nat} {e : TypeId} {A : Option Addr} {c n n' : Nat} {xs xs' : List Value} (h : w.ownsRow base e 1 (.slice A n c) n xs) (hn : n = n') (hx : xs = xs') : w.ownsRow base e 1 (.slice A n' c) n' xs' := by
  subst hn; subst hx; exact h

/-- A slice of slices of bytes that reads as a list of lists. -/
def RdL (w : World) (B : Nat) (A : Option Addr) (n c : Nat) (ls : List (List UInt8)) : Prop :=
  ∃ vs, Rd w B 1 A n c vs ∧ ls.length = n ∧ ∀ (i : Nat) (l : List UInt8), ls[i]? = some l → ∃ A' n' c', vs[i]? = some (.slice A' n' c') ∧ Rd w B 1 A' n' c' (bv l)
theorem RdL.up {w w' : World} {B n c : Nat} {A : Option Addr} {ls : List (List UInt8)} (h : RdL w B A n c ls) (hb : Below B w w') : RdL w' B A n c ls := by
  obtain ⟨vs, h1, h2, h3⟩ := h
  refine ⟨vs, h1.up hb, h2, fun i l hl => ?_⟩
  obtain ⟨A', n', c', h4, h5⟩ := h3 i l hl
  exact ⟨A', n', c', h4, h5.up hb⟩
theorem RdL.at_ {w : World} {B n c k : Nat} {A : Option Addr} {ls : List (List UInt8)} (h : RdL w B A n c ls) (hk : k < n) :
    ∃ ad l A' n' c', A = some ad ∧ ls[k]? = some l ∧ w.cell? (ad.add k) = some (.slice A' n' c') ∧ Rd w B 1 A' n' c' (bv l) := by
  obtain ⟨vs, h1, h2, h3⟩ := h
  obtain ⟨ad, u, e, hu, hc⟩ := h1.one hk
  obtain ⟨A', n', c', h4, h5⟩ := h3 k _ (List.getElem?_eq_getElem (by omega))
  rw [hu] at h4
  injection h4 with h4
  subst h4
  exact ⟨ad, _, A', n', c', e, List.getElem?_eq_getElem (by omega), hc, h5⟩
/-- What a literal '[][]byte{..}' lays. -/
theorem RdL.lit {w : World} {B e : Nat} (vs : List Value) (ls : List (List UInt8)) (hl : ls.length = vs.length) (hm : vs.length ≤ maxLen) (hB : B ≤ w.heap.size)
    (h : ∀ (i : Nat) (l : List UInt8), ls[i]? = some l → ∃ A' n' c', vs[i]? = some (.slice A' n' c') ∧ Rd w B 1 A' n' c' (bv l)) :
    RdL (w.alloc (.cells vs.toArray e)) (w.heap.size + 1) (some ⟨w.heap.size, 0, none⟩) vs.length vs.length ls := by
  refine ⟨vs, ⟨by simp, Nat.le_refl _, hm, fun _ => ⟨_, rfl, Nat.lt_succ_self _, fun j u hu => ?_⟩⟩, hl, fun i l hi => ?_⟩
  · have e1 : (⟨w.heap.size, 0, none⟩ : Addr).add j = ⟨w.heap.size, j, none⟩ := by unfold Addr.add; split <;> simp_all
    rw [e1, World.cell?, show (⟨w.heap.size, j, none⟩ : Addr).block = w.heap.size from rfl, heap_alloc_new w _]
    simpa using hu
  · obtain ⟨A', n', c', h4, h5⟩ := h i l hi
    exact ⟨A', n', c', h4, (h5.up ((Below.refl B w).alloc hB _)).more (by omega)⟩
theorem RdL.lit1 {w : World} {B e n1 c1 : Nat} {A1 : Option Addr} {l1 : List UInt8} (hB : B ≤ w.heap.size) (h1 : Rd w B 1 A1 n1 c1 (bv l1)) :
    RdL (w.alloc (.cells #[.slice A1 n1 c1] e)) (w.heap.size + 1) (some ⟨w.heap.size, 0, none⟩) 1 1 [l1] :=
  RdL.lit (B := B) [.slice A1 n1 c1] [l1] rfl (by simp [maxLen]) hB (fun i l hi => by
    match i, hi with
    | 0, hi => simp at hi; subst hi; exact ⟨_, _, _, rfl, h1⟩)
theorem RdL.lit2 {w : World} {B e n1 c1 n2 c2 : Nat} {A1 A2 : Option Addr} {l1 l2 : List UInt8} (hB : B ≤ w.heap.size) (h1 : Rd w B 1 A1 n1 c1 (bv l1)) (h2 : Rd w B 1 A2 n2 c2 (bv l2)) :
    RdL (w.alloc (.cells #[.slice A1 n1 c1, .slice A2 n2 c2] e)) (w.heap.size + 1) (some ⟨w.heap.size, 0, none⟩) 2 2 [l1, l2] :=
  RdL.lit (B := B) [.slice A1 n1 c1, .slice A2 n2 c2] [l1, l2] rfl (by simp [maxLen]) hB (fun i l hi => by
    match i, hi with
    | 0, hi => simp at hi; subst hi; exact ⟨_, _, _, rfl, h1⟩
    | 1, hi => simp at hi; subst hi; exact ⟨_, _, _, rfl, h2⟩)
theorem RdL.lit3 {w : World} {B e n1 c1 n2 c2 n3 c3 : Nat} {A1 A2 A3 : Option Addr} {l1 l2 l3 : List UInt8} (hB : B ≤ w.heap.size) (h1 : Rd w B 1 A1 n1 c1 (bv l1)) (h2 : Rd w B 1 A2 n2 c2 (bv l2)) (h3 : Rd w B 1 A3 n3 c3 (bv l3)) :
    RdL (w.alloc (.cells #[.slice A1 n1 c1, .slice A2 n2 c2, .slice A3 n3 c3] e)) (w.heap.size + 1) (some ⟨w.heap.size, 0, none⟩) 3 3 [l1, l2, l3] :=
  RdL.lit (B := B) [.slice A1 n1 c1, .slice A2 n2 c2, .slice A3 n3 c3] [l1, l2, l3] rfl (by simp [maxLen]) hB (fun i l hi => by
    match i, hi with
    | 0, hi => simp at hi; subst hi; exact ⟨_, _, _, rfl, h1⟩
    | 1, hi => simp at hi; subst hi; exact ⟨_, _, _, rfl, h2⟩
    | 2, hi => simp at hi; subst hi; exact ⟨_, _, _, rfl, h3⟩)
theorem flat_snoc {ls : List (List UInt8)} {k : Nat} {l : List UInt8} (h : ls[k]? = some l) : (ls.take (k + 1)).flatten = (ls.take k).flatten ++ l := by
  rw [take_succ h]; simp
theorem flat_take_le (ls : List (List UInt8)) (k : Nat) : (ls.take k).flatten.length ≤ ls.flatten.length := by
  have h := congrArg List.length (congrArg List.flatten (List.take_append_drop k ls))
  rw [List.flatten_append, List.length_append] at h
  omega

set_option maxHeartbeats 400000 in
theorem clone_any (A : Option Addr) (n c B : Nat) (l : List UInt8) (w : World) (h : Rd w B 1 A n c (bv l)) (hB : B ≤ w.heap.size) (hn : n ≤ 70368744177664) :
    Calls Tryz.prog 89 #[.slice A n c] w (RetB w l) := by
  obtain ⟨i0, hi⟩ := info_parts u8_info
  have hl := h.blen
  have Hl := Lib.hid hl
  clear hl
  have hq := Lib.run_eql_slice_nil (P := Tryz.prog) w 22 5 A n c 0 0 Tryz.underlying22
  cases A with
  | none =>
    have hn0 : n = 0 := by
      rcases Nat.eq_zero_or_pos n with h0 | h0
      · exact h0
      · obtain ⟨ad, h, _⟩ := h.at_ h0; cases h
    obtain rfl : l = [] := List.eq_nil_of_length_eq_zero (by rw [Hl.out, hn0])
    simp only [Option.isNone_none] at hq
    clear hn0
    go_enter Tryz.func89, Tryz.ntmps89
    go_wp2
    go_ret
    exact ⟨none, 0, 0, rfl, World.ownsRow_nil _ _ _ _, Below.refl _ _⟩
  | some ad =>
    simp only [Option.isNone_some] at hq
    go_enter Tryz.func89, Tryz.ntmps89
    go_wp2_with (at_builtin; refine stop_ ?_)
    refine go_ (wpList_app (base := w.heap.size) (n := 0) (xs := []) Tryz.underlying22 hi rfl (by omega) (own_empty _ _ _ (Nat.le_refl _) 1) rfl (h.up ((Below.refl _ _).alloc hB _)) rfl (bv_one _) (Nat.zero_add _) (List.nil_append _) (by unfold maxLen; omega) (by omega) (by simp) ?_)
    intro A' c' w' hown hup
    have hb : Below w.heap.size w w' := hup ((Below.refl _ _).alloc (Nat.le_refl _) _) (by simp) (Nat.le_refl _)
    clear hup hq
    go_wp2
    go_ret
    exact ⟨A', c', n, rfl, hown, hb⟩

theorem run_app_zeros {P : Program} (w : World) (t u ty e : TypeId) (i : TypeInfo) (z : Value) (ht : P.underlying t = some (.slice e)) (hu : P.underlying u = some (.int .i64)) (hi : P.info? e = some i) (hz : i.zero = some z)
    (n : Nat) (h0 : 0 < n) (h63 : n ≤ 9223372036854775807) (hs : 0 < i.size) (h48 : n * i.bytes ≤ 281474976710656) :
    (Builtin.append_ #[t, u] ty #[.slice none 0 0, .int .i64 n]).run P w =
      .ok (.slice (some ⟨w.heap.size, 0, none⟩) n (grownCap w n 0 e)) (w.drew.alloc (.cells (Builtin.zeroCells z.cells n ++ Builtin.zeroCells z.cells (grownCap w n 0 e - n)) e)) := by
  have hn : n ≠ 0 := by omega
  have hw : IntKind.i64.wrap (n : Int) = n := IntWalk.i64_in _ (by omega)
  have h1 : ¬ ((n : Int) < 0) := by omega
  have h2 : ¬ (281474976710656 < (n : Int) * (i.bytes : Int)) := by
    have : ((n * i.bytes : Nat) : Int) ≤ 281474976710656 := by omega
    rw [Int.natCast_mul] at this; omega
  have h63' : ¬ (9223372036854775807 < (n : Int)) := by omega
  have h48' : ¬ (281474976710656 < Builtin.nextslicecap n 0 * i.bytes) := by rw [nextslicecap_zero h0]; omega
  have hs' : n * i.size ≠ 0 := Nat.mul_ne_zero hn (by omega)
  simp [Builtin.append_, run_underlying ht, run_underlying hu, sizeOf, typeInfo, zeroValue, hi, hz, hn, h63', h48', hw, h1, h2, hs', asInt, asIntOf, Question.forced, run_firstCells_none, newRow, grownCap]
set_option maxRecDepth 10000 in
set_option maxHeartbeats 400000 in
theorem grow_any (n : Nat) (w : World) (hn : n ≤ 70368744177664) :
    Calls Tryz.prog 41 #[.slice none 0 0, .int .i64 n] w (RetB w []) := by
  obtain ⟨i0, hi⟩ := info_parts u8_info
  by_cases h0 : n = 0
  · subst h0
    go_enter Tryz.func41, Tryz.ntmps41
    go_wp2
    go_ret
    exact ⟨none, 0, 0, rfl, World.ownsRow_nil _ _ _ _, Below.refl _ _⟩
  · have hr := run_app_zeros (P := Tryz.prog) w 22 3 22 5 i0 _ Tryz.underlying22 Tryz.underlying3 hi.1 hi.2.1 n (by omega) (by omega) (by omega) (by rw [hi.2.2.2]; omega)
    have hge := grownCap_ge w n 0 5
    have hle := grownCap_le_maxLen w n 0 5 (by unfold maxLen; omega)
    generalize grownCap w n 0 5 = cap at *
    have hsz : ((Builtin.zeroCells (Value.int .u8 0).cells n) ++ (Builtin.zeroCells (Value.int .u8 0).cells (cap - n))).size = cap := by rw [Array.size_append, size_zeroCells, size_zeroCells]; simp [Value.cells]; omega
    have Hsz := Lib.hid hsz
    clear hsz
    generalize ((Builtin.zeroCells (Value.int .u8 0).cells n) ++ (Builtin.zeroCells (Value.int .u8 0).cells (cap - n))) = cs at *
    have hpos : 0 < n := by omega
    clear h0
    unfold maxLen at hle
    go_enter Tryz.func41, Tryz.ntmps41
    have Hr := Lib.hid hr
    clear hr
    go_wp2_with (at_builtin; refine stop_ ?_)
    refine go_ (wpList_app_run rfl rfl Hr.out ?_)
    go_wp2
    go_ret
    refine ⟨_, _, 0, rfl, ⟨by simp [bv], .inr ⟨w.heap.size, cap, cs, rfl, Nat.le_refl _, heap_alloc_new w.drew _, Nat.zero_le _, by unfold maxLen; omega, by rw [Hsz.out]; simp, by simp [bv]⟩⟩, ((Below.refl _ _).drew).alloc (Nat.le_refl _) _⟩

set_option maxHeartbeats 1000000 in
theorem concat_any (A : Option Addr) (n c B : Nat) (ls : List (List UInt8)) (w : World) (h : RdL w B A n c ls) (hB : B ≤ w.heap.size) (hs : ls.flatten.length ≤ 70368744177664) :
    Calls Tryz.prog 21 #[.slice A n c] w (RetB w ls.flatten) := by
  obtain ⟨hn, hm, hl⟩ : n ≤ c ∧ c ≤ maxLen ∧ ls.length = n := by obtain ⟨vs, h1, h2, _⟩ := h; exact ⟨h1.le, h1.max, h2⟩
  obtain ⟨i0, hi⟩ := info_parts u8_info
  have Hi := Lib.hid hi
  have Hl := Lib.hid hl
  clear hl hi
  unfold maxLen at hm
  go_enter Tryz.func21, Tryz.ntmps21
  go_wp2
  go_loop [3, 5, 11] (fun s _ i => ∃ k : Nat, k ≤ n ∧ i = .int .i64 k ∧ s = .int .i64 (ls.take k).flatten.length) (fun _ _ i => n - (intOf i).toNat)
  case atStart => exact ⟨0, by omega, rfl, rfl⟩
  case round =>
    obtain ⟨k, hk, rfl, rfl⟩ := hrel
    have hle := flat_take_le ls k
    have hle1 := flat_take_le ls (k + 1)
    by_cases hlt : k < n
    · obtain ⟨ad, l, A', n', c', rfl, hx, hc, hr⟩ := h.at_ hlt
      have hb := hr.blen
      rw [flat_snoc hx, List.length_append, hb] at hle1
      have hs2 : (ls.take (k + 1)).flatten.length = (ls.take k).flatten.length + n' := by rw [flat_snoc hx, List.length_append, hb]
      have Hs := Lib.hid hs2
      clear hs2 hx hb
      generalize (ls.take k).flatten.length = d at *
      go_wp2
      go_round
      case rel => exact ⟨k + 1, by omega, by go_num, val_int (by rw [Hs.out]; omega)⟩
      case measure => simp [intOf]; omega
    · obtain rfl : k = n := by omega
      have ht : ls.take k = ls := List.take_of_length_le (by rw [Hl.out]; omega)
      rw [ht]
      clear ht hle hle1
      obtain ⟨m, hmm⟩ : ∃ m, m = ls.flatten.length := ⟨_, rfl⟩
      rw [← hmm] at hs ⊢
      have Hm := Lib.hid hmm
      clear hmm
      go_wp2_with fail
      go_fit (grow_any m w hs)
      rintro e w1 ⟨A1, c1, n1, rfl, hown1, hb1⟩
      obtain rfl : n1 = 0 := by have := own_len hown1; simpa using this.symm
      have hown1' : w1.ownsRow w.heap.size 5 1 (.slice A1 0 c1) 0 [] := hown1
      clear hown1
      go_wp2
      go_loopw [6, 8, 27] (fun s _ i wr => ∃ (j : Nat) (A2 : Option Addr) (c2 : Nat), j ≤ k ∧ i = .int .i64 j ∧ s = .slice A2 (ls.take j).flatten.length c2 ∧ wr.ownsRow w.heap.size 5 1 (.slice A2 (ls.take j).flatten.length c2) (ls.take j).flatten.length (bv (ls.take j).flatten) ∧ Below w.heap.size w wr) (fun _ _ i _ => k - (intOf i).toNat)
      case atStart => exact ⟨0, A1, c1, by omega, rfl, rfl, hown1', hb1⟩
      case round =>
        clear hb1 hown1' w1
        obtain ⟨j, A2, c2, hj, rfl, rfl, hown, hb⟩ := hrel
        have hle1 := flat_take_le ls (j + 1)
        rw [← Hm.out] at hle1
        by_cases hlt : j < k
        · obtain ⟨ad, l, A', n', c', rfl, hx, hc, hr⟩ := (h.up (hb.mono hB)).at_ hlt
          have hlb := hr.blen
          have hs2 : (ls.take (j + 1)).flatten.length = (ls.take j).flatten.length + n' := by rw [flat_snoc hx, List.length_append, hlb]
          have hs3 : bv (ls.take (j + 1)).flatten = bv (ls.take j).flatten ++ bv l := by rw [flat_snoc hx, bv_app]
          obtain ⟨m3, hm3⟩ : ∃ m3, m3 = (ls.take (j + 1)).flatten.length := ⟨_, rfl⟩
          rw [← hm3] at hs2 hle1
          have Hs := Lib.hid (And.intro hs2 (And.intro hs3 hm3))
          clear hs2 hs3 hx hlb hm3
          go_wp2_with (at_builtin; refine stop_ ?_)
          refine go_ (wpList_app (base := w.heap.size) Tryz.underlying22 Hi.out rfl (by omega) hown rfl hr rfl (bv_one _) Hs.out.1.symm Hs.out.2.1.symm (by unfold maxLen; omega) (by omega) hb.size ?_)
          intro A3 c3 w3 hown3 hup3
          have hb3 : Below w.heap.size w w3 := hup3 hb hb.size (Nat.le_refl _)
          clear hup3 hb hown hc hr
          go_wp2
          go_roundw
          case rel => exact ⟨j + 1, A3, c3, by omega, by go_num, by rw [Hs.out.2.2], by rw [← Hs.out.2.2]; exact hown3, hb3⟩
          case measure => simp [intOf]; omega
        · obtain rfl : j = k := by omega
          have ht : ls.take j = ls := List.take_of_length_le (by rw [Hl.out]; omega)
          rw [ht] at hown ⊢
          clear ht hle1
          go_wp2
          go_ret
          exact ⟨A2, c2, _, rfl, by simpa using hown, hb⟩

end Go.Proofs.YtonejdjhdjckjaaGreat
