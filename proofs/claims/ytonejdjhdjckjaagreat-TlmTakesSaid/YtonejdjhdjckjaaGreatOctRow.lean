/-
  The row of package octet: a block of three cells, the words on it, and what its inner functions do.
-/
import Derived.Test.YtonejdjhdjckjaaGreatSlices
import Derived.Test.YtonejdjhdjckjaaGreatNumLaw
import Derived.Deep.DeepFit
import Derived.Deep.RegionWith
set_option linter.unusedSimpArgs false
set_option linter.unusedVariables false
namespace Go.Proofs.YtonejdjhdjckjaaGreat
open Go.RowKit NumLaw

/-- Block g is a row: its bytes' slice, whether a call made it, whether it is bad. -/
def RowAt (w : World) (g e : Nat) (v : Value) (made bad : Bool) : Prop := w.heap[g]? = some (.cells #[v, .bool made, .bool bad] e)
section
variable {w w' : World} {g e : Nat} {v : Value} {made bad : Bool}
theorem RowAt.lt (h : RowAt w g e v made bad) : g < w.heap.size := by
  rcases Nat.lt_or_ge g w.heap.size with h1 | h1
  · exact h1
  · unfold RowAt at h; rw [Array.getElem?_eq_none h1] at h; cases h
theorem RowAt.c0 (h : RowAt w g e v made bad) : w.cell? ⟨g, 0, none⟩ = some v := by
  rw [World.cell?, show (⟨g, 0, none⟩ : Addr).block = g from rfl, h]; rfl
theorem RowAt.c1 (h : RowAt w g e v made bad) : w.cell? ⟨g, 1, none⟩ = some (.bool made) := by
  rw [World.cell?, show (⟨g, 1, none⟩ : Addr).block = g from rfl, h]; rfl
theorem RowAt.c2 (h : RowAt w g e v made bad) : w.cell? ⟨g, 2, none⟩ = some (.bool bad) := by
  rw [World.cell?, show (⟨g, 2, none⟩ : Addr).block = g from rfl, h]; rfl
theorem set_at {w : World} {g i : Nat} {cs : Array Value} {t : TypeId} {fr : Nat × Nat} (h : w.heap[g]? = some (.cells cs t fr)) (v : Value) : (w.setCell ⟨g, i, none⟩ v).heap[g]? = some (.cells (cs.setIfInBounds i v) t fr) := by
  obtain ⟨hlt, hk⟩ := Array.getElem?_eq_some_iff.1 h
  show (w.heap.modify g _)[g]? = _
  rw [Array.getElem?_eq_getElem (by rw [Array.size_modify]; exact hlt), Array.getElem_modify_self, hk]
  rfl
theorem RowAt.f0 (h : RowAt w g e v made bad) : w.frozen? ⟨g, 0, none⟩ = false := by
  rw [World.frozen?, show (⟨g, 0, none⟩ : Addr).block = g from rfl, h]; rfl
theorem RowAt.f2 (h : RowAt w g e v made bad) : w.frozen? ⟨g, 2, none⟩ = false := by
  rw [World.frozen?, show (⟨g, 2, none⟩ : Addr).block = g from rfl, h]; rfl
theorem RowAt.put0 (h : RowAt w g e v made bad) (u : Value) : RowAt (w.setCell ⟨g, 0, none⟩ u) g e u made bad := set_at h u
theorem RowAt.put2 (h : RowAt w g e v made bad) (b : Bool) : RowAt (w.setCell ⟨g, 2, none⟩ (.bool b)) g e v made b := set_at h (.bool b)
theorem RowAt.kept (h : RowAt w g e v made bad) {row : Option Nat} (hg : w.grownBy w' row) (hne : some g ≠ row) : RowAt w' g e v made bad := (hg.block g h.lt hne).trans h
theorem grownBy_set {w w' : World} {g : Nat} (h : w.grownBy w' (some g)) (i : Nat) (v : Value) : w.grownBy (w'.setCell ⟨g, i, none⟩ v) (some g) :=
  h.trans ⟨rfl, rfl, rfl, by simp [World.setCell], fun k _ hk => Below.heap_setCell _ _ _ k (fun e => hk (by rw [e]))⟩
theorem grownBy_self (w : World) (row : Option Nat) : w.grownBy w row := ⟨rfl, rfl, rfl, Nat.le_refl _, fun _ _ _ => rfl⟩
theorem grownBy_drew' {a w : World} {row : Option Nat} (h : a.grownBy w row) : a.grownBy w.drew row := ⟨h.os, h.tape, h.output, h.size, h.block⟩
theorem grownBy_of {w w' : World} (h : Below w.heap.size w w') (row : Option Nat) : w.grownBy w' row := ⟨h.os, h.tape, h.output, h.size, fun k hk _ => h.block k hk⟩
theorem Rd.grown {B n c g : Nat} {A : Option Addr} {xs : List Value} (h : Rd w B 1 A n c xs) (hg : w.grownBy w' (some g)) (hB : B ≤ g) (hlt : g < w.heap.size) : Rd w' B 1 A n c xs :=
  h.keep fun p hp => hg.cell_far p (by omega) (by intro e; injection e with e; omega)
theorem RowAt.grown_out {base : Nat} (hg : w.grownBy w' (some g)) (hB : base ≤ g) (hs : base ≤ w.heap.size) : Below base w w' :=
  ⟨hg.os, hg.tape, hg.output, hg.size, fun k hk => hg.block k (by omega) (by intro e; injection e with e; omega)⟩
end

set_option maxHeartbeats 400000 in
theorem fine_any (g e : Nat) (v : Value) (made bad : Bool) (w : World) (h : RowAt w g e v made bad) :
    Calls Tryz.prog 109 #[.pointer (some ⟨g, 0, none⟩)] w fun e w' => e = .returned (.bool (made && !bad)) ∧ w = w' := by
  have h1 := h.c1
  have h2 := h.c2
  cases made <;> cases bad
  all_goals
    go_enter Tryz.func109, Tryz.ntmps109
    go_wp2
    go_ret
    exact ⟨rfl, rfl⟩

set_option maxHeartbeats 400000 in
theorem fail_any (g e : Nat) (v : Value) (made bad : Bool) (w : World) (h : RowAt w g e v made bad) :
    Calls Tryz.prog 110 #[.pointer (some ⟨g, 0, none⟩)] w fun x w' => x = .returned (.tuple #[]) ∧ RowAt w' g e (.slice none 0 0) made true ∧ w.grownBy w' (some g) := by
  have h1 := h.c0
  have h2 := h.f0
  have h3 := (h.put0 (.slice none 0 0)).c2
  have h4 := (h.put0 (.slice none 0 0)).f2
  go_enter Tryz.func110, Tryz.ntmps110
  go_wp2
  ((try simp only [Exit.inBlock, Exit.then]); refine bodyPost_end (results_none rfl _ _ _) rfl ?_)
  exact ⟨rfl, (h.put0 _).put2 _, grownBy_set (grownBy_set (grownBy_self w _) 0 _) 2 _⟩

/-- What is left of the bytes at the reader's block g, and whether it is bad; the bytes lie from block lo on. -/
def Rdr (lo : Nat) (w : World) (g : Nat) (l : List UInt8) (bad : Bool) : Prop :=
  (∃ A n c, RowAt w g 118 (.slice A n c) true bad ∧ Rd w g 1 A n c (bv l) ∧ ∀ ad, A = some ad → lo ≤ ad.block) ∧ (bad = true → l = [])

theorem cutA_blk {A : Option Addr} {c k s : Nat} {ad : Addr} (h : cutA A c k s = some ad) : ∃ a0, A = some a0 ∧ a0.block = ad.block := by
  unfold cutA at h
  split at h
  · exact ⟨ad, h, rfl⟩
  · cases A with
    | none => cases h
    | some a0 =>
      simp only [Option.map_some] at h
      injection h with h
      exact ⟨a0, rfl, by rw [← h, blk_add]⟩
theorem own_lo {w : World} {base : Nat} {e : TypeId} {size n n' c : Nat} {A : Option Addr} {xs : List Value} (h : w.ownsRow base e size (.slice A n c) n' xs) : ∀ ad, A = some ad → base ≤ ad.block := by
  rintro ad rfl
  rcases h.2 with ⟨h, _⟩ | ⟨g, cap, cur, hv, hg, _⟩
  · cases h
  · injection hv with h1 h2 h3
    injection h1 with h1
    subst h1
    exact hg
/- Reader.next -/
/-- n bytes were read at g. -/
def RetN (lo : Nat) (w : World) (g : Nat) (l l' : List UInt8) (bad : Bool) (e : Ending) (w' : World) : Prop :=
  ∃ A n c, e = .returned (.slice A n c) ∧ Rd w' g 1 A n c (bv l) ∧ Rdr lo w' g l' bad ∧ w.grownBy w' (some g)
set_option maxHeartbeats 400000 in
theorem next_nil (n : Int) (w : World) :
    Calls Tryz.prog 112 #[.pointer none, .int .i64 n] w fun x w' => x = .returned (.slice none 0 0) ∧ w = w' := by
  go_enter Tryz.func112, Tryz.ntmps112
  go_wp2
  go_ret
  exact ⟨rfl, rfl⟩
set_option maxHeartbeats 400000 in
theorem next_bad (g e : Nat) (v : Value) (made bad : Bool) (n : Int) (w : World) (h : RowAt w g e v made bad) (hf : (made && !bad) = false) :
    Calls Tryz.prog 112 #[.pointer (some ⟨g, 0, none⟩), .int .i64 n] w fun x w' => x = .returned (.slice none 0 0) ∧ w = w' := by
  go_enter Tryz.func112, Tryz.ntmps112
  go_wp2_with fail
  go_fit (fine_any g e v made bad w h)
  rintro x w1 ⟨rfl, rfl⟩
  rw [hf]
  go_wp2
  go_ret
  exact ⟨rfl, rfl⟩
set_option maxHeartbeats 400000 in
theorem next_over (lo g : Nat) (l : List UInt8) (n : Int) (w : World) (h : Rdr lo w g l false) (hn : n < 0 ∨ (l.length : Int) < n) :
    Calls Tryz.prog 112 #[.pointer (some ⟨g, 0, none⟩), .int .i64 n] w (RetN lo w g [] [] true) := by
  obtain ⟨⟨A, m, c, hr, hd, hlo⟩, _⟩ := h
  have hl := hd.blen
  have h0 := hr.c0
  rw [hl] at hn
  clear hl
  go_enter Tryz.func112, Tryz.ntmps112
  go_wp2_with fail
  go_fit (fine_any _ _ _ _ _ w hr)
  rintro x w1 ⟨rfl, rfl⟩
  rcases (by omega : n < 0 ∨ ¬ n < 0 ∧ (m : Int) < n) with hn | ⟨hn1, hn2⟩
  · go_wp2_with fail
    go_fit (fail_any _ _ _ _ _ w hr)
    rintro x w2 ⟨rfl, hr2, hg⟩
    go_wp2
    go_ret
    exact ⟨none, 0, 0, rfl, Rd.none_ _ _ _, ⟨⟨none, 0, 0, hr2, Rd.none_ _ _ _, fun _ h => by cases h⟩, fun _ => rfl⟩, hg⟩
  · go_wp2_with fail
    go_fit (fail_any _ _ _ _ _ w hr)
    rintro x w2 ⟨rfl, hr2, hg⟩
    go_wp2
    go_ret
    exact ⟨none, 0, 0, rfl, Rd.none_ _ _ _, ⟨⟨none, 0, 0, hr2, Rd.none_ _ _ _, fun _ h => by cases h⟩, fun _ => rfl⟩, hg⟩
set_option maxHeartbeats 400000 in
theorem next_ok (lo g : Nat) (l : List UInt8) (n : Nat) (w : World) (h : Rdr lo w g l false) (hn : n ≤ l.length) :
    Calls Tryz.prog 112 #[.pointer (some ⟨g, 0, none⟩), .int .i64 n] w (RetN lo w g (l.take n) (l.drop n) false) := by
  obtain ⟨⟨A, m, c, hr, hd, hlo⟩, _⟩ := h
  obtain ⟨i0, hi⟩ := info_parts u8_info
  have hl := hd.blen
  have h0 := hr.c0
  have h1 := hr.f0
  have hle := hd.le
  have hm := hd.max
  unfold maxLen at hm
  rw [hl] at hn
  clear hl
  have hs1 := run_cut_hm (P := Tryz.prog) Tryz.underlying22 hi.1 A m c n (by omega)
  have hs2 := run_cut_l (P := Tryz.prog) Tryz.underlying22 hi.1 hi.2.2.1 A m c n (by omega)
  clear hi
  go_enter Tryz.func112, Tryz.ntmps112
  go_wp2_with fail
  go_fit (fine_any _ _ _ _ _ w hr)
  rintro x w1 ⟨rfl, rfl⟩
  go_wp2
  go_ret
  have hg := grownBy_set (grownBy_self w (some g)) 0 (Value.slice (cutA A c n 1) (m - n) (c - n))
  have hd2 := hd.grown hg (Nat.le_refl _) hr.lt
  refine ⟨A, n, n, rfl, ?_, ⟨⟨_, _, _, hr.put0 _, hd2.bdrop (by omega), fun ad h => by obtain ⟨a0, h1, h2⟩ := cutA_blk h; rw [← h2]; exact hlo a0 h1⟩, fun h => by cases h⟩, hg⟩
  have := hd2.btake (k := n) (by omega)
  exact ⟨this.len, Nat.le_refl _, by unfold maxLen; omega, this.at_⟩

/-- Does a reading of n bytes fail? What it hands back, and leaves. -/
def rdF (n : Int) (l : List UInt8) (bad : Bool) : Bool := bad || decide (n < 0) || decide ((l.length : Int) < n)
def rdB (n : Int) (l : List UInt8) (bad : Bool) : List UInt8 := if rdF n l bad = true then [] else l.take n.toNat
def rdL (n : Int) (l : List UInt8) (bad : Bool) : List UInt8 := if rdF n l bad = true then [] else l.drop n.toNat
theorem rdB_le (n : Int) (l : List UInt8) (bad : Bool) (h : n ≤ 8) : (rdB n l bad).length ≤ 8 := by
  unfold rdB
  split
  · simp
  · simp; omega
theorem Rdr.keep {lo : Nat} {w w' : World} {g : Nat} {l : List UInt8} {bad : Bool} (h : Rdr lo w g l bad) {row : Option Nat} (hg : w.grownBy w' row) (hr : ∀ k, row = some k → g < k) : Rdr lo w' g l bad := by
  obtain ⟨⟨A, n, c, h1, h2, h4⟩, h3⟩ := h
  refine ⟨⟨A, n, c, h1.kept hg (fun e => absurd (hr g e.symm) (Nat.lt_irrefl _)), h2.keep fun p hp => hg.cell_far p (Nat.lt_trans hp h1.lt) (fun e => absurd (hr _ e.symm) (by omega)), h4⟩, h3⟩
theorem next_any (lo g : Nat) (l : List UInt8) (bad : Bool) (n : Int) (w : World) (h : Rdr lo w g l bad) :
    Calls Tryz.prog 112 #[.pointer (some ⟨g, 0, none⟩), .int .i64 n] w (RetN lo w g (rdB n l bad) (rdL n l bad) (rdF n l bad)) := by
  cases bad with
  | true =>
    obtain rfl := h.2 rfl
    have h' := h
    obtain ⟨⟨A, m, c, hr, hd, hlo⟩, _⟩ := h
    refine (next_bad _ _ _ _ _ n w hr rfl).mono ?_
    rintro x w1 ⟨rfl, rfl⟩
    exact ⟨none, 0, 0, rfl, Rd.none_ _ _ _, h', grownBy_self _ _⟩
  | false =>
    by_cases hn : n < 0 ∨ (l.length : Int) < n
    · have e : rdF n l false = true := by unfold rdF; rcases hn with h | h <;> simp [h]
      simp only [rdB, rdL, e, if_true]
      exact next_over lo g l n w h hn
    · have e : rdF n l false = false := by
        unfold rdF
        rw [decide_eq_false (by omega), decide_eq_false (by omega)]; rfl
      simp only [rdB, rdL, e, Bool.false_eq_true, if_false]
      obtain ⟨k, rfl⟩ : ∃ k : Nat, n = k := ⟨n.toNat, by omega⟩
      exact next_ok lo g l k w h (by omega)

/- Reader.U -/
/-- A number was read at g. -/
def RetU (lo : Nat) (w : World) (g : Nat) (v : Value) (l' : List UInt8) (bad : Bool) (e : Ending) (w' : World) : Prop :=
  e = .returned v ∧ Rdr lo w' g l' bad ∧ w.grownBy w' (some g)
def nU (n : Int) : Int := if n < 1 ∨ 8 < n then -1 else n
theorem or_step {a : List UInt8} {x : UInt8} (h : a.length < 8) : bits .or .u64 ((num a : Nat) : Int) (IntKind.u64.wrap (IntKind.u64.wrap (x.toNat : Int) * 2 ^ (8 * a.length))) = ((num (a ++ [x]) : Nat) : Int) := by
  have hx := x.toNat_lt
  have h1 : x.toNat * 2 ^ (8 * a.length) < 18446744073709551616 := by
    rcases (by omega : a.length = 0 ∨ a.length = 1 ∨ a.length = 2 ∨ a.length = 3 ∨ a.length = 4 ∨ a.length = 5 ∨ a.length = 6 ∨ a.length = 7) with h | h | h | h | h | h | h | h <;> rw [h] <;> omega
  have h2 := num_lt a
  have h3 : 256 ^ a.length ≤ 256 ^ 7 := Nat.pow_le_pow_right (by omega) (by omega)
  have h4 : (256 : Nat) ^ 7 = 72057594037927936 := by decide
  rw [IntWalk.u64_in (x.toNat : Int) (by omega), show (x.toNat : Int) * 2 ^ (8 * a.length) = ((x.toNat * 2 ^ (8 * a.length) : Nat) : Int) by simp, IntWalk.u64_in _ (by omega), u64_or_nat _ _ (by omega) h1, num_or]
set_option maxHeartbeats 400000 in
theorem rU_any (lo g : Nat) (l : List UInt8) (bad : Bool) (n : Int) (w : World) (h : Rdr lo w g l bad) :
    Calls Tryz.prog 104 #[.pointer (some ⟨g, 0, none⟩), .int .i64 n] w (RetU lo w g (.int .u64 (num (rdB (nU n) l bad))) (rdL (nU n) l bad) (rdF (nU n) l bad)) := by
  have hn : ∃ n1, n1 = nU n := ⟨_, rfl⟩
  obtain ⟨n1, hn1⟩ := hn
  rw [← hn1]
  have hc := next_any lo g l bad n1 w h
  have hle := rdB_le n1 l bad (by rw [hn1]; unfold nU; split <;> omega)
  generalize rdB n1 l bad = b at *
  generalize rdL n1 l bad = l' at *
  generalize rdF n1 l bad = bad' at *
  go_enter Tryz.func104, Tryz.ntmps104
  rcases (show (n1 = -1 ∧ n < 1) ∨ (n1 = -1 ∧ ¬ n < 1 ∧ 8 < n) ∨ (n1 = n ∧ ¬ n < 1 ∧ ¬ 8 < n) from by rw [hn1]; unfold nU; split <;> omega) with ⟨rfl, h1⟩ | ⟨rfl, h1, h2⟩ | ⟨rfl, h1, h2⟩
  all_goals
    clear hn1
    go_wp2_with fail
    go_fit hc
    rintro x w1 ⟨A, m, c, rfl, hrd, hr, hg⟩
    have hlm := hrd.blen
    rw [hlm] at hle
    have Hl := Lib.hid hlm
    clear hlm
    go_wp2
    go_loop [5, 18] (fun u i => ∃ k : Nat, k ≤ m ∧ i = .int .i64 k ∧ u = .int .u64 (num (b.take k))) (fun _ i => m - (intOf i).toNat)
    case atStart => exact ⟨0, by omega, rfl, rfl⟩
    case round =>
      obtain ⟨k, hk, rfl, rfl⟩ := hrel
      by_cases hlt : k < m
      · obtain ⟨ad, x, rfl, hx, hcell⟩ := hrd.byte hlt
        have hk8 : (b.take k).length = k := by rw [List.length_take, Hl.out]; omega
        have hs := or_step (a := b.take k) (x := x) (by omega)
        rw [hk8, ← take_succ hx] at hs
        have Hs := Lib.hid hs
        clear hs
        go_wp2
        go_round
        case rel => exact ⟨k + 1, by omega, by go_num, val_int Hs.out⟩
        case measure => simp [intOf]; omega
      · obtain rfl : k = m := by omega
        have ht : b.take k = b := List.take_of_length_le (by rw [Hl.out]; omega)
        rw [ht]
        go_wp2
        go_ret
        exact ⟨rfl, hr, hg⟩

theorem rdB_lt (n : Int) (l : List UInt8) (bad : Bool) (h : n ≤ 8) : num (rdB n l bad) < 18446744073709551616 := by
  have h1 := num_lt (rdB n l bad)
  have h3 : 256 ^ (rdB n l bad).length ≤ 256 ^ 8 := Nat.pow_le_pow_right (by omega) (rdB_le n l bad h)
  have h4 : (256 : Nat) ^ 8 = 18446744073709551616 := by decide
  omega

/- Reader.I -/
/-- A number of n bytes, with a sign. -/
def sgn (n : Nat) (u : Nat) : Int := if u < 128 * 256 ^ (n - 1) then u else (u : Int) - 256 ^ n
def iV (n : Int) (l : List UInt8) (bad : Bool) : Int := if n < 1 ∨ 8 < n then 0 else if rdF n l bad = true then 0 else sgn n.toNat (num (rdB n l bad))
theorem sgn_zero (n : Nat) : sgn n 0 = 0 := by
  unfold sgn
  rw [if_pos (Nat.mul_pos (by omega) (Nat.pow_pos (by omega)))]
  rfl
theorem sgn_shift (n u : Nat) (h1 : 1 ≤ n) (h8 : n ≤ 8) (hu : u < 256 ^ n) : wrap64 (IntKind.u64.wrap ((u : Int) * 2 ^ (8 * (8 - (n : Int))).toNat)) / 2 ^ (8 * (8 - (n : Int))).toNat = sgn n u := by
  unfold sgn wrap64
  rcases (by omega : n = 1 ∨ n = 2 ∨ n = 3 ∨ n = 4 ∨ n = 5 ∨ n = 6 ∨ n = 7 ∨ n = 8) with rfl | rfl | rfl | rfl | rfl | rfl | rfl | rfl
  all_goals
    simp [IntKind.wrap, IntKind.bits, IntKind.signed] at hu ⊢
    split <;> omega
set_option maxHeartbeats 400000 in
theorem rI_any (lo g : Nat) (l : List UInt8) (bad : Bool) (n : Int) (w : World) (h : Rdr lo w g l bad) :
    Calls Tryz.prog 91 #[.pointer (some ⟨g, 0, none⟩), .int .i64 n] w (RetU lo w g (.int .i64 (iV n l bad)) (rdL (nU n) l bad) (rdF (nU n) l bad)) := by
  have hc := rU_any lo g l bad n w h
  obtain ⟨x, hx⟩ : ∃ x, x = iV n l bad := ⟨_, rfl⟩
  rw [← hx]
  go_enter Tryz.func91, Tryz.ntmps91
  rcases (by omega : n < 1 ∨ ¬ n < 1 ∧ 8 < n ∨ ¬ n < 1 ∧ ¬ 8 < n) with h1 | ⟨h1, h2⟩ | ⟨h1, h2⟩
  · obtain rfl : x = 0 := by rw [hx]; unfold iV; rw [if_pos (by omega)]
    go_wp2_with fail
    go_fit hc
    rintro x w1 ⟨rfl, hr, hg⟩
    go_wp2
    go_ret
    exact ⟨rfl, hr, hg⟩
  · obtain rfl : x = 0 := by rw [hx]; unfold iV; rw [if_pos (by omega)]
    go_wp2_with fail
    go_fit hc
    rintro x w1 ⟨rfl, hr, hg⟩
    go_wp2
    go_ret
    exact ⟨rfl, hr, hg⟩
  · have Hx := Lib.hid hx
    clear hx
    generalize hu : num (rdB (nU n) l bad) = u at *
    have Hu := Lib.hid hu
    clear hu
    go_wp2_with fail
    go_fit hc
    rintro x w1 ⟨rfl, hr, hg⟩
    go_wp2
    go_ret
    refine ⟨?_, hr, hg⟩
    have e : x = sgn n.toNat u := by
      rw [Hx.out]
      unfold iV
      have e1 : nU n = n := by unfold nU; rw [if_neg (by omega)]
      rw [e1] at Hu
      rw [if_neg (by omega), Hu.out]
      split
      · rename_i hf
        have := Hu.out
        simp only [rdB, hf, if_true, num] at this
        rw [← this, sgn_zero]
      · rfl
    have hlt : u < 256 ^ n.toNat := by
      have e1 : nU n = n := by unfold nU; rw [if_neg (by omega)]
      rw [e1] at Hu
      rw [← Hu.out]
      have h3 := num_lt (rdB n l bad)
      have h4 : (rdB n l bad).length ≤ n.toNat := by unfold rdB; split <;> simp; omega
      exact Nat.lt_of_lt_of_le h3 (Nat.pow_le_pow_right (by omega) h4)
    obtain ⟨k, rfl⟩ : ∃ k : Nat, n = k := ⟨n.toNat, by omega⟩
    rw [e]
    exact ret_int (sgn_shift k u (by omega) (by omega) hlt)

/- Reader.Raw -/

/- octet.New -/
theorem rNew_any (A : Option Addr) (n c B : Nat) (l : List UInt8) (w : World) (h : Rd w B 1 A n c (bv l)) (hB : B ≤ w.heap.size) (hn : n ≤ 70368744177664) :
    Calls Tryz.prog 58 #[.slice A n c] w fun x w' => ∃ g, x = .returned (.pointer (some ⟨g, 0, none⟩)) ∧ Rdr w.heap.size w' g l false ∧ w.heap.size ≤ g ∧ Below w.heap.size w w' := by
  go_enter Tryz.func58, Tryz.ntmps58
  go_wp2_with fail
  go_fit (clone_any A n c B l w h hB hn)
  rintro x w1 ⟨A1, c1, n1, rfl, hown, hb⟩
  go_wp2
  go_ret
  refine ⟨w1.heap.size, rfl, ⟨⟨A1, n1, c1, heap_alloc_new w1 _, (Rd.own hown).up ((Below.refl _ _).alloc (Nat.le_refl _) _), own_lo hown⟩, fun h => by cases h⟩, hb.size, hb.alloc hb.size _⟩

end Go.Proofs.YtonejdjhdjckjaaGreat
