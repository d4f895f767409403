/-
  The document's answer for layer 4 (landfallref04), its reader: what each function computes.
-/
import Derived.Test.YtglfhdkknhdphaaOctRow
import Derived.Test.YtglfhdkknhdphaaOrder
import Derived.Deep.RegionHeld3
import Derived.Deep.QuietTactic
import Derived.BigQuiet
set_option linter.unusedSimpArgs false
set_option linter.unusedVariables false
namespace Go.Proofs.Ytglfhdkknhdphaa
open Go.RowKit NumLaw

theorem blk_lt {w : World} {g : Nat} {o : Obj} (h : w.heap[g]? = some o) : g < w.heap.size := by
  rcases Nat.lt_or_ge g w.heap.size with h1 | h1
  · exact h1
  · rw [Array.getElem?_eq_none h1] at h; cases h

/- half -/
theorem half_step {k : Nat} (h : k < 8) : IntKind.u64.wrap (((128 * 256 ^ (k - 1) : Nat) : Int) * 256) = ((128 * 256 ^ (k - 1) * 256 : Nat) : Int) := by
  have h3 : 256 ^ (k - 1) ≤ 256 ^ 6 := Nat.pow_le_pow_right (by omega) (by omega)
  have h4 : (256 : Nat) ^ 6 = 281474976710656 := by decide
  rw [IntWalk.u64_in _ (by omega)]
  simp
set_option maxHeartbeats 400000 in
theorem half_any (n : Nat) (w : World) (h1 : 1 ≤ n) (h8 : n ≤ 8) :
    Calls Try.prog 107 #[.int .i64 n] w fun e w' => e = .returned (.int .u64 ((128 * 256 ^ (n - 1) : Nat) : Int)) ∧ w = w' := by
  obtain ⟨D, hD⟩ : ∃ D, D = 128 * 256 ^ (n - 1) := ⟨_, rfl⟩
  rw [← hD]
  have HD := Lib.hid hD
  clear hD
  go_enter Try.func107, Try.ntmps107
  go_wp2
  go_loop [3, 4] (fun h i => ∃ k : Nat, 1 ≤ k ∧ k ≤ n ∧ i = .int .i64 k ∧ h = .int .u64 ((128 * 256 ^ (k - 1) : Nat) : Int)) (fun _ i => n - (intOf i).toNat)
  case atStart => exact ⟨1, by omega, by omega, rfl, rfl⟩
  case round =>
    obtain ⟨k, hk1, hk, rfl, rfl⟩ := hrel
    by_cases hlt : k < n
    · have hs := half_step (k := k) (by omega)
      have e : 128 * 256 ^ (k - 1) * 256 = 128 * 256 ^ (k + 1 - 1) := by
        obtain ⟨j, rfl⟩ : ∃ j, k = j + 1 := ⟨k - 1, by omega⟩
        simp only [Nat.add_sub_cancel, Nat.pow_succ]; omega
      rw [e] at hs
      have Hs := Lib.hid hs
      clear hs e
      generalize 128 * 256 ^ (k - 1) = d at *
      go_wp2
      go_round
      case rel => exact ⟨k + 1, by omega, by omega, by go_num, val_int Hs.out⟩
      case measure => simp [intOf]; omega
    · obtain rfl : k = n := by omega
      rw [← HD.out]
      go_wp2
      go_ret
      exact ⟨rfl, rfl⟩

/- Signed -/
set_option maxHeartbeats 400000 in
theorem signed_any (n u : Nat) (w : World) (h1 : 1 ≤ n) (h8 : n ≤ 8) (hu : u < 256 ^ n) :
    Calls Try.prog 76 #[.int .i64 n, .int .u64 u] w fun e w' => e = .returned (.int .i64 (sgn n u)) ∧ w = w' := by
  have hh := half_any n w h1 h8
  have hs : sgn n u = if u < 128 * 256 ^ (n - 1) then (u : Int) else (u : Int) - 256 ^ n := rfl
  have he : (256 : Nat) ^ n = 2 * (128 * 256 ^ (n - 1)) := by
    obtain ⟨j, rfl⟩ : ∃ j, n = j + 1 := ⟨n - 1, by omega⟩
    simp only [Nat.add_sub_cancel, Nat.pow_succ]; omega
  have hle : 128 * 256 ^ (n - 1) ≤ 9223372036854775808 := by
    have h3 : 256 ^ (n - 1) ≤ 256 ^ 7 := Nat.pow_le_pow_right (by omega) (by omega)
    have h4 : (256 : Nat) ^ 7 = 72057594037927936 := by decide
    omega
  have he' : (256 : Int) ^ n = 2 * ((128 * 256 ^ (n - 1) : Nat) : Int) := by
    have := congrArg (Nat.cast (R := Int)) he
    simpa using this
  have hpos : 0 < 128 * 256 ^ (n - 1) := Nat.mul_pos (by omega) (Nat.pow_pos (by omega))
  rw [he] at hu
  rw [he'] at hs
  clear he he'
  generalize 128 * 256 ^ (n - 1) = d at *
  have Hs := Lib.hid hs
  clear hs
  go_enter Try.func76, Try.ntmps76
  by_cases hud : u < d
  · have hr := Hs.out
    rw [if_pos hud] at hr
    rw [hr]
    clear hr
    go_wp2_with fail
    go_fit hh
    rintro x w1 ⟨rfl, rfl⟩
    go_wp2
    go_ret
    exact ⟨rfl, rfl⟩
  · have hr := Hs.out
    rw [if_neg hud] at hr
    rw [hr]
    clear hr
    go_wp2_with fail
    go_fit hh
    rintro x w1 ⟨rfl, rfl⟩
    go_wp2
    go_ret
    exact ⟨ret_int (by omega), rfl⟩

/- Number -/
theorem num_step {a : List UInt8} {x : UInt8} (h : a.length < 8) : IntKind.u64.wrap (IntKind.u64.wrap ((num a : Nat) * 256) + IntKind.u64.wrap (x.toNat : Int)) = ((num (x :: a) : Nat) : Int) := by
  have hx := x.toNat_lt
  have h2 := num_lt a
  have h3 : 256 ^ a.length ≤ 256 ^ 7 := Nat.pow_le_pow_right (by omega) (by omega)
  have h4 : (256 : Nat) ^ 7 = 72057594037927936 := by decide
  rw [IntWalk.u64_in (x.toNat : Int) (by omega), IntWalk.u64_in ((num a : Nat) * 256) (by omega), IntWalk.u64_in _ (by omega)]
  simp only [num]
  omega
set_option maxHeartbeats 400000 in
theorem number_any (A : Option Addr) (n c B : Nat) (l : List UInt8) (w : World) (h : Rd w B 1 A n c (bv l)) (hn : n ≤ 8) :
    Calls Try.prog 75 #[.slice A n c] w fun e w' => e = .returned (.int .u64 (num l)) ∧ w = w' := by
  have Hl := Lib.hid h.blen
  go_enter Try.func75, Try.ntmps75
  go_wp2
  go_loop [3, 4] (fun u i => ∃ k : Nat, k ≤ n ∧ i = .int .i64 ((k : Int) - 1) ∧ u = .int .u64 (num (l.drop k))) (fun _ i => (intOf i + 1).toNat)
  case atStart => exact ⟨n, by omega, rfl, by rw [List.drop_of_length_le (by rw [Hl.out]; omega)]; rfl⟩
  case round =>
    obtain ⟨k, hk, rfl, rfl⟩ := hrel
    by_cases hlt : 1 ≤ k
    · obtain ⟨j, rfl⟩ : ∃ j, k = j + 1 := ⟨k - 1, by omega⟩
      obtain ⟨ad, x, rfl, hx, hcell⟩ := h.byte (k := j) (by omega)
      have hd : l.drop j = x :: l.drop (j + 1) := by
        have hj : j < l.length := by rw [Hl.out]; omega
        rw [List.drop_eq_getElem_cons hj]
        rw [List.getElem?_eq_getElem hj] at hx
        injection hx with hx
        rw [hx]
      have hs := num_step (a := l.drop (j + 1)) (x := x) (by rw [List.length_drop, Hl.out]; omega)
      rw [← hd] at hs
      have Hs := Lib.hid hs
      have e1 : ((j + 1 : Nat) : Int) - 1 = (j : Int) := by omega
      rw [e1]
      clear hs hd hx e1
      generalize num (l.drop (j + 1)) = d at *
      go_wp2
      go_round
      case rel => exact ⟨j, by omega, rfl, val_int Hs.out⟩
      case measure => simp [intOf]
    · obtain rfl : k = 0 := by omega
      rw [List.drop_zero]
      go_wp2
      go_ret
      exact ⟨rfl, rfl⟩

/-- What a reading hands back: the reader as a plain value, and v. -/
def RetQ (w : World) (B : Nat) (v : Value) (l' : List UInt8) (bad : Bool) (e : Ending) (w' : World) : Prop :=
  ∃ A n c, e = .returned (.tuple #[.agg #[.slice A n c, .bool bad], v]) ∧ Rd w' B 1 A n c (bv l') ∧ Below w.heap.size w w'
/-- The same, v new bytes. -/
def RetQB (w : World) (B : Nat) (l l' : List UInt8) (bad : Bool) (e : Ending) (w' : World) : Prop :=
  ∃ A n c A' n' c', e = .returned (.tuple #[.agg #[.slice A n c, .bool bad], .slice A' n' c']) ∧ Rd w' B 1 A n c (bv l') ∧ w'.ownsRow w.heap.size 5 1 (.slice A' n' c') n' (bv l) ∧ Below w.heap.size w w'

/- Raw -/
set_option maxHeartbeats 400000 in
theorem qRaw_bad (A : Option Addr) (m c B : Nat) (l : List UInt8) (bad : Bool) (n : Int) (w : World) (h : Rd w B 1 A m c (bv l)) (hb : rdF n l bad = true) :
    Calls Try.prog 26 #[.agg #[.slice A m c, .bool bad], .int .i64 n] w (RetQB w B [] [] true) := by
  unfold rdF at hb
  rw [h.blen] at hb
  go_enter Try.func26, Try.ntmps26
  cases bad with
  | true =>
    go_wp2
    refine bodyPost_ret (v := .tuple #[.agg #[.slice none 0 0, .bool true], .slice none 0 0]) (by simp [results, go_sem]) rfl ⟨none, 0, 0, none, 0, 0, rfl, Rd.none_ _ _ _, World.ownsRow_nil _ _ _ _, ((Below.refl _ _).alloc (Nat.le_refl _) _).alloc (by simp) _⟩
  | false =>
    rcases (show n < 0 ∨ ¬ n < 0 ∧ (m : Int) < n by simp at hb; omega) with h1 | ⟨h1, h2⟩
    · go_wp2
      refine bodyPost_ret (v := .tuple #[.agg #[.slice none 0 0, .bool true], .slice none 0 0]) (by simp [results, go_sem]) rfl ⟨none, 0, 0, none, 0, 0, rfl, Rd.none_ _ _ _, World.ownsRow_nil _ _ _ _, ((Below.refl _ _).alloc (Nat.le_refl _) _).alloc (by simp) _⟩
    · go_wp2
      refine bodyPost_ret (v := .tuple #[.agg #[.slice none 0 0, .bool true], .slice none 0 0]) (by simp [results, go_sem]) rfl ⟨none, 0, 0, none, 0, 0, rfl, Rd.none_ _ _ _, World.ownsRow_nil _ _ _ _, ((Below.refl _ _).alloc (Nat.le_refl _) _).alloc (by simp) _⟩
set_option maxRecDepth 10000 in
set_option maxHeartbeats 1000000 in
theorem qRaw_ok (A : Option Addr) (m c B : Nat) (l : List UInt8) (n : Nat) (w : World) (h : Rd w B 1 A m c (bv l)) (hB : B ≤ w.heap.size) (hn : n ≤ m) (hm : m ≤ 70368744177664) :
    Calls Try.prog 26 #[.agg #[.slice A m c, .bool false], .int .i64 n] w (RetQB w B (l.take n) (l.drop n) false) := by
  obtain ⟨i0, hi⟩ := info_parts u8_info
  have Hi := Lib.hid hi
  have hle := h.le
  have hs1 := run_cut_h (P := Try.prog) Try.underlying22 hi.1 A m c n (by omega)
  have hs2 := run_cut_l (P := Try.prog) Try.underlying22 hi.1 hi.2.2.1 A m c n (by omega)
  have hd1 : decide ((n : Int) < 0) = false := by simp
  have hd2 : decide ((m : Int) < n) = false := by simp; omega
  clear hi
  go_enter Try.func26, Try.ntmps26
  go_wp2
  have hcl : ∀ w', Below (w.heap.size + 1) (w.alloc (.cells #[.slice A m c, .bool false] 29)) w' → w'.cell? ⟨w.heap.size, 0, none⟩ = some (.slice A m c) := fun w' hb => (hb.cell (by simp)).trans (by simp)
  have hb0 : Below (w.heap.size + 1) (w.alloc (.cells #[.slice A m c, .bool false] 29)) ((w.alloc (.cells #[.slice A m c, .bool false] 29)).alloc (.cells #[.slice none 0 0, .bool false] 29)) := (Below.refl _ _).alloc (by simp) _
  have hs0 := hcl _ hb0.drew
  refine Ord.region_ (fun w' => w'.cell? ⟨w.heap.size, 0, none⟩ = some (.slice A m c)) false [] (by kernel_rfl) (by kernel_rfl) hs0 ?_
  repeat (first | (refine Ord.e_p (v := ?_) rfl (by rfl) ?_ ?_; rotate_left; · (intro w2; go_simp; try with_reducible rfl)) | (refine Ord.e_u (by rfl) ?_)); (try simp only [Act.put, List.setIfInBounds_toArray, List.set_cons_zero, List.set_cons_succ])
  (refine Ord.e_loadS Try.underlying22 rfl (fun w2 hS => hS) ?_ rfl (by rfl) ?_; · first | assumption | (simp; done)); (try simp only [Act.put, List.setIfInBounds_toArray, List.set_cons_zero, List.set_cons_succ])
  repeat (first | (refine Ord.e_p (v := ?_) rfl (by rfl) ?_ ?_; rotate_left; · (intro w2; go_simp; try with_reducible rfl)) | (refine Ord.e_u (by rfl) ?_)); (try simp only [Act.put, List.setIfInBounds_toArray, List.set_cons_zero, List.set_cons_succ])
  refine Ord.e_x rfl (by rfl) ?_
  go_wp2
  have hb1 := hb0.alloc (by simp) (.cells #[] 5)
  have hs1' := hcl _ hb1.drew
  refine Ord.Seg.go hs1' (fun h => by cases h) ?_
  repeat (first | (refine Ord.e_p (v := ?_) rfl (by rfl) ?_ ?_; rotate_left; · (intro w2; go_simp; try with_reducible rfl)) | (refine Ord.e_u (by rfl) ?_)); (try simp only [Act.put, List.setIfInBounds_toArray, List.set_cons_zero, List.set_cons_succ])
  (refine Ord.e_loadS Try.underlying22 rfl (fun w2 hS => hS) ?_ rfl (by rfl) ?_; · first | assumption | (simp; done)); (try simp only [Act.put, List.setIfInBounds_toArray, List.set_cons_zero, List.set_cons_succ])
  repeat (first | (refine Ord.e_p (v := ?_) rfl (by rfl) ?_ ?_; rotate_left; · (intro w2; go_simp; try with_reducible rfl)) | (refine Ord.e_u (by rfl) ?_)); (try simp only [Act.put, List.setIfInBounds_toArray, List.set_cons_zero, List.set_cons_succ])
  refine Ord.e_x rfl (by rfl) ?_
  have hown0 := (own_empty ((w.alloc (.cells #[.slice A m c, .bool false] 29)).alloc (.cells #[.slice none 0 0, .bool false] 29)) (w.heap.size + 2) 5 (by simp) 1).drew
  simp only [World.size_alloc] at hown0
  go_wp2_with (at_builtin; refine stop_ ?_)
  refine go_ (wpList_app (base := w.heap.size + 2) (n := 0) (xs := []) Try.underlying22 Hi.out rfl (by omega) hown0 rfl ((h.btake hn).up (((Below.refl B w).alloc hB _).trans (hb1.drew.mono (by omega)))) rfl (bv_one _) (Nat.zero_add _) (List.nil_append _) (by unfold maxLen; omega) (by omega) (by simp) ?_)
  intro A3 c3 w3 hown3 hup3
  have hb3 : Below (w.heap.size + 2) ((w.alloc (.cells #[.slice A m c, .bool false] 29)).alloc (.cells #[.slice none 0 0, .bool false] 29)) w3 := hup3 ((Below.refl _ _).alloc (by simp) _).drew (by simp) (Nat.le_refl _)
  have hs3 := hcl _ (hb0.trans (hb3.mono (by omega)))
  have hk0 := blk_old (blk_new2 w _ _) hb3 (by omega)
  have hk1 := blk_set (i := 0) hk0 (.slice (cutA A c n 1) (m - n) (c - n))
  have hk2 := blk_set (i := 1) hk1 (.bool false)
  refine Ord.Seg.go hs3 (fun h => by cases h) ?_
  (try simp only [Act.put, List.setIfInBounds_toArray, List.set_cons_zero, List.set_cons_succ])
  refine Ord.e_x rfl (by rfl) ?_
  have h1 : w3.cell? ⟨w.heap.size + 1, 0, none⟩ = some (.slice none 0 0) := blk_cell hk0 rfl
  have h2 := blk_free (i := 0) hk0
  have h3 : (w3.setCell ⟨w.heap.size + 1, 0, none⟩ (.slice (cutA A c n 1) (m - n) (c - n))).cell? ⟨w.heap.size + 1, 1, none⟩ = some (.bool false) := blk_cell hk1 rfl
  have h4 := blk_free (i := 1) hk1
  go_wp2
  have hb4 : Below (w.heap.size + 1) w3 ((w3.setCell ⟨w.heap.size + 1, 0, none⟩ (.slice (cutA A c n 1) (m - n) (c - n))).setCell ⟨w.heap.size + 1, 1, none⟩ (.bool false)) := ((Below.refl _ _).setCell (p := ⟨w.heap.size + 1, 0, none⟩) (Nat.le_refl _) _).setCell (p := ⟨w.heap.size + 1, 1, none⟩) (Nat.le_refl _) _
  have hb5 : Below w.heap.size w w3 := ((Below.refl _ _).alloc (Nat.le_refl _) _).trans ((hb0.trans (hb3.mono (by omega))).mono (by omega))
  have hR4 := own_mono (own_set (own_set hown3 (show w.heap.size + 1 < w.heap.size + 2 by omega) (i := 0) (.slice (cutA A c n 1) (m - n) (c - n))) (show w.heap.size + 1 < w.heap.size + 2 by omega) (i := 1) (.bool false)) (show w.heap.size ≤ w.heap.size + 2 by omega)
  have e1 := blk_cell (i := 0) (v := .slice (cutA A c n 1) (m - n) (c - n)) hk2 rfl
  have e2 := blk_cell (i := 1) (v := .bool false) hk2 rfl
  have hb6 := hb5.trans (hb4.mono (by omega))
  have hq : Rd _ B 1 _ _ _ (bv (l.drop n)) := (h.up (hb6.mono hB)).bdrop hn
  generalize ((w3.setCell ⟨w.heap.size + 1, 0, none⟩ (.slice (cutA A c n 1) (m - n) (c - n))).setCell ⟨w.heap.size + 1, 1, none⟩ (.bool false)) = w4 at *
  refine Ord.Seg.go (hcl _ ((hb0.trans (hb3.mono (by omega))).trans hb4)) (fun h => by cases h) ?_
  (try simp only [Act.put, List.setIfInBounds_toArray, List.set_cons_zero, List.set_cons_succ])
  repeat (first | (refine Ord.e_p (v := ?_) rfl (by rfl) ?_ ?_; rotate_left; · (intro w2; go_simp; try with_reducible rfl)) | (refine Ord.e_u (by rfl) ?_)); (try simp only [Act.put, List.setIfInBounds_toArray, List.set_cons_zero, List.set_cons_succ])
  refine Ord.e_nil ?_
  clear hs1 hs2 hs3 hs0 hs1' hcl hk0 hk1 hk2 h1 h2 h3 h4
  go_wp2
  refine bodyPost_ret (v := .tuple #[.agg #[.slice (cutA A c n 1) (m - n) (c - n), .bool false], .slice A3 n c3]) (by simp [results, go_sem, e1, e2]) rfl ?_
  exact ⟨_, _, _, _, _, _, rfl, hq, hR4, hb6⟩

theorem qRaw_any (A : Option Addr) (m c B : Nat) (l : List UInt8) (bad : Bool) (n : Int) (w : World) (h : Rd w B 1 A m c (bv l)) (hB : B ≤ w.heap.size) (hm : m ≤ 70368744177664) :
    Calls Try.prog 26 #[.agg #[.slice A m c, .bool bad], .int .i64 n] w (RetQB w B (rdB n l bad) (rdL n l bad) (rdF n l bad)) := by
  cases hb : rdF n l bad with
  | true =>
    simp only [rdB, rdL, hb, if_true]
    exact qRaw_bad A m c B l bad n w h hb
  | false =>
    simp only [rdB, rdL, hb, Bool.false_eq_true, if_false]
    have hb' := hb
    simp only [rdF, Bool.or_eq_false_iff, decide_eq_false_iff_not] at hb'
    obtain ⟨⟨rfl, h1⟩, h2⟩ := hb'
    rw [h.blen] at h2
    obtain ⟨k, rfl⟩ : ∃ k : Nat, n = k := ⟨n.toNat, by omega⟩
    exact qRaw_ok A m c B l k w h hB (by omega) hm

/- U -/
set_option maxRecDepth 10000 in
set_option maxHeartbeats 1000000 in
theorem qU_any (A : Option Addr) (m c B : Nat) (l : List UInt8) (bad : Bool) (n : Int) (w : World) (h : Rd w B 1 A m c (bv l)) (hB : B ≤ w.heap.size) (hm : m ≤ 70368744177664) :
    Calls Try.prog 22 #[.agg #[.slice A m c, .bool bad], .int .i64 n] w (RetQ w B (.int .u64 (num (rdB (nU n) l bad))) (rdL (nU n) l bad) (rdF (nU n) l bad)) := by
  have hn : ∃ n1, n1 = nU n := ⟨_, rfl⟩
  obtain ⟨n1, hn1⟩ := hn
  rw [← hn1]
  have hle := rdB_le n1 l bad (by rw [hn1]; unfold nU; split <;> omega)
  rcases (show (n1 = -1 ∧ n < 1) ∨ (n1 = -1 ∧ ¬ n < 1 ∧ 8 < n) ∨ (n1 = n ∧ ¬ n < 1 ∧ ¬ 8 < n) from by rw [hn1]; unfold nU; split <;> omega) with ⟨rfl, h1⟩ | ⟨rfl, h1, h2⟩ | ⟨rfl, h1, h2⟩
  · have hf : rdF (-1) l bad = true := by unfold rdF; simp
    simp only [rdB, rdL, hf, if_true, num]
    clear hn1 hle hf
    go_enter Try.func22, Try.ntmps22
    go_wp2
    refine bodyPost_ret (v := .tuple #[.agg #[.slice none 0 0, .bool true], .int .u64 0]) (by simp [results, go_sem]) rfl ⟨none, 0, 0, rfl, Rd.none_ _ _ _, ((Below.refl _ _).alloc (Nat.le_refl _) _).alloc (by simp) _⟩
  · have hf : rdF (-1) l bad = true := by unfold rdF; simp
    simp only [rdB, rdL, hf, if_true, num]
    clear hn1 hle hf
    go_enter Try.func22, Try.ntmps22
    go_wp2
    refine bodyPost_ret (v := .tuple #[.agg #[.slice none 0 0, .bool true], .int .u64 0]) (by simp [results, go_sem]) rfl ⟨none, 0, 0, rfl, Rd.none_ _ _ _, ((Below.refl _ _).alloc (Nat.le_refl _) _).alloc (by simp) _⟩
  · clear hn1
    have hb0 : Below w.heap.size w ((w.alloc (.cells #[.slice A m c, .bool bad] 29)).alloc (.cells #[.slice none 0 0, .bool false] 29)) := ((Below.refl _ _).alloc (Nat.le_refl _) _).alloc (by simp) _
    have hc := qRaw_any A m c B l bad n1 _ (h.up (hb0.mono hB)) (Nat.le_trans hB hb0.size) hm
    generalize rdB n1 l bad = b at *
    generalize rdL n1 l bad = l' at *
    generalize rdF n1 l bad = bad' at *
    go_enter Try.func22, Try.ntmps22
    go_wp2_with fail
    go_fit hc
    rintro e w1 ⟨A1, k1, c1, A2, k2, c2, rfl, hq, hownR, hb1⟩
    have hR := Rd.own hownR
    clear hownR
    have hlk := hR.blen
    go_wp2
    have hk0 : (w1.alloc (.cells #[.slice A1 k1 c1, .bool bad'] 29)).heap[w.heap.size + 1]? = some (.cells #[.slice none 0 0, .bool false] 29) := (heap_alloc_old w1 _ (by have := hb1.size; simp at this; omega)).trans (blk_old (blk_new2 w _ _) hb1 (by simp))
    have hr0 : (w1.alloc (.cells #[.slice A1 k1 c1, .bool bad'] 29)).rangeAt w1.heap.size 0 [.slice A1 k1 c1, .bool bad'] := own_range (heap_alloc_new w1 _) 0 (fun j v hv => by simpa using hv)
    have hb2 : Below w.heap.size w (w1.alloc (.cells #[.slice A1 k1 c1, .bool bad'] 29)) := (hb0.trans (hb1.mono hb0.size)).alloc (Nat.le_trans hb0.size hb1.size) _
    have hR2 : Rd (w1.alloc (.cells #[.slice A1 k1 c1, .bool bad'] 29)) w1.heap.size 1 A2 k2 c2 (bv b) := hR.up ((Below.refl _ _).alloc (Nat.le_refl _) _)
    have hq2 : Rd (w1.alloc (.cells #[.slice A1 k1 c1, .bool bad'] 29)) B 1 A1 k1 c1 (bv l') := hq.up ((Below.refl _ _).alloc (Nat.le_trans hB (Nat.le_trans hb0.size hb1.size)) _)
    have hlt : w.heap.size + 1 < w1.heap.size := by have := hb1.size; simp at this; omega
    have hc2 := number_any A2 k2 c2 w1.heap.size b _ hR2.drew (by omega)
    generalize hW : w1.alloc (.cells #[.slice A1 k1 c1, .bool bad'] 29) = w2 at *
    generalize w1.heap.size = g at *
    clear hR hq hb1 hb0 hc hW
    refine Ord.region_ (fun w' => w'.rangeAt g 0 [.slice A1 k1 c1, .bool bad']) false [] (by kernel_rfl) (by kernel_rfl) (range_drew hr0) ?_
    replace hk0 : w2.drew.heap[w.heap.size + 1]? = _ := hk0
    replace hr0 := range_drew hr0
    replace hb2 := hb2.drew
    replace hR2 := hR2.drew
    replace hq2 := hq2.drew
    generalize w2.drew = w3 at *
    repeat (first | (refine Ord.e_p (v := ?_) rfl (by rfl) ?_ ?_; rotate_left; · (intro w2; go_simp; try with_reducible rfl)) | (refine Ord.e_u (by rfl) ?_)); (try simp only [Act.put, List.setIfInBounds_toArray, List.set_cons_zero, List.set_cons_succ])
    refine Ord.e_rowS Try.underlying29 rfl (by kernel_rfl) rfl (by simp) (fun w2 h => h) hr0 (by rfl) ?_
    (try simp only [Act.put, List.setIfInBounds_toArray, List.set_cons_zero, List.set_cons_succ])
    repeat (first | (refine Ord.e_p (v := ?_) rfl (by rfl) ?_ ?_; rotate_left; · (intro w2; go_simp; try with_reducible rfl)) | (refine Ord.e_u (by rfl) ?_)); (try simp only [Act.put, List.setIfInBounds_toArray, List.set_cons_zero, List.set_cons_succ])
    refine Ord.e_x rfl (by rfl) ?_
    go_wp2_with fail
    go_fit hc2
    rintro e w4 ⟨rfl, rfl⟩
    go_wp2_with fail
    refine Ord.Seg.go hr0 (fun h => by cases h) ?_
    (try simp only [Act.put, List.setIfInBounds_toArray, List.set_cons_zero, List.set_cons_succ])
    refine Ord.e_x rfl (by rfl) ?_
    have hk1 := blk_set (i := 0) hk0 (.slice A1 k1 c1)
    have hk2 := blk_set (i := 1) hk1 (.bool bad')
    have h1 : w3.cell? ⟨w.heap.size + 1, 0, none⟩ = some (.slice none 0 0) := blk_cell hk0 rfl
    have h2 : w3.frozen? ⟨w.heap.size + 1, 0, none⟩ = false := blk_free (i := 0) hk0
    have h3 : (w3.setCell ⟨w.heap.size + 1, 0, none⟩ (.slice A1 k1 c1)).cell? ⟨w.heap.size + 1, 1, none⟩ = some (.bool false) := blk_cell hk1 rfl
    have h4 := blk_free (i := 1) hk1
    go_wp2
    have hb4 : Below (w.heap.size + 1) w3 ((w3.setCell ⟨w.heap.size + 1, 0, none⟩ (.slice A1 k1 c1)).setCell ⟨w.heap.size + 1, 1, none⟩ (.bool bad')) := ((Below.refl _ _).setCell (p := ⟨w.heap.size + 1, 0, none⟩) (Nat.le_refl _) _).setCell (p := ⟨w.heap.size + 1, 1, none⟩) (Nat.le_refl _) _
    have hr4 : World.rangeAt ((w3.setCell ⟨w.heap.size + 1, 0, none⟩ (.slice A1 k1 c1)).setCell ⟨w.heap.size + 1, 1, none⟩ (.bool bad')) g 0 [.slice A1 k1 c1, .bool bad'] := fun j v hv => ((World.cell?_setCell_far _ _ _ _ (by simp; omega)).trans (World.cell?_setCell_far _ _ _ _ (by simp; omega))).trans (hr0 j v hv)
    have e1 := blk_cell (i := 0) (v := .slice A1 k1 c1) hk2 rfl
    have e2 := blk_cell (i := 1) (v := .bool bad') hk2 rfl
    have hb6 := hb2.trans (hb4.mono (by omega))
    have hq6 := hq2.up (hb4.mono (by omega))
    generalize ((w3.setCell ⟨w.heap.size + 1, 0, none⟩ (.slice A1 k1 c1)).setCell ⟨w.heap.size + 1, 1, none⟩ (.bool bad')) = w4 at *
    clear hk0 hk1 hk2 h1 h2 h3 h4
    refine Ord.Seg.go hr4 (fun h => by cases h) ?_
    (try simp only [Act.put, List.setIfInBounds_toArray, List.set_cons_zero, List.set_cons_succ])
    repeat (first | (refine Ord.e_p (v := ?_) rfl (by rfl) ?_ ?_; rotate_left; · (intro w2; go_simp; try with_reducible rfl)) | (refine Ord.e_u (by rfl) ?_)); (try simp only [Act.put, List.setIfInBounds_toArray, List.set_cons_zero, List.set_cons_succ])
    refine Ord.e_nil ?_
    go_wp2
    refine bodyPost_ret (v := .tuple #[.agg #[.slice A1 k1 c1, .bool bad'], .int .u64 (num b)]) (by simp [results, go_sem, e1, e2]) rfl ?_
    exact ⟨_, _, _, rfl, hq6, hb6⟩

/- I -/
theorem iV_bad {n : Int} {l : List UInt8} {bad : Bool} (h : rdF (nU n) l bad = true) : iV n l bad = 0 := by
  unfold iV
  by_cases h1 : n < 1 ∨ 8 < n
  · rw [if_pos h1]
  · rw [if_neg h1]
    rw [nU, if_neg h1] at h
    rw [h, if_pos rfl]
theorem iV_ok {n : Int} {l : List UInt8} {bad : Bool} (h : rdF (nU n) l bad = false) : ∃ k : Nat, n = k ∧ 1 ≤ k ∧ k ≤ 8 ∧ iV n l bad = sgn k (num (rdB (nU n) l bad)) ∧ num (rdB (nU n) l bad) < 256 ^ k := by
  by_cases h1 : n < 1 ∨ 8 < n
  · rw [nU, if_pos h1] at h
    simp [rdF] at h
  · obtain ⟨k, rfl⟩ : ∃ k : Nat, n = k := ⟨n.toNat, by omega⟩
    have e : nU (k : Int) = k := by rw [nU, if_neg h1]
    rw [e] at h ⊢
    refine ⟨k, rfl, by omega, by omega, ?_, ?_⟩
    · unfold iV
      rw [if_neg h1, h, if_neg (by simp)]
      rfl
    · have h3 := num_lt (rdB k l bad)
      have h4 : (rdB k l bad).length ≤ k := by unfold rdB; split <;> simp; omega
      exact Nat.lt_of_lt_of_le h3 (Nat.pow_le_pow_right (by omega) h4)
set_option maxRecDepth 10000 in
set_option maxHeartbeats 1000000 in
theorem qI_any (A : Option Addr) (m c B : Nat) (l : List UInt8) (bad : Bool) (n : Int) (w : World) (h : Rd w B 1 A m c (bv l)) (hB : B ≤ w.heap.size) (hm : m ≤ 70368744177664) :
    Calls Try.prog 24 #[.agg #[.slice A m c, .bool bad], .int .i64 n] w (RetQ w B (.int .i64 (iV n l bad)) (rdL (nU n) l bad) (rdF (nU n) l bad)) := by
  have hb0 : Below w.heap.size w ((w.alloc (.cells #[.slice A m c, .bool bad] 29)).alloc (.cells #[.slice none 0 0, .bool false] 29)) := ((Below.refl _ _).alloc (Nat.le_refl _) _).alloc (by simp) _
  have hc := qU_any A m c B l bad n _ (h.up (hb0.mono hB)) (Nat.le_trans hB hb0.size) hm
  have hv1 := @iV_bad n l bad
  have hv2 := @iV_ok n l bad
  generalize rdB (nU n) l bad = b at *
  generalize rdL (nU n) l bad = l' at *
  generalize rdF (nU n) l bad = bad' at *
  generalize iV n l bad = v at *
  have HV := Lib.hid (And.intro hv1 hv2)
  clear hv1 hv2
  go_enter Try.func24, Try.ntmps24
  go_wp2_with fail
  go_fit hc
  rintro e w1 ⟨A1, k1, c1, rfl, hq, hb1⟩
  have hk0 : (w1.alloc (.cells #[.slice A1 k1 c1, .bool bad'] 29)).heap[w.heap.size + 1]? = some (.cells #[.slice none 0 0, .bool false] 29) := (heap_alloc_old w1 _ (by have := hb1.size; simp at this; omega)).trans (blk_old (blk_new2 w _ _) hb1 (by simp))
  have hr0 : (w1.alloc (.cells #[.slice A1 k1 c1, .bool bad'] 29)).rangeAt w1.heap.size 0 [.slice A1 k1 c1, .bool bad'] := own_range (heap_alloc_new w1 _) 0 (fun j v hv => by simpa using hv)
  have hb2 : Below w.heap.size w (w1.alloc (.cells #[.slice A1 k1 c1, .bool bad'] 29)) := (hb0.trans (hb1.mono hb0.size)).alloc (Nat.le_trans hb0.size hb1.size) _
  have hq2 : Rd (w1.alloc (.cells #[.slice A1 k1 c1, .bool bad'] 29)) B 1 A1 k1 c1 (bv l') := hq.up ((Below.refl _ _).alloc (Nat.le_trans hB (Nat.le_trans hb0.size hb1.size)) _)
  have hlt : w.heap.size + 1 < w1.heap.size := by have := hb1.size; simp at this; omega
  have hkw : w1.heap[w.heap.size + 1]? = some (.cells #[.slice none 0 0, .bool false] 29) := (blk_old (blk_new2 w _ _) hb1 (by simp))
  cases hbad : bad' with
  | true =>
    subst hbad
    obtain rfl := HV.out.1 rfl
    have hk1 := blk_set (i := 0) hkw (.slice A1 k1 c1)
    have hk2 := blk_set (i := 1) hk1 (.bool true)
    have h1 : w1.cell? ⟨w.heap.size + 1, 0, none⟩ = some (.slice none 0 0) := blk_cell hkw rfl
    have h2 := blk_free (i := 0) hkw
    have h3 : (w1.setCell ⟨w.heap.size + 1, 0, none⟩ (.slice A1 k1 c1)).cell? ⟨w.heap.size + 1, 1, none⟩ = some (.bool false) := blk_cell hk1 rfl
    have h4 := blk_free (i := 1) hk1
    have hb3 : Below w.heap.size w ((w1.setCell ⟨w.heap.size + 1, 0, none⟩ (.slice A1 k1 c1)).setCell ⟨w.heap.size + 1, 1, none⟩ (.bool true)) := ((hb0.trans (hb1.mono hb0.size)).setCell (p := ⟨w.heap.size + 1, 0, none⟩) (by show w.heap.size ≤ w.heap.size + 1; omega) _).setCell (p := ⟨w.heap.size + 1, 1, none⟩) (by show w.heap.size ≤ w.heap.size + 1; omega) _
    have hk3 := (heap_alloc_old _ (Obj.cells #[.slice A1 k1 c1, .bool true] 29) (by have := blk_lt hk2; exact this)).trans hk2
    have e1 := blk_cell (i := 0) (v := .slice A1 k1 c1) hk3 rfl
    have e2 := blk_cell (i := 1) (v := .bool true) hk3 rfl
    have hq3 : Rd ((w1.setCell ⟨w.heap.size + 1, 0, none⟩ (.slice A1 k1 c1)).setCell ⟨w.heap.size + 1, 1, none⟩ (.bool true)) B 1 A1 k1 c1 (bv l') := hq.keep (fun p hp => (World.cell?_setCell_far _ _ _ _ (by simp; omega)).trans (World.cell?_setCell_far _ _ _ _ (by simp; omega)))
    have hb4 := hb3.alloc hb3.size (.cells #[.slice A1 k1 c1, .bool true] 29)
    have hq4 := hq3.up ((Below.refl _ _).alloc (o := .cells #[.slice A1 k1 c1, .bool true] 29) (Nat.le_trans hB hb3.size))
    clear hk1 hk2 hk3 hr0 hb2 hq2 hk0 hc HV hb0 hb1
    go_wp2
    refine bodyPost_ret (v := .tuple #[.agg #[.slice A1 k1 c1, .bool true], .int .i64 0]) (by simp only [results, go_sem, e1, e2]; simp [results, go_sem, e1, e2]) rfl ?_
    exact ⟨_, _, _, rfl, hq4, hb4⟩
  | false =>
    subst hbad
    obtain ⟨k, rfl, hk1, hk8, rfl, hlt2⟩ := HV.out.2 rfl
    clear HV hc
    go_wp2
    generalize hW : w1.alloc (.cells #[.slice A1 k1 c1, .bool false] 29) = w2 at *
    generalize w1.heap.size = g at *
    clear hq hb1 hb0 hW hkw
    refine Ord.region_ (fun w' => w'.rangeAt g 0 [.slice A1 k1 c1, .bool false]) false [] (by kernel_rfl) (by kernel_rfl) (range_drew hr0) ?_
    replace hk0 : w2.drew.heap[w.heap.size + 1]? = _ := hk0
    replace hr0 := range_drew hr0
    replace hb2 := hb2.drew
    replace hq2 := hq2.drew
    generalize w2.drew = w3 at *
    repeat (first | (refine Ord.e_p (v := ?_) rfl (by rfl) ?_ ?_; rotate_left; · (intro w2; go_simp; try with_reducible rfl)) | (refine Ord.e_u (by rfl) ?_)); (try simp only [Act.put, List.setIfInBounds_toArray, List.set_cons_zero, List.set_cons_succ])
    refine Ord.e_rowS Try.underlying29 rfl (by kernel_rfl) rfl (by simp) (fun w2 h => h) hr0 (by rfl) ?_
    (try simp only [Act.put, List.setIfInBounds_toArray, List.set_cons_zero, List.set_cons_succ])
    repeat (first | (refine Ord.e_p (v := ?_) rfl (by rfl) ?_ ?_; rotate_left; · (intro w2; go_simp; try with_reducible rfl)) | (refine Ord.e_u (by rfl) ?_)); (try simp only [Act.put, List.setIfInBounds_toArray, List.set_cons_zero, List.set_cons_succ])
    refine Ord.e_x rfl (by rfl) ?_
    go_wp2_with fail
    go_fit (signed_any k (num b) w3 hk1 hk8 hlt2)
    rintro e w4 ⟨rfl, rfl⟩
    go_wp2_with fail
    refine Ord.Seg.go hr0 (fun h => by cases h) ?_
    (try simp only [Act.put, List.setIfInBounds_toArray, List.set_cons_zero, List.set_cons_succ])
    refine Ord.e_x rfl (by rfl) ?_
    have hk1 := blk_set (i := 0) hk0 (.slice A1 k1 c1)
    have hk2 := blk_set (i := 1) hk1 (.bool false)
    have h1 : w3.cell? ⟨w.heap.size + 1, 0, none⟩ = some (.slice none 0 0) := blk_cell hk0 rfl
    have h2 : w3.frozen? ⟨w.heap.size + 1, 0, none⟩ = false := blk_free (i := 0) hk0
    have h3 : (w3.setCell ⟨w.heap.size + 1, 0, none⟩ (.slice A1 k1 c1)).cell? ⟨w.heap.size + 1, 1, none⟩ = some (.bool false) := blk_cell hk1 rfl
    have h4 := blk_free (i := 1) hk1
    go_wp2
    have hb4 : Below (w.heap.size + 1) w3 ((w3.setCell ⟨w.heap.size + 1, 0, none⟩ (.slice A1 k1 c1)).setCell ⟨w.heap.size + 1, 1, none⟩ (.bool false)) := ((Below.refl _ _).setCell (p := ⟨w.heap.size + 1, 0, none⟩) (Nat.le_refl _) _).setCell (p := ⟨w.heap.size + 1, 1, none⟩) (Nat.le_refl _) _
    have hr4 : World.rangeAt ((w3.setCell ⟨w.heap.size + 1, 0, none⟩ (.slice A1 k1 c1)).setCell ⟨w.heap.size + 1, 1, none⟩ (.bool false)) g 0 [.slice A1 k1 c1, .bool false] := fun j v hv => ((World.cell?_setCell_far _ _ _ _ (by simp; omega)).trans (World.cell?_setCell_far _ _ _ _ (by simp; omega))).trans (hr0 j v hv)
    have e1 := blk_cell (i := 0) (v := .slice A1 k1 c1) hk2 rfl
    have e2 := blk_cell (i := 1) (v := .bool false) hk2 rfl
    have hb6 := hb2.trans (hb4.mono (by omega))
    have hq6 := hq2.up (hb4.mono (by omega))
    generalize ((w3.setCell ⟨w.heap.size + 1, 0, none⟩ (.slice A1 k1 c1)).setCell ⟨w.heap.size + 1, 1, none⟩ (.bool false)) = w4 at *
    clear hk0 hk1 hk2 h1 h2 h3 h4
    refine Ord.Seg.go hr4 (fun h => by cases h) ?_
    (try simp only [Act.put, List.setIfInBounds_toArray, List.set_cons_zero, List.set_cons_succ])
    repeat (first | (refine Ord.e_p (v := ?_) rfl (by rfl) ?_ ?_; rotate_left; · (intro w2; go_simp; try with_reducible rfl)) | (refine Ord.e_u (by rfl) ?_)); (try simp only [Act.put, List.setIfInBounds_toArray, List.set_cons_zero, List.set_cons_succ])
    refine Ord.e_nil ?_
    go_wp2
    refine bodyPost_ret (v := .tuple #[.agg #[.slice A1 k1 c1, .bool false], .int .i64 (sgn k (num b))]) (by simp [results, go_sem, e1, e2]) rfl ?_
    exact ⟨_, _, _, rfl, hq6, hb6⟩

end Go.Proofs.Ytglfhdkknhdphaa
