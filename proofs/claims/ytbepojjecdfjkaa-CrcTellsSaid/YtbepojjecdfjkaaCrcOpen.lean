/-
  What crc.Open and its reference compute.
-/
import Derived.Test.YtbepojjecdfjkaaCrcMore
import Derived.Test.YtbepojjecdfjkaaOrder
import Derived.Deep.RegionHeld3
import Derived.Deep.QuietTactic
import Derived.BigQuiet
set_option linter.unusedSimpArgs false
set_option linter.unusedVariables false
namespace Go.Proofs.Ytbepojjecdfjkaa
open Go.RowKit CrcLaw

/-- What Open hands back: the bytes without their sum, and true; or nothing, and false. -/
def RetO (w : World) (l : List UInt8) (ok : Bool) (e : Ending) (w' : World) : Prop :=
  ∃ A c n, e = .returned (.tuple #[.slice A n c, .bool ok]) ∧ w'.ownsRow w.heap.size 5 1 (.slice A n c) n (bv l) ∧ Below w.heap.size w w'
set_option maxHeartbeats 400000 in
theorem open_short (A : Option Addr) (n c : Nat) (w : World) (hn : n < 2) : Calls Try.prog 16 #[.slice A n c] w (RetO w [] false) := by
  rcases (by omega : n = 0 ∨ n = 1) with rfl | rfl
  all_goals
    go_enter Try.func16, Try.ntmps16
    go_wp2
    go_quiet (fail)
    go_wp2
    go_ret2
    exact ⟨none, 0, 0, rfl, World.ownsRow_nil _ _ _ _, below_drewN (Below.refl _ _) _⟩
/-- The bytes that Open hands back. -/
def openL (l : List UInt8) : List UInt8 := if moreN 65535 l = 0 then l.take (l.length - 2) else []
def openB (l : List UInt8) : Bool := moreN 65535 l == 0
set_option maxHeartbeats 400000 in
theorem open_any (A : Option Addr) (m c B : Nat) (l : List UInt8) (w : World) (h : Rd w B 1 A (m + 2) c (bv l)) (hB : B ≤ w.heap.size) (hn : m ≤ 1000000) : Calls Try.prog 16 #[.slice A (m + 2) c] w (RetO w (openL l) (openB l)) := by
  have hle := h.le
  have hd : decide ((m : Int) < 0) = false := by simp
  have hm := h.max
  unfold maxLen at hm
  go_enter Try.func16, Try.ntmps16
  go_wp2
  obtain ⟨i0, hi⟩ := info_parts u8_info
  have Hl := Lib.hid h.blen
  have h0 := h.up ((Below.refl B w).drew)
  have hT : Rd w.drew B 1 A m c (bv (l.take m)) := h0.btake (by omega)
  have hD : Rd w.drew B 1 (cutA A c m 1) 2 (c - m) (bv (l.drop m)) := by
    have := h0.bdrop (k := m) (by omega)
    rwa [show m + 2 - m = 2 by omega] at this
  have hs1 := run_cut_h (P := Try.prog) Try.underlying23 hi.1 A (m + 2) c m (by omega)
  have hs2 := run_cut_l (P := Try.prog) Try.underlying23 hi.1 hi.2.2.1 A (m + 2) c m (by omega)
  rw [show m + 2 - m = 2 by omega] at hs2
  have H := of_any _ _ _ _ _ _ (RdL.lit1 (w := w.drew) (e := 23) (show B ≤ w.drew.heap.size from hB) hT) (by simp)
  simp only [World.size_alloc, List.flatten_cons, List.flatten_nil, List.append_nil] at H
  have HO := Lib.hid H
  have HD := Lib.hid hD
  have hlt := moreN_lt (l.take m) (c := 65535) (by omega)
  have hml : moreN (moreN 65535 (l.take m)) (l.drop m) = moreN 65535 l := by rw [← moreN_append, List.take_append_drop]
  have HM := Lib.hid hml
  have hz : (moreN 65535 l = 0 → openL l = l.take m ∧ openB l = true) ∧ (moreN 65535 l ≠ 0 → openL l = [] ∧ openB l = false) := by
    constructor
    · intro h0; simp [openL, openB, h0, h.blen]
    · intro h0; simp [openL, openB, h0]
  replace hz := Lib.hid hz
  clear H hT hD hml h0 hi
  generalize moreN 65535 (l.take m) = x at *
  go_region_held3 (fun _ => True) (exact trivial) (first | (go_at_call 10; go_fit HO.out; rintro e w1 ⟨rfl, hb1⟩; have hb1 := bnxa (Below.refl w.drew.heap.size w.drew) hb1) | (go_at_call 9; go_fit (more_any x (cutA A c m 1) 2 (c - m) B (l.drop m) w1 hlt (HD.out.up (hb1.mono hB)) (Nat.le_trans hB hb1.size)); rintro e w2 ⟨rfl, hb2⟩; have hb2 := bnx hb1 hb2; rw [HM.out]))
  generalize moreN 65535 l = y at *
  by_cases hy : y = 0
  · have Hr := Lib.hid (hz.out.1 hy)
    have hy' : ((y : Int) != 0) = false := by simp [hy]
    clear hy
    have hc := clone_any A m c B (l.take m) w2 ((h.up ((Below.refl B w).drew.trans (hb2.mono hB))).btake (by omega)) (Nat.le_trans hB hb2.size) (by omega)
    go_wp2_with fail
    go_fit hc
    rintro e w3 hret
    obtain ⟨A3, c3, n3, rfl, hown3, hb3⟩ := hret.back ((Below.refl w.heap.size w).drew.trans hb2)
    clear hret
    go_wp2
    go_ret2
    exact ⟨A3, c3, n3, by rw [Hr.out.2]; rfl, by rw [Hr.out.1]; exact hown3, hb3⟩
  · have Hr := Lib.hid (hz.out.2 hy)
    have hy' : ((y : Int) != 0) = true := by simp [hy]
    clear hy
    go_wp2
    go_ret2
    exact ⟨none, 0, 0, by rw [Hr.out.2]; rfl, by rw [Hr.out.1]; exact World.ownsRow_nil _ _ _ _, (Below.refl w.heap.size w).drew.trans hb2⟩

theorem seal_iff {l : List UInt8} {m : Nat} (h : l.length = m + 2) : l.take m ++ tailN (l.take m) = l ↔ moreN 65535 l = 0 := by
  have hlt := moreN_lt (l.take m) (c := 65535) (by omega)
  have e : moreN 65535 l = moreN (moreN 65535 (l.take m)) (l.drop m) := by rw [← moreN_append, List.take_append_drop]
  have hd : (l.drop m).length = 2 := by simp; omega
  constructor
  · intro hs
    have h1 : tailN (l.take m) = l.drop m := by
      have : l.take m ++ tailN (l.take m) = l.take m ++ l.drop m := by rw [hs, List.take_append_drop]
      exact List.append_cancel_left this
    rw [e, ← h1]
    exact seal_zero hlt
  · intro h0
    rw [e] at h0
    match hx : l.drop m, hd with
    | [x, y], _ =>
      rw [hx] at h0
      obtain ⟨h1, h2⟩ := zero_seal hlt x y h0
      have : tailN (l.take m) = l.drop m := by rw [hx, h1, h2]; rfl
      rw [this, List.take_append_drop]
set_option maxHeartbeats 400000 in
theorem ropen_short (A : Option Addr) (n c : Nat) (w : World) (hn : n < 2) : Calls Try.prog 17 #[.slice A n c] w (RetO w [] false) := by
  rcases (by omega : n = 0 ∨ n = 1) with rfl | rfl
  all_goals
    go_enter Try.func17, Try.ntmps17
    go_wp2
    go_quiet (fail)
    go_wp2
    go_ret2
    exact ⟨none, 0, 0, rfl, World.ownsRow_nil _ _ _ _, below_drewN (Below.refl _ _) _⟩
set_option maxHeartbeats 400000 in
theorem ropen_any (A : Option Addr) (m c B : Nat) (l : List UInt8) (w : World) (h : Rd w B 1 A (m + 2) c (bv l)) (hB : B ≤ w.heap.size) (hn : m ≤ 1000000) : Calls Try.prog 17 #[.slice A (m + 2) c] w (RetO w (openL l) (openB l)) := by
  have hle := h.le
  have hd : decide ((m : Int) < 0) = false := by simp
  have hm := h.max
  unfold maxLen at hm
  go_enter Try.func17, Try.ntmps17
  go_wp2
  obtain ⟨i0, hi⟩ := info_parts u8_info
  have Hi := Lib.hid hi
  have h0 := h.up ((Below.refl B w).drew)
  have hT : Rd w.drew B 1 A m c (bv (l.take m)) := h0.btake (by omega)
  have hs1 := run_cut_h (P := Try.prog) Try.underlying23 hi.1 A (m + 2) c m (by omega)
  have HS := Lib.hid (rseal_any A m c B (l.take m) w.drew hT hB (by omega))
  have hcv : ∀ w', Below w.heap.size w w' → (convert 23 9 (.slice A (m + 2) c)).run Try.prog w' = .ok (.string ⟨l.toArray⟩) w' := fun w' hb => run_str w' _ _ 5 Try.underlying23 Try.underlying5 Try.underlying9 (h.up (hb.mono hB))
  have hz : (moreN 65535 l = 0 → openL l = l.take m ∧ openB l = true) ∧ (moreN 65535 l ≠ 0 → openL l = [] ∧ openB l = false) := by
    constructor
    · intro h0; simp [openL, openB, h0, h.blen]
    · intro h0; simp [openL, openB, h0]
  replace hz := Lib.hid hz
  have hq := Lib.hid (seal_iff h.blen)
  clear hT h0 hi
  refine Ord.region_at [0, 1, 2, 3, 4, 5, 8, 9, 6, 7, 10, 11] true (by kernel_rfl) (by kernel_rfl) rfl ?_
  simp only [Ord.lst, List.filterMap_cons, List.filterMap_nil, List.getElem?_toArray, List.getElem?_cons_succ, List.getElem?_cons_zero]
  repeat (first | (refine Ord.e_p (v := ?_) rfl (by rfl) ?_ ?_; rotate_left; · (intro w2; go_simp; try with_reducible rfl)) | (refine Ord.e_u (by rfl) ?_)); (try simp only [Act.put, List.setIfInBounds_toArray, List.set_cons_zero, List.set_cons_succ])
  refine Ord.e_str Try.underlying23 Try.underlying5 Try.underlying9 ((h.up (Below.refl B w).drew).more (show B ≤ w.drew.heap.size from hB)) rfl (by rfl) ?_
  (try simp only [Act.put, List.setIfInBounds_toArray, List.set_cons_zero, List.set_cons_succ])
  refine Ord.e_x rfl (by rfl) ?_
  go_wp2_with fail
  go_fit HS.out
  rintro e w1 ⟨A1, c1, n1, rfl, hown1, hb1⟩
  go_wp2_with fail
  refine Ord.Seg.go (fun _ => hb1) ?_
  (try simp only [Act.put, List.setIfInBounds_toArray, List.set_cons_zero, List.set_cons_succ])
  refine Ord.e_str Try.underlying23 Try.underlying5 Try.underlying9 (Rd.own hown1) rfl (by rfl) ?_
  (try simp only [Act.put, List.setIfInBounds_toArray, List.set_cons_zero, List.set_cons_succ])
  have hb2 : Below w.heap.size w w1 := ((Below.refl _ _).drew).trans hb1
  have hbe : (List.take m l ++ tailN (List.take m l) == l) = true ∨ (List.take m l ++ tailN (List.take m l) == l) = false := by cases (List.take m l ++ tailN (List.take m l) == l) <;> simp
  clear HS hb1 hown1 hcv
  have Hx := Lib.hid hbe
  clear hbe
  generalize hgx : (List.take m l ++ tailN (List.take m l)) = X at *
  have Hg := Lib.hid hgx
  clear hgx
  rcases Hx.out with hx | hx
  · have hy : X = l := by simpa using hx
    have Hr := Lib.hid (hz.out.1 (hq.out.1 hy))
    clear hy
    repeat (first | (refine Ord.e_p (v := ?_) rfl (by rfl) ?_ ?_; rotate_left; · (intro w2; go_simp; try with_reducible rfl)) | (refine Ord.e_u (by rfl) ?_)); (try simp only [Act.put, List.setIfInBounds_toArray, List.set_cons_zero, List.set_cons_succ])
    refine Ord.e_nil ?_
    go_wp2_with (at_builtin; refine stop_ ?_)
    refine go_ (wpList_app (base := w.heap.size) (n := 0) (xs := []) Try.underlying23 Hi.out rfl (by omega) (own_empty _ _ _ hb2.size 1) rfl ((h.up ((hb2.mono hB).alloc (Nat.le_trans hB hb2.size) _)).btake (k := m) (by omega)) rfl (bv_one _) (Nat.zero_add _) (List.nil_append _) (by unfold maxLen; omega) (by omega) (by have := hb2.size; simp; omega) ?_)
    intro A3 c3 w3 hown3 hup3
    have hb3 : Below w.heap.size w w3 := hup3 (hb2.alloc hb2.size _) (by have := hb2.size; simp; omega) (Nat.le_refl _)
    go_wp2
    go_ret2
    exact ⟨A3, c3, m, by rw [Hr.out.2]; rfl, by rw [Hr.out.1]; exact hown3, hb3⟩
  · have hy : X ≠ l := by simpa using hx
    have Hr := Lib.hid (hz.out.2 (fun h0 => hy (hq.out.2 h0)))
    clear hy
    repeat (first | (refine Ord.e_p (v := ?_) rfl (by rfl) ?_ ?_; rotate_left; · (intro w2; go_simp; try with_reducible rfl)) | (refine Ord.e_u (by rfl) ?_)); (try simp only [Act.put, List.setIfInBounds_toArray, List.set_cons_zero, List.set_cons_succ])
    refine Ord.e_nil ?_
    go_wp2
    go_ret2
    exact ⟨none, 0, 0, by rw [Hr.out.2]; rfl, by rw [Hr.out.1]; exact World.ownsRow_nil _ _ _ _, hb2⟩

end Go.Proofs.Ytbepojjecdfjkaa
