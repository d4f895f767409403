/-
  Several texts in one: FldRow ShRef1 ShRef2 OctRefW ShRef3 ShRef4 ShRef5 ShTells.
-/
import Derived.Test.YtonejdjhdjckjaaKGE
import Derived.Test.YtonejdjhdjckjaaKGC
import Derived.Test.YtonejdjhdjckjaaKGA
import Derived.Deep.QuietTactic
import Derived.BigQuiet
/-
  Rows of fields that a call lays or appends: how they read. What a single field's literal is; the plain values of shape.Any, U, I at known numbers.
-/
set_option linter.unusedSimpArgs false
set_option linter.unusedVariables false
namespace Go.Proofs.Ytonejdjhdjckjaa
open Go.RowKit NumLaw

def f4 (f : FieldV) : List Value := [.int .i64 f.size, .bool f.sg, .int .i64 f.lo, .int .i64 f.hi]
def fcs (l : List FieldV) : List Value := l.flatMap f4
theorem fcs_app (a b : List FieldV) : fcs (a ++ b) = fcs a ++ fcs b := by simp [fcs]
theorem fcs_one (l : List FieldV) : ∀ u ∈ fcs l, u.oneCell' = true := by
  intro u hu
  obtain ⟨f, _, h⟩ := List.mem_flatMap.1 hu
  simp [f4] at h
  rcases h with rfl | rfl | rfl | rfl <;> rfl
theorem fcs_at : ∀ (l : List FieldV) (k j : Nat) (f : FieldV), l[k]? = some f → j < 4 → (fcs l)[k * 4 + j]? = (f4 f)[j]?
  | [], _, _, _, h, _ => by simp at h
  | g :: l, 0, j, f, h, hj => by
    simp at h; subst h
    have : j < (f4 g).length := by simpa [f4] using hj
    simp only [fcs, List.flatMap_cons, Nat.zero_mul, Nat.zero_add]
    rw [List.getElem?_append_left this]
  | g :: l, k + 1, j, f, h, hj => by
    have := fcs_at l k j f (by simpa using h) hj
    have e : (f4 g).length = 4 := rfl
    rw [← this]
    show (f4 g ++ fcs l)[(k + 1) * 4 + j]? = _
    rw [List.getElem?_append_right (by omega), e, show (k + 1) * 4 + j - 4 = k * 4 + j by omega]
theorem fcs_len (l : List FieldV) : (fcs l).length = l.length * 4 := by
  induction l with
  | nil => rfl
  | cons f l ih => show (f4 f ++ fcs l).length = _; rw [List.length_append, ih]; simp [f4]; omega
def FB (l : List FieldV) : Prop := ∀ f ∈ l, (-9223372036854775808 ≤ f.size ∧ f.size ≤ 9223372036854775807) ∧ (-9223372036854775808 ≤ f.lo ∧ f.lo ≤ 9223372036854775807) ∧ (-9223372036854775808 ≤ f.hi ∧ f.hi ≤ 9223372036854775807)
theorem rdF_cells {w : World} {g off B n c : Nat} {l : List FieldV} (hn : l.length = n) (hc : n ≤ c) (hm : c ≤ maxLen) (hg : g < B) (h : ∀ j u, (fcs l)[j]? = some u → w.cell? ⟨g, off + j, none⟩ = some u) (hb : FB l) : RdF w B (some ⟨g, off, none⟩) n c l :=
  ⟨hn, hc, hm, fun _ => ⟨g, off, rfl, hg, fun k f hk => by
    have e := fun j (hj : j < 4) => h (k * 4 + j) ((f4 f)[j]'(by simpa [f4] using hj)) (by rw [fcs_at l k j f hk hj, List.getElem?_eq_getElem])
    refine ⟨?_, ?_, ?_, ?_, hb f (List.mem_of_getElem? hk)⟩
    · exact e 0 (by omega)
    · have := e 1 (by omega); rwa [show off + (k * 4 + 1) = off + k * 4 + 1 by omega] at this
    · have := e 2 (by omega); rwa [show off + (k * 4 + 2) = off + k * 4 + 2 by omega] at this
    · have := e 3 (by omega); rwa [show off + (k * 4 + 3) = off + k * 4 + 3 by omega] at this⟩⟩
/-- A row of fields of the call's own. -/
theorem rdF_own {w : World} {base : Nat} {e : TypeId} {n c : Nat} {A : Option Addr} {l : List FieldV} (h : w.ownsRow base e 4 (.slice A n c) n (fcs l)) (hb : FB l) : RdF w w.heap.size A n c l := by
  have hl : l.length = n := by have := h.1; rw [fcs_len] at this; omega
  rcases h.2 with ⟨hv, h0⟩ | ⟨g, cap, cur, hv, hg, hh, h1, h2, h3, h4⟩
  · injection hv with e1 e2 e3
    subst e1; subst e2; subst e3
    exact ⟨hl, Nat.le_refl _, Nat.zero_le _, fun h => absurd h (Nat.lt_irrefl _)⟩
  · have hcell := h.cells (g := g) (by rw [hv]; rfl)
    injection hv with e1 e2 e3
    subst e1; subst e3
    refine rdF_cells hl h1 h2 (blk_lt hh) (fun j u hu => ?_) hb
    have := hcell j u hu
    rwa [show (⟨g, 0, none⟩ : Addr).add j = ⟨g, 0 + j, none⟩ by unfold Addr.add; split <;> simp_all] at this
/-- A literal's row. -/
theorem rdF_lit (w : World) (e : TypeId) (l : List FieldV) (cs : Array Value) (hcs : cs = (fcs l).toArray) (hm : l.length ≤ maxLen) (hb : FB l) : RdF (w.alloc (.cells cs e)) (w.heap.size + 1) (some ⟨w.heap.size, 0, none⟩) l.length l.length l := by
  subst hcs
  refine rdF_cells rfl (Nat.le_refl _) hm (Nat.lt_succ_self _) (fun j u hu => ?_) hb
  rw [World.cell?, show (⟨w.heap.size, 0 + j, none⟩ : Addr).block = w.heap.size from rfl, heap_alloc_new w _]
  simpa using hu
theorem rd_litF (w : World) (e : TypeId) (l : List FieldV) (cs : Array Value) (hcs : cs = (fcs l).toArray) (hm : l.length ≤ maxLen) : Rd (w.alloc (.cells cs e)) (w.heap.size + 1) 4 (some ⟨w.heap.size, 0, none⟩) l.length l.length (fcs l) := by
  subst hcs
  refine ⟨fcs_len l, Nat.le_refl _, hm, fun _ => ⟨_, rfl, Nat.lt_succ_self _, fun j u hu => ?_⟩⟩
  have e1 : (⟨w.heap.size, 0, none⟩ : Addr).add j = ⟨w.heap.size, j, none⟩ := by unfold Addr.add; split <;> simp_all
  rw [e1, World.cell?, show (⟨w.heap.size, j, none⟩ : Addr).block = w.heap.size from rfl, heap_alloc_new w _]
  simpa using hu
theorem own_litF (w : World) (base : Nat) (e : TypeId) (l : List FieldV) (cs : Array Value) (hcs : cs = (fcs l).toArray) (hB : base ≤ w.heap.size) (hm : l.length ≤ maxLen) : (w.alloc (.cells cs e)).ownsRow base e 4 (.slice (some ⟨w.heap.size, 0, none⟩) l.length l.length) l.length (fcs l) := by
  subst hcs
  exact ⟨fcs_len l, .inr ⟨w.heap.size, l.length, _, rfl, hB, heap_alloc_new w _, Nat.le_refl _, hm, by simp [fcs_len], by show List.take _ (fcs l) = _; exact List.take_of_length_le (by rw [fcs_len]; exact Nat.le_refl _)⟩⟩
theorem field_info : (Try.prog.info? 99).map (fun i => (i.zero, i.size, i.bytes)) = some (some (.agg #[.int .i64 0, .bool false, .int .i64 0, .int .i64 0]), 4, 32) := by kernel_rfl
/-- A function that lays a row of fields: the row reads, in new memory. -/
def RetF (l : List FieldV) (w : World) (e : Ending) (w' : World) : Prop :=
  ∃ A n c, e = .returned (.slice A n c) ∧ n ≤ 1000 ∧ RdF w' w'.heap.size A n c l ∧ Below w.heap.size w w'

end Go.Proofs.Ytonejdjhdjckjaa

/-
  The document's shapes: Most, Any, U, I, room, Right, Width walked.
-/
set_option linter.unusedSimpArgs false
set_option linter.unusedVariables false
namespace Go.Proofs.Ytonejdjhdjckjaa
open Go.RowKit NumLaw
attribute [local go_sem] Addr.add_mid

def mostF (n : Int) (sg : Bool) : Int := if n = 8 then 9223372036854775807 else if sg = true then 128 * 256 ^ (n.toNat - 1) - 1 else 2 * (128 * 256 ^ (n.toNat - 1)) - 1
theorem pow_le5 {k : Nat} (h : k ≤ 5) : 128 * 256 ^ k ≤ 140737488355328 := by
  have := Nat.pow_le_pow_right (n := 256) (by omega) h
  have h4 : (256 : Nat) ^ 5 = 1099511627776 := by decide
  omega
theorem pow_le6 {k : Nat} (h : k ≤ 6) : 128 * 256 ^ k ≤ 36028797018963968 := by
  have := Nat.pow_le_pow_right (n := 256) (by omega) h
  have h4 : (256 : Nat) ^ 6 = 281474976710656 := by decide
  omega
set_option maxHeartbeats 1000000 in
theorem qMost_any (n : Int) (sg : Bool) (w : World) (h : fitsF n = true) :
    Calls Try.prog 119 #[.int .i64 n, .bool sg] w fun e w' => e = .returned (.int .i64 (mostF n sg)) ∧ w = w' := by
  have hb := of_decide_eq_true h
  obtain ⟨n, rfl⟩ : ∃ k : Nat, n = k := ⟨n.toNat, by omega⟩
  by_cases h8 : n = 8
  · subst h8
    go_enter Try.func119, Try.ntmps119
    go_wp2
    go_ret
    exact ⟨rfl, rfl⟩
  · have h8' : ¬ (n : Int) = 8 := by omega
    obtain ⟨D, hD⟩ : ∃ D, D = 128 * 256 ^ (n - 1) := ⟨_, rfl⟩
    have hDb : D ≤ 36028797018963968 := by rw [hD]; exact pow_le6 (by omega)
    have hm : mostF n sg = if sg = true then (D : Int) - 1 else 2 * (D : Int) - 1 := by
      unfold mostF
      rw [if_neg h8', hD]
      simp
    rw [hm]
    have HD := Lib.hid hD
    clear hD hm h
    go_enter Try.func119, Try.ntmps119
    go_wp2_with fail
    go_loop [5, 6] (fun h i => ∃ k : Nat, 1 ≤ k ∧ k ≤ n ∧ i = .int .i64 k ∧ h = .int .i64 ((128 * 256 ^ (k - 1) : Nat) : Int)) (fun _ i => n - (intOf i).toNat)
    case atStart => exact ⟨1, by omega, by omega, rfl, rfl⟩
    case round =>
      obtain ⟨k, hk1, hk, rfl, rfl⟩ := hrel
      by_cases hlt : k < n
      · have hdb := pow_le5 (k := k - 1) (by omega)
        have e : 128 * 256 ^ (k - 1) * 256 = 128 * 256 ^ (k + 1 - 1) := by
          obtain ⟨j, rfl⟩ : ∃ j, k = j + 1 := ⟨k - 1, by omega⟩
          simp only [Nat.add_sub_cancel, Nat.pow_succ]; omega
        have Hs := Lib.hid e
        clear e
        generalize 128 * 256 ^ (k - 1) = d at *
        go_wp2
        go_round
        case rel => exact ⟨k + 1, by omega, by omega, by go_num, val_int (by rw [← Hs.out]; omega)⟩
        case measure => simp [intOf]; omega
      · obtain rfl : k = n := by omega
        rw [← HD.out]
        cases sg with
        | true =>
          go_wp2
          go_ret
          exact ⟨ret_int (by simp), rfl⟩
        | false =>
          go_wp2
          go_ret
          exact ⟨ret_int (by simp), rfl⟩
set_option maxRecDepth 10000 in
set_option maxHeartbeats 4000000 in
theorem qAny14_any (n : Int) (sg : Bool) (w : World) : Calls Try.prog 92 #[.int .i64 n, .bool sg] w fun e w' => e = .returned (fv (anyF n sg)) ∧ Below w.heap.size w w' := by
  have hb1 : ∀ o1, Below w.heap.size w (w.alloc o1) := fun o1 => (Below.refl _ _).alloc (Nat.le_refl _) _
  have hb2 : ∀ o1 o2, Below w.heap.size w ((w.alloc o1).alloc o2) := fun o1 o2 => (hb1 o1).alloc (hb1 o1).size _
  have Hb1 := Lib.hid hb1
  have Hb2 := Lib.hid hb2
  clear hb1 hb2
  cases hf : fitsF n with
  | false =>
    have hn := of_decide_eq_false hf
    rw [show anyF n sg = ⟨0, false, 0, 0⟩ by unfold anyF; rw [hf]; rfl]
    clear hf
    rcases (by omega : n < 1 ∨ (¬ n < 1 ∧ 8 < n)) with h1 | ⟨h1, h2⟩
    all_goals
      clear hn
      go_enter Try.func92, Try.ntmps92
      go_wp2
      refine bodyPost_ret (v := .agg #[.int .i64 0, .bool false, .int .i64 0, .int .i64 0]) (by simp [results, go_sem]) rfl ⟨rfl, ?_⟩
      exact Hb1.out _
  | true =>
    rcases fits_cases hf with rfl | rfl | rfl | rfl | rfl | rfl | rfl | rfl
    all_goals cases sg
    all_goals
      go_enter Try.func92, Try.ntmps92
      go_wp2_with fail
      go_fit (qMost_any _ _ _ hf)
      rintro e w1 ⟨rfl, rfl⟩
      simp only [show mostF 1 true = 127 from rfl, show mostF 1 false = 255 from rfl, show mostF 2 true = 32767 from rfl, show mostF 2 false = 65535 from rfl, show mostF 3 true = 8388607 from rfl, show mostF 3 false = 16777215 from rfl, show mostF 4 true = 2147483647 from rfl, show mostF 4 false = 4294967295 from rfl, show mostF 5 true = 549755813887 from rfl, show mostF 5 false = 1099511627775 from rfl, show mostF 6 true = 140737488355327 from rfl, show mostF 6 false = 281474976710655 from rfl, show mostF 7 true = 36028797018963967 from rfl, show mostF 7 false = 72057594037927935 from rfl, show mostF 8 true = 9223372036854775807 from rfl, show mostF 8 false = 9223372036854775807 from rfl]
      go_wp2
    all_goals
      refine bodyPost_ret (v := fv (anyF _ _)) (by simp [results, go_sem, fv, anyF, fitsF] <;> first | rfl | decide) rfl ⟨rfl, ?_⟩
      exact Hb2.out _ _
end Go.Proofs.Ytonejdjhdjckjaa

/-
  The document's shapes: room, Right, Width walked; the law ShapeFields walked.
-/
set_option linter.unusedSimpArgs false
set_option linter.unusedVariables false
namespace Go.Proofs.Ytonejdjhdjckjaa
open Go.RowKit NumLaw
attribute [local go_sem] Addr.add_mid

set_option maxRecDepth 10000 in
set_option maxHeartbeats 2000000 in
theorem qroom_any (f : FieldV) (n : Int) (w : World) : Calls Try.prog 118 #[fv f, .int .i64 n] w fun e w' => e = .returned (.bool (inF (anyF f.size f.sg) n)) ∧ Below w.heap.size w w' := by
  have hany := fun w => qAny14_any f.size f.sg w
  obtain ⟨a0, a1, a2, a3, ha⟩ : ∃ a0 a1 a2 a3, anyF f.size f.sg = ⟨a0, a1, a2, a3⟩ := ⟨_, _, _, _, rfl⟩
  rw [ha] at hany ⊢
  clear ha
  obtain ⟨size, sg, lo, hi⟩ := f
  have hbx : Below w.heap.size w (w.alloc (.cells #[.int .i64 size, .bool sg, .int .i64 lo, .int .i64 hi] 99)) := (Below.refl _ _).alloc (Nat.le_refl _) _
  unfold fv inF at *
  simp only at hany
  have Hany := Lib.hid hany
  clear hany
  rcases (by omega : n < a2 ∨ (a2 ≤ n ∧ n ≤ a3) ∨ (a2 ≤ n ∧ a3 < n)) with h | ⟨h1, h2⟩ | ⟨h1, h2⟩
  all_goals
    go_enter Try.func118, Try.ntmps118
    go_wp2_with fail
    go_fit (Hany.out _)
    rintro e w1 ⟨rfl, hb1⟩
    have hb1' := bnx hbx hb1
    have hy := heap_alloc_new w1 (.cells #[.int .i64 a0, .bool a1, .int .i64 a2, .int .i64 a3] 99)
    have hb2 := hb1'.alloc hb1'.size (.cells #[.int .i64 a0, .bool a1, .int .i64 a2, .int .i64 a3] 99)
    have d2 := blk_cell (i := 2) (v := .int .i64 a2) hy rfl
    have d3 := blk_cell (i := 3) (v := .int .i64 a3) hy rfl
    clear hy hb1 hb1'
    go_wp2
    go_ret
    refine ⟨?_, hb2⟩
    simp
    try omega

set_option maxRecDepth 10000 in
set_option maxHeartbeats 4000000 in
theorem qRight_any (A : Option Addr) (n c B : Nat) (l : List FieldV) (w : World) (h : RdF w B A n c l) (hB : B ≤ w.heap.size) :
    Calls Try.prog 90 #[.slice A n c] w fun e w' => e = .returned (.bool (rightL l)) ∧ Below w.heap.size w w' := by
  have hle := h.2.1
  have hm := h.2.2.1
  have Hl := Lib.hid h.1
  unfold maxLen at hm
  obtain ⟨r, hr⟩ : ∃ r, r = rightL l := ⟨_, rfl⟩
  rw [← hr]
  have HR := Lib.hid hr
  clear hr
  go_enter Try.func90, Try.ntmps90
  go_wp2_with fail
  go_loopw [3] (fun i wr => ∃ (k : Nat), k ≤ n ∧ i = .int .i64 k ∧ Below w.heap.size w wr ∧ Hid (rightL (l.take k) = true)) (fun i _ => n - (intOf i).toNat)
  case atStart => exact ⟨0, by omega, rfl, Below.refl _ _, Lib.hid rfl⟩
  case round =>
    obtain ⟨k, hk, rfl, hb, hall⟩ := hrel
    by_cases hlt : k < n
    · obtain ⟨g, off, f, rfl, hg, hx, h1, h2, h3, h4, _⟩ := (h.up (hb.mono hB)).at_ hlt
      have Hs : Hid (rightL (l.take (k + 1)) = rightF f) := Lib.hid (by have h0 := hall.out; unfold rightL at h0 ⊢; rw [take_succ hx, List.all_append, h0]; simp)
      have Hm : Hid (rightF f = false → r = false) := Lib.hid (fun hb => by
        rw [HR.out]
        unfold rightL
        rw [List.all_eq_false]
        exact ⟨f, List.mem_of_getElem? hx, by rw [hb]; simp⟩)
      have hlo := fun w => qroom_any f f.lo w
      have hhi := fun w => qroom_any f f.hi w
      obtain ⟨b3, hb3⟩ : ∃ b3, b3 = inF (anyF f.size f.sg) f.lo := ⟨_, rfl⟩
      obtain ⟨b4, hb4⟩ : ∃ b4, b4 = inF (anyF f.size f.sg) f.hi := ⟨_, rfl⟩
      rw [← hb3] at hlo
      rw [← hb4] at hhi
      have HE : Hid (rightF f = (fitsF f.size && decide (f.lo ≤ f.hi) && b3 && b4)) := Lib.hid (by unfold rightF; rw [hb3, hb4])
      clear hb3 hb4
      obtain ⟨size, sg, lo, hi⟩ := f
      simp only at h1 h2 h3 h4 hlo hhi HE
      unfold fv at hlo hhi
      simp only at hlo hhi
      have Hlo := Lib.hid hlo
      have Hhi := Lib.hid hhi
      clear hlo hhi hx
      obtain ⟨rf, hrf⟩ : ∃ rf, rf = rightF ⟨size, sg, lo, hi⟩ := ⟨_, rfl⟩
      rw [← hrf] at Hs Hm HE
      clear hrf
      have hb2 := hb.alloc hb.size (.cells #[.int .i64 size, .bool sg, .int .i64 lo, .int .i64 hi] 99)
      have hbox := heap_alloc_new wr (.cells #[.int .i64 size, .bool sg, .int .i64 lo, .int .i64 hi] 99)
      have c0 := blk_cell (i := 0) (v := .int .i64 size) hbox rfl
      have c1 := blk_cell (i := 1) (v := .bool sg) hbox rfl
      have c2 := blk_cell (i := 2) (v := .int .i64 lo) hbox rfl
      have c3 := blk_cell (i := 3) (v := .int .i64 hi) hbox rfl
      rcases (by omega : size < 1 ∨ (¬ size < 1 ∧ 8 < size) ∨ (¬ size < 1 ∧ ¬ 8 < size ∧ hi < lo) ∨ (¬ size < 1 ∧ ¬ 8 < size ∧ ¬ hi < lo)) with g1 | ⟨g1, g2⟩ | ⟨g1, g2, g3⟩ | ⟨g1, g2, g3⟩
      · obtain rfl : rf = false := by rw [HE.out, show fitsF size = false from decide_eq_false (by omega)]; rfl
        obtain rfl : r = false := Hm.out rfl
        clear Hs HE Hm
        go_wp2
        go_ret
        exact ⟨rfl, hb2⟩
      · obtain rfl : rf = false := by rw [HE.out, show fitsF size = false from decide_eq_false (by omega)]; rfl
        obtain rfl : r = false := Hm.out rfl
        clear Hs HE Hm
        go_wp2
        go_ret
        exact ⟨rfl, hb2⟩
      · obtain rfl : rf = false := by rw [HE.out, decide_eq_false (show ¬ lo ≤ hi by omega)]; simp
        obtain rfl : r = false := Hm.out rfl
        clear Hs HE Hm
        go_wp2
        go_ret
        exact ⟨rfl, hb2⟩
      · have HE2 : Hid (rf = (b3 && b4)) := Lib.hid (by rw [HE.out, show fitsF size = true from decide_eq_true (by omega), decide_eq_true (show lo ≤ hi by omega)]; simp)
        clear HE
        go_wp2_with fail
        go_fit (Hlo.out _)
        rintro e w3 ⟨rfl, hb23⟩
        have hb3 := bnx hb2 hb23
        have hbox3 := blk_old hbox hb23 (blk_lt hbox)
        clear c0 c1 c2 c3 hbox hb2 hb23
        have c0 := blk_cell (i := 0) (v := .int .i64 size) hbox3 rfl
        have c1 := blk_cell (i := 1) (v := .bool sg) hbox3 rfl
        have c2 := blk_cell (i := 2) (v := .int .i64 lo) hbox3 rfl
        have c3 := blk_cell (i := 3) (v := .int .i64 hi) hbox3 rfl
        cases b3 with
        | false =>
          obtain rfl : rf = false := HE2.out
          obtain rfl : r = false := Hm.out rfl
          clear Hs HE2 Hm
          go_wp2
          go_ret
          exact ⟨rfl, hb3⟩
        | true =>
          obtain rfl : rf = b4 := by rw [HE2.out]; rfl
          go_wp2_with fail
          go_fit (Hhi.out _)
          rintro e w4 ⟨rfl, hb34⟩
          have hb4 := bnx hb3 hb34
          cases rf with
          | false =>
            obtain rfl : r = false := Hm.out rfl
            clear Hs HE2 Hm
            go_wp2
            go_ret
            exact ⟨rfl, hb4⟩
          | true =>
            clear HE2 Hm
            go_wp2
            go_roundw
            case rel => exact ⟨k + 1, by omega, by go_num, hb4, Hs⟩
            case measure => simp [intOf]; omega
    · obtain rfl : k = n := by omega
      have ht : l.take k = l := List.take_of_length_le (by rw [Hl.out]; omega)
      rw [ht] at hall
      obtain rfl : r = true := by rw [HR.out]; exact hall.out
      go_wp2
      go_ret
      exact ⟨rfl, hb⟩

set_option maxRecDepth 10000 in
set_option maxHeartbeats 1000000 in
theorem qWidth_any (A : Option Addr) (n c B : Nat) (l : List FieldV) (w : World) (h : RdF w B A n c l) (hB : B ≤ w.heap.size) (hn : n ≤ 100000) :
    Calls Try.prog 95 #[.slice A n c] w fun e w' => e = .returned (.int .i64 (widthL l : Int)) ∧ Below w.heap.size w w' := by
  have hle := h.2.1
  have Hl := Lib.hid h.1
  have hright := qRight_any A n c B l w h hB
  cases hr : rightL l with
  | false =>
    rw [hr] at hright
    rw [show widthL l = 0 by unfold widthL; rw [hr]; rfl]
    clear hr
    go_enter Try.func95, Try.ntmps95
    go_wp2_with fail
    go_fit hright
    rintro e w1 ⟨rfl, hb1⟩
    go_wp2
    go_ret
    exact ⟨rfl, hb1⟩
  | true =>
    have Hr := Lib.hid hr
    rw [hr] at hright
    obtain ⟨tot, htot⟩ : ∃ tot, tot = widthL l := ⟨_, rfl⟩
    rw [← htot]
    have Ht : Hid (tot = sumL l) := Lib.hid (by rw [htot]; unfold widthL; rw [hr]; rfl)
    clear hr htot
    go_enter Try.func95, Try.ntmps95
    go_wp2_with fail
    go_fit hright
    rintro e w1 ⟨rfl, hb1⟩
    go_wp2_with fail
    go_loopw [3, 4] (fun s i wr => ∃ (k : Nat), k ≤ n ∧ i = .int .i64 k ∧ s = .int .i64 (sumL (l.take k) : Int) ∧ Below w.heap.size w wr) (fun _ i _ => n - (intOf i).toNat)
    case atStart => exact ⟨0, by omega, rfl, rfl, hb1⟩
    case round =>
      clear hb1 w1
      obtain ⟨k, hk, rfl, rfl, hb⟩ := hrel
      by_cases hlt : k < n
      · obtain ⟨g, off, f, rfl, hg, hx, h1, h2, h3, h4, _⟩ := (h.up (hb.mono hB)).at_ hlt
        have hfit := right_fits (List.all_eq_true.1 Hr.out _ (List.mem_of_getElem? hx))
        have hs := sumL_step hx
        have hle1 := sumL_take Hr.out k
        obtain ⟨size, sg, lo, hi⟩ := f
        simp only at h1 h2 h3 h4 hfit hs
        obtain ⟨sz, rfl⟩ : ∃ sz : Nat, size = sz := ⟨size.toNat, by omega⟩
        rw [Int.toNat_natCast] at hs
        have Hs := Lib.hid hs
        clear hs hx
        generalize sumL (l.take k) = s0 at *
        go_wp2
        go_roundw
        case rel => exact ⟨k + 1, by omega, by go_num, val_int (by rw [Hs.out]; omega), hb⟩
        case measure => simp [intOf]; omega
      · obtain rfl : k = n := by omega
        have ht : l.take k = l := List.take_of_length_le (by rw [Hl.out]; omega)
        rw [ht, ← Ht.out]
        go_wp2
        go_ret
        exact ⟨rfl, hb⟩

end Go.Proofs.Ytonejdjhdjckjaa

/-
  The document's answer for layer 4 (landfallref04), its writer.
-/
set_option linter.unusedSimpArgs false
set_option linter.unusedVariables false
namespace Go.Proofs.Ytonejdjhdjckjaa
open Go.RowKit NumLaw

theorem ret_bool {a b : Bool} (h : a = b) : Ending.returned (.bool a) = .returned (.bool b) := by rw [h]

/- Bytes -/
set_option maxHeartbeats 400000 in
theorem qBytes_any (n u : Nat) (w : World) (hn : n ≤ 8) (hu : u < 18446744073709551616) :
    Calls Try.prog 91 #[.int .i64 n, .int .u64 u] w (RetB w (bytesN n u)) := by
  obtain ⟨i0, hi⟩ := info_parts u8_info
  have Hi := Lib.hid hi
  clear hi
  go_enter Try.func91, Try.ntmps91
  go_wp2
  go_loopw [1, 5, 6] (fun v s i wr => ∃ (k : Nat) (A : Option Addr) (c : Nat), k ≤ n ∧ i = .int .i64 k ∧ v = .int .u64 ((u / 256 ^ k : Nat) : Int) ∧ s = .slice A k c ∧ wr.ownsRow w.heap.size 5 1 (.slice A k c) k (bv ((bytesN n u).take k)) ∧ Below w.heap.size w wr) (fun _ _ i _ => n - (intOf i).toNat)
  case atStart => exact ⟨0, none, 0, by omega, rfl, by simp, rfl, World.ownsRow_nil _ _ _ _, Below.refl _ _⟩
  case round =>
    obtain ⟨k, A, c, hk, rfl, rfl, rfl, hown, hb⟩ := hrel
    by_cases hlt : k < n
    · have ht := bytesN_take (u := u) hlt
      have hv : u / 256 ^ (k + 1) = u / 256 ^ k / 256 := by rw [Nat.pow_succ, ← Nat.div_div_eq_div_mul]
      have hvl : u / 256 ^ k < 18446744073709551616 := Nat.lt_of_le_of_lt (Nat.div_le_self _ _) hu
      have Ht := Lib.hid (And.intro ht hv)
      clear ht hv
      generalize u / 256 ^ k = v at *
      have hnew : Rd (wr.alloc (.cells #[.int .u8 ((v : Int) % 256)] 5)) (wr.heap.size + 1) 1 (some ⟨wr.heap.size, 0, none⟩) 1 1 (bv [UInt8.ofNat (v % 256)]) := by
        have := rd_const wr 5 [UInt8.ofNat (v % 256)] (0, 0) (by simp [maxLen])
        have e1 : (UInt8.ofNat (v % 256)).toNat = v % 256 := by rw [UInt8.toNat_ofNat']; omega
        simpa [bv, e1] using this
      have hown2 := hown.alloc (.cells #[.int .u8 ((v : Int) % 256)] 5)
      have hsz := hb.size
      go_wp2_with (at_builtin; refine stop_ ?_)
      refine go_ (wpList_app (base := w.heap.size) Try.underlying36 Hi.out rfl (by omega) hown2 rfl hnew rfl (bv_one _) (k := k + 1) rfl (bv_app _ _).symm (by unfold maxLen; omega) (by omega) (by simp; omega) ?_)
      intro A3 c3 w3 hown3 hup3
      have hb3 : Below w.heap.size w w3 := hup3 (hb.alloc hb.size _) (by simp; omega) (Nat.le_refl _)
      rw [← Ht.out.1] at hown3
      clear hup3 hb hown hown2 hnew
      go_wp2
      go_roundw
      case rel => exact ⟨k + 1, A3, c3, by omega, by go_num, by rw [Ht.out.2]; exact val_int (by omega), rfl, hown3, hb3⟩
      case measure => simp [intOf]; omega
    · obtain rfl : k = n := by omega
      have ht : (bytesN k u).take k = bytesN k u := List.take_of_length_le (by rw [bytesN_len]; exact Nat.le_refl _)
      rw [ht] at hown
      go_wp2
      go_ret
      exact ⟨A, c, k, rfl, hown, hb⟩

/- FitsU -/
theorem half_two (n : Nat) (h : 1 ≤ n) : 2 * (128 * 256 ^ (n - 1)) = 256 ^ n := by
  obtain ⟨j, rfl⟩ : ∃ j, n = j + 1 := ⟨n - 1, by omega⟩
  simp only [Nat.add_sub_cancel, Nat.pow_succ]; omega
/- FitsI -/
/-- A writer as a plain value: its bytes in new memory (or none). -/
def RetPW (w : World) (l : List UInt8) (bad : Bool) (e : Ending) (w' : World) : Prop :=
  ∃ A n c, e = .returned (.agg #[.slice A n c, .bool bad]) ∧ w'.ownsRow w.heap.size 5 1 (.slice A n c) n (bv l) ∧ (bad = true → A = none ∧ n = 0 ∧ c = 0) ∧ Below w.heap.size w w'
/- PutRaw -/
/- PutU -/
/- PutI -/
end Go.Proofs.Ytonejdjhdjckjaa

/-
  The document's shapes: Put walked.
-/
set_option linter.unusedSimpArgs false
set_option linter.unusedVariables false
namespace Go.Proofs.Ytonejdjhdjckjaa
open Go.RowKit NumLaw
attribute [local go_sem] Addr.add_mid

set_option maxRecDepth 10000 in
set_option maxHeartbeats 4000000 in
theorem qPut14_go (A : Option Addr) (n c B : Nat) (l : List FieldV) (A' : Option Addr) (c' B' : Nat) (vs : List Int) (w : World) (h : RdF w B A n c l) (hB : B ≤ w.heap.size) (h' : Rd w B' 1 A' n c' (vs.map (Value.int .i64))) (hB' : B' ≤ w.heap.size) (hn : n ≤ 100000) (hr : rightL l = true) :
    Calls Try.prog 61 #[.slice A n c, .slice A' n c'] w (RetPS w (shP l vs) (shE l vs)) := by
  have hle := h.2.1
  have hlv : vs.length = n := by have := h'.len; simpa using this
  have Hl := Lib.hid h.1
  have Hlv := Lib.hid hlv
  have Hr := Lib.hid hr
  have hright := qRight_any A n c B l w h hB
  rw [hr] at hright
  have hE : shE l vs = if inAll l vs = true then 0 else 5 := by unfold shE; rw [if_pos ⟨hr, by rw [hlv, h.1]⟩]
  have HE := Lib.hid hE
  obtain ⟨oE, hoE⟩ : ∃ oE, oE = shE l vs := ⟨_, rfl⟩
  obtain ⟨oP, hoP⟩ : ∃ oP, oP = shP l vs := ⟨_, rfl⟩
  rw [← hoE, ← hoP]
  have HoE := Lib.hid hoE
  have HoP := Lib.hid hoP
  obtain ⟨i0, hi0⟩ := info_parts u8_info
  have Hi := Lib.hid hi0
  clear hr hlv hE hoE hoP hi0
  go_enter Try.func61, Try.ntmps61
  go_wp2_with fail
  go_fit hright
  rintro e w1 ⟨rfl, hb1⟩
  go_wp2_with fail
  go_loopw [6, 7] (fun s i wr => ∃ (k : Nat) (A6 : Option Addr) (m c6 : Nat) (lw : List UInt8), k ≤ n ∧ i = .int .i64 k ∧ s = .slice A6 m c6 ∧ wr.ownsRow w.heap.size 5 1 (.slice A6 m c6) m (bv lw) ∧ Below w.heap.size w wr ∧ m ≤ k * 8 ∧ Hid (lw = ((l.zip vs).take k).flatMap fun p => bytesN p.1.size.toNat (un p.2)) ∧ Hid (((l.zip vs).take k).all (fun p => inF p.1 p.2) = true)) (fun _ i _ => n - (intOf i).toNat)
  case atStart => exact ⟨0, none, 0, 0, [], by omega, rfl, rfl, World.ownsRow_nil _ _ _ _, hb1, by omega, Lib.hid rfl, Lib.hid rfl⟩
  case round =>
    clear hb1 w1
    obtain ⟨k, A6, m, c6, lw, hk, rfl, rfl, hown, hb, hlw, hlB, hall⟩ := hrel
    by_cases hlt : k < n
    · obtain ⟨gf, off, f, rfl, hgf, hx, h1, h2, h3, h4, _⟩ := h.at_ hlt
      obtain ⟨adv, uv, rfl, hu, hcv⟩ := h'.one hlt
      obtain ⟨x, hxx, rfl⟩ : ∃ x, vs[k]? = some x ∧ Value.int .i64 x = uv := by simpa using hu
      have hadv : adv.block < B' := by
        obtain ⟨ad', e', hb', _⟩ := h'.at_ (by omega)
        injection e' with e'
        rw [e']; exact hb'
      have hgw : gf < w.heap.size := by omega
      have haw : (adv.add k).block < w.heap.size := by rw [blk_add]; omega
      have hfit := right_fits (List.all_eq_true.1 Hr.out _ (List.mem_of_getElem? hx))
      have hzs := zip_take_succ hx hxx
      have Hs := Lib.hid hzs
      have hm : (f, x) ∈ l.zip vs := List.mem_of_getElem? (i := k) (by rw [List.getElem?_zip_eq_some]; exact ⟨hx, hxx⟩)
      have Hm := Lib.hid hm
      clear hu hxx hx hzs hm
      obtain ⟨size, sg, lo, hi⟩ := f
      simp only at h1 h2 h3 h4 hfit Hs
      obtain ⟨sz, rfl⟩ : ∃ sz : Nat, size = sz := ⟨size.toNat, by omega⟩
      have Hbad : Hid (inF ⟨(sz : Int), sg, lo, hi⟩ x = false → oE = 5 ∧ oP = []) := Lib.hid (fun hin => by
        have hna : inAll l vs = false := by
          unfold inAll
          rw [List.all_eq_false]
          exact ⟨_, Hm.out, by rw [hin]; simp⟩
        have h5 : oE = 5 := by rw [HoE.out, HE.out, if_neg (by rw [hna]; simp)]
        refine ⟨h5, ?_⟩
        rw [HoP.out]; unfold shP; rw [if_neg (by rw [← HoE.out, h5]; simp)])
      rcases (by omega : x < lo ∨ (¬ x < lo ∧ hi < x) ∨ (¬ x < lo ∧ ¬ hi < x)) with g1 | ⟨g1, g2⟩ | ⟨g1, g2⟩
      · obtain ⟨rfl, rfl⟩ := Hbad.out (decide_eq_false (by simp only; omega))
        have e1 := (hb.cell haw).trans hcv
        have e2 := (hb.cell (p := ⟨gf, off + k * 4 + 2, none⟩) hgw).trans h3
        clear Hbad
        go_wp2_with fail
        go_quiet (fail)
        go_wp2
        go_ret2
        exact ⟨none, 0, 0, rfl, World.ownsRow_nil _ _ _ _, below_drewN hb _⟩
      · have d1 : decide (x < lo) = false := decide_eq_false g1
        have d2 : decide (hi < x) = true := decide_eq_true g2
        obtain ⟨rfl, rfl⟩ := Hbad.out (decide_eq_false (by simp only; omega))
        go_wp2_with fail
        refine Ord.region_ (fun w' => Below w.heap.size w w') false [] (by kernel_rfl) (by kernel_rfl) hb.drew ?_
        replace hb := hb.drew
        generalize wr.drew = w3 at *
        repeat (first | (refine Ord.e_p (v := ?_) rfl (by rfl) ?_ ?_; rotate_left; · (intro w2; go_simp; try with_reducible rfl)) | (refine Ord.e_u (by rfl) ?_)); (try simp only [Act.put, List.setIfInBounds_toArray, List.set_cons_zero, List.set_cons_succ])
        refine Ord.e_loadS Try.underlying2 rfl (fun w' hS => ((show Below _ w w' from hS).cell haw).trans hcv) hb rfl (by rfl) ?_
        (try simp only [Act.put, List.setIfInBounds_toArray, List.set_cons_zero, List.set_cons_succ])
        repeat (first | (refine Ord.e_p (v := ?_) rfl (by rfl) ?_ ?_; rotate_left; · (intro w2; go_simp; try with_reducible rfl)) | (refine Ord.e_u (by rfl) ?_)); (try simp only [Act.put, List.setIfInBounds_toArray, List.set_cons_zero, List.set_cons_succ])
        refine Ord.e_loadS Try.underlying2 rfl (fun w' hS => ((show Below _ w w' from hS).cell (p := ⟨gf, off + k * 4 + 2, none⟩) hgw).trans h3) hb rfl (by rfl) ?_
        (try simp only [Act.put, List.setIfInBounds_toArray, List.set_cons_zero, List.set_cons_succ])
        repeat (first | (refine Ord.e_p (v := ?_) rfl (by rfl) ?_ ?_; rotate_left; · (intro w2; go_simp; try with_reducible rfl)) | (refine Ord.e_u (by rfl) ?_)); (try simp only [Act.put, List.setIfInBounds_toArray, List.set_cons_zero, List.set_cons_succ])
        refine Ord.e_loadS Try.underlying2 rfl (fun w' hS => ((show Below _ w w' from hS).cell haw).trans hcv) hb rfl (by rfl) ?_
        (try simp only [Act.put, List.setIfInBounds_toArray, List.set_cons_zero, List.set_cons_succ])
        repeat (first | (refine Ord.e_p (v := ?_) rfl (by rfl) ?_ ?_; rotate_left; · (intro w2; go_simp; try with_reducible rfl)) | (refine Ord.e_u (by rfl) ?_)); (try simp only [Act.put, List.setIfInBounds_toArray, List.set_cons_zero, List.set_cons_succ])
        refine Ord.e_loadS Try.underlying2 rfl (fun w' hS => ((show Below _ w w' from hS).cell (p := ⟨gf, off + k * 4 + 3, none⟩) hgw).trans h4) hb rfl (by rfl) ?_
        (try simp only [Act.put, List.setIfInBounds_toArray, List.set_cons_zero, List.set_cons_succ])
        repeat (first | (refine Ord.e_p (v := ?_) rfl (by rfl) ?_ ?_; rotate_left; · (intro w2; go_simp; try with_reducible rfl)) | (refine Ord.e_u (by rfl) ?_)); (try simp only [Act.put, List.setIfInBounds_toArray, List.set_cons_zero, List.set_cons_succ])
        refine Ord.e_nil ?_
        go_wp2
        go_ret2
        exact ⟨none, 0, 0, rfl, World.ownsRow_nil _ _ _ _, hb⟩
      · have d1 : decide (x < lo) = false := decide_eq_false g1
        have d2 : decide (hi < x) = false := decide_eq_false g2
        have HIN : Hid (inF ⟨(sz : Int), sg, lo, hi⟩ x = true) := Lib.hid (decide_eq_true (by simp only; omega))
        clear Hbad
        go_wp2_with fail
        refine Ord.region_ (fun w' => Below w.heap.size w w') false [] (by kernel_rfl) (by kernel_rfl) hb.drew ?_
        replace hb := hb.drew
        replace hown := hown.drew
        generalize wr.drew = w3 at *
        repeat (first | (refine Ord.e_p (v := ?_) rfl (by rfl) ?_ ?_; rotate_left; · (intro w2; go_simp; try with_reducible rfl)) | (refine Ord.e_u (by rfl) ?_)); (try simp only [Act.put, List.setIfInBounds_toArray, List.set_cons_zero, List.set_cons_succ])
        refine Ord.e_loadS Try.underlying2 rfl (fun w' hS => ((show Below _ w w' from hS).cell haw).trans hcv) hb rfl (by rfl) ?_
        (try simp only [Act.put, List.setIfInBounds_toArray, List.set_cons_zero, List.set_cons_succ])
        repeat (first | (refine Ord.e_p (v := ?_) rfl (by rfl) ?_ ?_; rotate_left; · (intro w2; go_simp; try with_reducible rfl)) | (refine Ord.e_u (by rfl) ?_)); (try simp only [Act.put, List.setIfInBounds_toArray, List.set_cons_zero, List.set_cons_succ])
        refine Ord.e_loadS Try.underlying2 rfl (fun w' hS => ((show Below _ w w' from hS).cell (p := ⟨gf, off + k * 4 + 2, none⟩) hgw).trans h3) hb rfl (by rfl) ?_
        (try simp only [Act.put, List.setIfInBounds_toArray, List.set_cons_zero, List.set_cons_succ])
        repeat (first | (refine Ord.e_p (v := ?_) rfl (by rfl) ?_ ?_; rotate_left; · (intro w2; go_simp; try with_reducible rfl)) | (refine Ord.e_u (by rfl) ?_)); (try simp only [Act.put, List.setIfInBounds_toArray, List.set_cons_zero, List.set_cons_succ])
        refine Ord.e_loadS Try.underlying2 rfl (fun w' hS => ((show Below _ w w' from hS).cell haw).trans hcv) hb rfl (by rfl) ?_
        (try simp only [Act.put, List.setIfInBounds_toArray, List.set_cons_zero, List.set_cons_succ])
        repeat (first | (refine Ord.e_p (v := ?_) rfl (by rfl) ?_ ?_; rotate_left; · (intro w2; go_simp; try with_reducible rfl)) | (refine Ord.e_u (by rfl) ?_)); (try simp only [Act.put, List.setIfInBounds_toArray, List.set_cons_zero, List.set_cons_succ])
        refine Ord.e_loadS Try.underlying2 rfl (fun w' hS => ((show Below _ w w' from hS).cell (p := ⟨gf, off + k * 4 + 3, none⟩) hgw).trans h4) hb rfl (by rfl) ?_
        (try simp only [Act.put, List.setIfInBounds_toArray, List.set_cons_zero, List.set_cons_succ])
        repeat (first | (refine Ord.e_p (v := ?_) rfl (by rfl) ?_ ?_; rotate_left; · (intro w2; go_simp; try with_reducible rfl)) | (refine Ord.e_u (by rfl) ?_)); (try simp only [Act.put, List.setIfInBounds_toArray, List.set_cons_zero, List.set_cons_succ])
        refine Ord.e_nil ?_
        have hun := un_wrap x
        have hul := un_lt x
        obtain ⟨u, hu⟩ : ∃ u, u = un x := ⟨_, rfl⟩
        rw [← hu] at hun hul
        have HU := Lib.hid hu
        clear hu
        go_wp2_with fail
        refine Ord.region_ (fun w' => Below w.heap.size w w') false [] (by kernel_rfl) (by kernel_rfl) hb.drew ?_
        replace hb := hb.drew
        replace hown := hown.drew
        generalize w3.drew = w4 at *
        repeat (first | (refine Ord.e_p (v := ?_) rfl (by rfl) ?_ ?_; rotate_left; · (intro w2; go_simp; try with_reducible rfl)) | (refine Ord.e_u (by rfl) ?_)); (try simp only [Act.put, List.setIfInBounds_toArray, List.set_cons_zero, List.set_cons_succ])
        refine Ord.e_loadS Try.underlying3 rfl (fun w' hS => ((show Below _ w w' from hS).cell (p := ⟨gf, off + k * 4, none⟩) hgw).trans h1) hb rfl (by rfl) ?_
        (try simp only [Act.put, List.setIfInBounds_toArray, List.set_cons_zero, List.set_cons_succ])
        repeat (first | (refine Ord.e_p (v := ?_) rfl (by rfl) ?_ ?_; rotate_left; · (intro w2; go_simp; try with_reducible rfl)) | (refine Ord.e_u (by rfl) ?_)); (try simp only [Act.put, List.setIfInBounds_toArray, List.set_cons_zero, List.set_cons_succ])
        refine Ord.e_loadS Try.underlying2 rfl (fun w' hS => ((show Below _ w w' from hS).cell haw).trans hcv) hb rfl (by rfl) ?_
        (try simp only [Act.put, List.setIfInBounds_toArray, List.set_cons_zero, List.set_cons_succ])
        repeat (first | (refine Ord.e_p (v := ?_) rfl (by rfl) ?_ ?_; rotate_left; · (intro w2; go_simp; try with_reducible rfl)) | (refine Ord.e_u (by rfl) ?_)); (try simp only [Act.put, List.setIfInBounds_toArray, List.set_cons_zero, List.set_cons_succ])
        refine Ord.e_x rfl (by rfl) ?_
        go_wp2_with fail
        go_fit (qBytes_any sz u w4 (by omega) hul)
        rintro e w5 ⟨A5, c5, n5, rfl, hown5, hb45⟩
        have hn5 := own_len hown5
        rw [bytesN_len] at hn5
        have hb5 := bnx hb hb45
        have hown45 := own_up hown hb45 (Nat.le_refl _)
        go_wp2_with fail
        refine Ord.Seg.go hb5 (fun h => by cases h) ?_
        (try simp only [Act.put, List.setIfInBounds_toArray, List.set_cons_zero, List.set_cons_succ])
        repeat (first | (refine Ord.e_p (v := ?_) rfl (by rfl) ?_ ?_; rotate_left; · (intro w2; go_simp; try with_reducible rfl)) | (refine Ord.e_u (by rfl) ?_)); (try simp only [Act.put, List.setIfInBounds_toArray, List.set_cons_zero, List.set_cons_succ])
        refine Ord.e_x rfl (by rfl) ?_
        refine wpList_app Try.underlying36 Hi.out rfl (by omega) hown45 rfl (Rd.own hown5) rfl (bv_one _) (k := m + n5) rfl (bv_app _ _).symm (by unfold maxLen; omega) (by omega) hb5.size ?_
        intro A7 c7 w7 hown7 hB7
        have hb7 := hB7 hb5 hb5.size (Nat.le_refl _)
        clear hB7 hown45 hown5 hown hb45 hb
        go_wp2_with fail
        refine Ord.Seg.go hb7 (fun h => by cases h) ?_
        (try simp only [Act.put, List.setIfInBounds_toArray, List.set_cons_zero, List.set_cons_succ])
        repeat (first | (refine Ord.e_p (v := ?_) rfl (by rfl) ?_ ?_; rotate_left; · (intro w2; go_simp; try with_reducible rfl)) | (refine Ord.e_u (by rfl) ?_)); (try simp only [Act.put, List.setIfInBounds_toArray, List.set_cons_zero, List.set_cons_succ])
        refine Ord.e_nil ?_
        go_wp2
        go_roundw
        case rel =>
          refine ⟨k + 1, A7, m + n5, c7, _, by omega, by go_num, rfl, hown7, hb7, by omega, Lib.hid ?_, Lib.hid ?_⟩
          · rw [Hs.out, List.flatMap_append, ← hlB.out, HU.out]; simp
          · rw [Hs.out, List.all_append, hall.out]; simp [HIN.out]
        case measure => simp [intOf]; omega
    · obtain rfl : k = n := by omega
      have ht : (l.zip vs).take k = l.zip vs := List.take_of_length_le (by rw [List.length_zip, Hl.out, Hlv.out]; omega)
      rw [ht] at hall hlB
      have hall2 : inAll l vs = true := hall.out
      obtain rfl : oE = 0 := by rw [HoE.out, HE.out, if_pos hall2]
      obtain rfl : oP = lw := by rw [HoP.out, hlB.out]; unfold shP; rw [if_pos HoE.out.symm]; rfl
      clear ht hall2
      go_wp2
      go_ret2
      exact ⟨A6, m, c6, rfl, hown, hb⟩
set_option maxHeartbeats 1000000 in
theorem qPut14_any (A : Option Addr) (n c B : Nat) (l : List FieldV) (A' : Option Addr) (n' c' B' : Nat) (vs : List Int) (w : World) (h : RdF w B A n c l) (hB : B ≤ w.heap.size) (h' : Rd w B' 1 A' n' c' (vs.map (Value.int .i64))) (hB' : B' ≤ w.heap.size) (hn : n ≤ 100000) :
    Calls Try.prog 61 #[.slice A n c, .slice A' n' c'] w (RetPS w (shP l vs) (shE l vs)) := by
  have hlv : vs.length = n' := by have := h'.len; simpa using this
  have hright := qRight_any A n c B l w h hB
  cases hr : rightL l with
  | false =>
    have e1 : shE l vs = 1 := by unfold shE; rw [if_neg (by rw [hr]; simp)]
    rw [show shP l vs = [] by unfold shP; rw [e1]; rfl, e1]
    rw [hr] at hright
    clear hr e1 hlv
    go_enter Try.func61, Try.ntmps61
    go_wp2_with fail
    go_fit hright
    rintro e w1 ⟨rfl, hb1⟩
    go_wp2
    go_ret2
    exact ⟨none, 0, 0, rfl, World.ownsRow_nil _ _ _ _, hb1⟩
  | true =>
    by_cases hnn : n' = n
    · subst hnn
      exact qPut14_go A n' c B l A' c' B' vs w h hB h' hB' hn hr
    · have e1 : shE l vs = 1 := by unfold shE; rw [if_neg (by rw [hlv, h.1]; intro hh; exact hnn hh.2)]
      rw [show shP l vs = [] by unfold shP; rw [e1]; rfl, e1]
      rw [hr] at hright
      have hnn' : ¬ (n' : Int) = (n : Int) := by omega
      clear hr e1 hlv hnn
      go_enter Try.func61, Try.ntmps61
      go_wp2_with fail
      go_fit hright
      rintro e w1 ⟨rfl, hb1⟩
      go_wp2
      go_ret2
      exact ⟨none, 0, 0, rfl, World.ownsRow_nil _ _ _ _, hb1⟩

end Go.Proofs.Ytonejdjhdjckjaa

/-
  The document's shapes: number, Take walked.
-/
set_option linter.unusedSimpArgs false
set_option linter.unusedVariables false
namespace Go.Proofs.Ytonejdjhdjckjaa
open Go.RowKit NumLaw
attribute [local go_sem] Addr.add_mid

def numV (f : FieldV) (b : List UInt8) : Int := if f.sg = true then sgn f.size.toNat (num b) else ((num b % 9223372036854775808 : Nat) : Int)
def numK (f : FieldV) (b : List UInt8) : Bool := f.sg || decide (num b < 9223372036854775808)
/-- A number that is told, and within its field, is the field's; and the other way round. -/
theorem num_in {f : FieldV} {b : List UInt8} (hr : rightF f = true) (hb : b.length = f.size.toNat) : (numK f b = true → numV f b = fieldV f b) ∧ (numK f b = false → inF f (fieldV f b) = false) := by
  have hs := right_fits hr
  have hm := num_lt b
  rw [hb] at hm
  have hm8 := Nat.lt_of_lt_of_le hm (pow_le8 (show f.size.toNat ≤ 8 by omega))
  unfold numK numV fieldV
  cases hg : f.sg with
  | true => simp
  | false =>
    simp only [Bool.false_or, decide_eq_true_eq, Bool.false_eq_true, if_false, decide_eq_false_iff_not]
    refine ⟨fun h => ?_, fun h => ?_⟩
    · unfold sg64; rw [if_pos h, Nat.mod_eq_of_lt h]
    · unfold inF sg64
      rw [if_neg h]
      refine decide_eq_false ?_
      have hlo : 0 ≤ f.lo := by
        obtain ⟨size, sg, lo, hi⟩ := f
        unfold rightF at hr
        simp only [Bool.and_eq_true, decide_eq_true_eq] at hr hg
        subst hg
        have h3 := of_decide_eq_true hr.1.2
        unfold anyF at h3
        rw [if_pos hr.1.1.1] at h3
        simp at h3
        exact h3.1
      omega
set_option maxRecDepth 10000 in
set_option maxHeartbeats 1000000 in
theorem qnumber_any (f : FieldV) (A : Option Addr) (n c B : Nat) (b : List UInt8) (w : World) (h : Rd w B 1 A n c (bv b)) (hB : B ≤ w.heap.size) (hs1 : 1 ≤ f.size) (hs8 : f.size ≤ 8) (hn : n = f.size.toNat) :
    Calls Try.prog 96 #[fv f, .slice A n c] w fun e w' => e = .returned (.tuple #[.int .i64 (numV f b), .bool (numK f b)]) ∧ Below w.heap.size w w' := by
  have hlb := h.blen
  obtain ⟨size, sg, lo, hi⟩ := f
  simp only at hs1 hs8 hn
  obtain ⟨sz, rfl⟩ : ∃ sz : Nat, size = sz := ⟨size.toNat, by omega⟩
  rw [Int.toNat_natCast] at hn
  subst hn
  have hm := num_lt b
  rw [hlb] at hm
  have hm8 := Nat.lt_of_lt_of_le hm (pow_le8 (show n ≤ 8 by omega))
  have hbx : Below w.heap.size w (w.alloc (.cells #[.int .i64 n, .bool sg, .int .i64 lo, .int .i64 hi] 99)) := (Below.refl _ _).alloc (Nat.le_refl _) _
  have hx := heap_alloc_new w (.cells #[.int .i64 n, .bool sg, .int .i64 lo, .int .i64 hi] 99)
  have hnum := number_any A n c B b _ (h.up (hbx.mono hB)) (by omega)
  have hsig := fun w => signed_any n (num b) w (by omega) (by omega) hm
  have c0 := blk_cell (i := 0) (v := .int .i64 n) hx rfl
  have c1 := blk_cell (i := 1) (v := .bool sg) hx rfl
  unfold fv numV numK
  simp only [Int.toNat_natCast]
  obtain ⟨u, hu⟩ : ∃ u, u = num b := ⟨_, rfl⟩
  rw [← hu] at hnum hsig hm8 ⊢
  clear hu hm hx
  cases sg with
  | true =>
    obtain ⟨sv, hsv⟩ : ∃ sv, sv = sgn n u := ⟨_, rfl⟩
    simp only [if_true, Bool.true_or]
    rw [← hsv] at hsig ⊢
    clear hsv
    have Hsig := Lib.hid hsig
    clear hsig
    go_enter Try.func96, Try.ntmps96
    go_wp2_with fail
    go_fit hnum
    rintro e w1 ⟨rfl, rfl⟩
    go_wp2_with fail
    go_fit (Hsig.out _)
    rintro e w2 ⟨rfl, rfl⟩
    go_wp2
    go_ret2
    exact ⟨rfl, hbx⟩
  | false =>
    simp only [Bool.false_eq_true, if_false, Bool.false_or]
    obtain ⟨r, hr⟩ : ∃ r, r = u % 9223372036854775808 := ⟨_, rfl⟩
    have e1 : (u : Int) % 9223372036854775808 = (r : Int) := by omega
    have e2 : IntKind.i64.wrap (r : Int) = (r : Int) := by rw [IntKind.wrap_i64]; omega
    rw [← hr]
    clear hr hsig
    go_enter Try.func96, Try.ntmps96
    go_wp2_with fail
    go_fit hnum
    rintro e w1 ⟨rfl, rfl⟩
    go_wp2
    go_ret2
    refine ⟨?_, hbx⟩
    simp
    try omega

end Go.Proofs.Ytonejdjhdjckjaa

/-
  The document's shapes: Take walked.
-/
set_option linter.unusedSimpArgs false
set_option linter.unusedVariables false
namespace Go.Proofs.Ytonejdjhdjckjaa
open Go.RowKit NumLaw
attribute [local go_sem] Addr.add_mid

set_option maxRecDepth 10000 in
set_option maxHeartbeats 4000000 in
theorem qTake14_go (A : Option Addr) (n c B : Nat) (l : List FieldV) (A' : Option Addr) (n' c' B' : Nat) (b : List UInt8) (w : World) (h : RdF w B A n c l) (hB : B ≤ w.heap.size) (h' : Rd w B' 1 A' n' c' (bv b)) (hB' : B' ≤ w.heap.size) (hn : n ≤ 100000) (hr : rightL l = true) (hlen : n' = sumL l) :
    Calls Try.prog 64 #[.slice A n c, .slice A' n' c'] w (RetTS w (shT l b) (shTE l b)) := by
  have hle := h.2.1
  have hle' := h'.le
  have hmx' := h'.max
  unfold maxLen at hmx'
  have hlb := h'.blen
  have Hl := Lib.hid h.1
  have Hr := Lib.hid hr
  have hright := qRight_any A n c B l w h hB
  rw [hr] at hright
  have hwidth := fun w' h' hB' => qWidth_any A n c B l w' h' hB' hn
  rw [show widthL l = n' by unfold widthL; rw [if_pos hr, hlen]] at hwidth
  have hE : shTE l b = if inAll l (takeV l b) = true then 0 else 5 := by unfold shTE; rw [if_pos hr, if_neg (by omega), if_neg (by omega)]
  have HE := Lib.hid hE
  obtain ⟨oE, hoE⟩ : ∃ oE, oE = shTE l b := ⟨_, rfl⟩
  obtain ⟨oP, hoP⟩ : ∃ oP, oP = shT l b := ⟨_, rfl⟩
  rw [← hoE, ← hoP]
  have HoE := Lib.hid hoE
  have HoP := Lib.hid hoP
  have Hlen := Lib.hid hlen
  have Hlb := Lib.hid hlb
  have hnb : n' ≤ 800000 := by
    have := sumL_take hr l.length
    rw [List.take_length, h.1] at this
    omega
  have Hwidth := Lib.hid hwidth
  obtain ⟨i0, hi0⟩ := info_parts u8_info
  have Hi := Lib.hid hi0
  obtain ⟨i1, hi1⟩ := info_parts i64_info
  have Hi1 := Lib.hid hi1
  clear hr hE hoE hoP hlen hlb hwidth hi0 hi1
  go_enter Try.func64, Try.ntmps64
  go_wp2_with fail
  go_fit hright
  rintro e w1 ⟨rfl, hb1⟩
  go_wp2_with fail
  go_fit (Hwidth.out w1 (h.up (hb1.mono hB)) (Nat.le_trans hB hb1.size))
  rintro e w2 ⟨rfl, hb12⟩
  have hb2 := bnx hb1 hb12
  go_wp2_with fail
  go_fit (Hwidth.out w2 (h.up (hb2.mono hB)) (Nat.le_trans hB hb2.size))
  rintro e w3 ⟨rfl, hb23⟩
  have hb3 := bnx hb2 hb23
  clear hb1 hb12 hb2 hb23 hright
  go_wp2_with fail
  go_loopw [6, 7, 8] (fun s a i wr => ∃ (k : Nat) (A6 : Option Addr) (c6 : Nat), k ≤ n ∧ i = .int .i64 k ∧ s = .slice A6 k c6 ∧ a = .int .i64 (sumL (l.take k) : Int) ∧ wr.ownsRow w.heap.size 2 1 (.slice A6 k c6) k (((takeV l b).take k).map (Value.int .i64)) ∧ Below w.heap.size w wr ∧ Hid (((l.zip (takeV l b)).take k).all (fun p => inF p.1 p.2) = true)) (fun _ _ i _ => n - (intOf i).toNat)
  case atStart => exact ⟨0, none, 0, by omega, rfl, rfl, rfl, World.ownsRow_nil _ _ _ _, hb3, Lib.hid rfl⟩
  case round =>
    clear hb3 w3
    obtain ⟨k, A6, c6, hk, rfl, rfl, rfl, hown, hb, hall⟩ := hrel
    by_cases hlt : k < n
    · obtain ⟨gf, off, f, rfl, hgf, hx, h1, h2, h3, h4, _⟩ := h.at_ hlt
      have hgw : gf < w.heap.size := by omega
      have hrf := List.all_eq_true.1 Hr.out _ (List.mem_of_getElem? hx)
      have hvx := takeV_at l b k f hx
      have hsl := sumL_le hx
      have hst := sumL_step hx
      have hfit := right_fits hrf
      have hzs := zip_take_succ hx hvx
      have hm : (f, fieldV f ((b.drop (sumL (l.take k))).take f.size.toNat)) ∈ l.zip (takeV l b) := List.mem_of_getElem? (i := k) (by rw [List.getElem?_zip_eq_some]; exact ⟨hx, hvx⟩)
      obtain ⟨at_, hat⟩ : ∃ a, a = sumL (l.take k) := ⟨_, rfl⟩
      rw [← hat] at hvx hsl hst hzs hm ⊢
      rw [← Hlen.out] at hsl
      have hbl : ((b.drop at_).take f.size.toNat).length = f.size.toNat := by rw [List.length_take, List.length_drop, Hlb.out]; omega
      have hni := num_in hrf hbl
      have hnumb := fun w' hcut hB'' => qnumber_any f (cutA A' c' at_ 1) f.size.toNat (c' - at_) B' ((b.drop at_).take f.size.toNat) w' hcut hB'' hfit.1 hfit.2 rfl
      have hcut : Rd w B' 1 (cutA A' c' at_ 1) f.size.toNat (c' - at_) (bv ((b.drop at_).take f.size.toNat)) := (h'.bdrop (k := at_) (by omega)).btake (by omega)
      obtain ⟨x, hxe⟩ : ∃ x, x = fieldV f ((b.drop at_).take f.size.toNat) := ⟨_, rfl⟩
      obtain ⟨nv, hnv⟩ : ∃ nv, nv = numV f ((b.drop at_).take f.size.toNat) := ⟨_, rfl⟩
      obtain ⟨nk, hnk⟩ : ∃ nk, nk = numK f ((b.drop at_).take f.size.toNat) := ⟨_, rfl⟩
      rw [← hxe] at hvx hzs hm hni
      rw [← hnv, ← hnk] at hni hnumb
      have Hvx := Lib.hid hvx
      have Hs := Lib.hid hzs
      have Hm := Lib.hid hm
      have Hni := Lib.hid hni
      have Hst := Lib.hid hst
      clear hx hzs hm hxe hvx hst hrf hnv hnk hni hat hbl
      obtain ⟨size, sg, lo, hi⟩ := f
      simp only at h1 h2 h3 h4 hfit hnumb hcut hsl Hst
      obtain ⟨sz, rfl⟩ : ∃ sz : Nat, size = sz := ⟨size.toNat, by omega⟩
      simp only [Int.toNat_natCast] at hnumb hcut hsl Hst
      generalize (b.drop at_).take sz = bk at *
      unfold fv at hnumb
      simp only at hnumb
      have Hnumb := Lib.hid hnumb
      clear hnumb
      have hrow : ∀ w', Below w.heap.size w w' → w'.rangeAt gf (off + k * 4) [.int .i64 sz, .bool sg, .int .i64 lo, .int .i64 hi] := fun w' hS j v hv => by
        have hc : ∀ j, w'.cell? ⟨gf, j, none⟩ = w.cell? ⟨gf, j, none⟩ := fun j => hS.cell (p := ⟨gf, j, none⟩) hgw
        rw [hc]
        match j, hv with
        | 0, hv => simp at hv; subst hv; exact h1
        | 1, hv => simp at hv; subst hv; exact h2
        | 2, hv => simp at hv; subst hv; exact h3
        | 3, hv => simp at hv; subst hv; exact h4
      have Hrow := Lib.hid hrow
      have Hbad : Hid (inF ⟨(sz : Int), sg, lo, hi⟩ x = false → oE = 5 ∧ oP = []) := Lib.hid (fun hin => by
        have hna : inAll l (takeV l b) = false := by
          unfold inAll
          rw [List.all_eq_false]
          exact ⟨_, Hm.out, by rw [hin]; simp⟩
        have h5 : oE = 5 := by rw [HoE.out, HE.out, if_neg (by rw [hna]; simp)]
        refine ⟨h5, ?_⟩
        rw [HoP.out]; unfold shT; rw [if_neg (by rw [← HoE.out, h5]; simp)])
      have wz : IntKind.i64.wrap ((at_ : Int) + (sz : Int)) = (at_ : Int) + (sz : Int) := by rw [IntKind.wrap_i64]; omega
      have hrun : ∀ w, (Instr.slice 36 (.slice A' n' c') (some (.int .i64 (at_ : Int))) (some (.int .i64 ((at_ : Int) + (sz : Int)))) none).run Try.prog w = .ok (.slice (cutA A' c' at_ 1) sz (c' - at_)) w := fun w => by
        have := run_cut_lh (P := Try.prog) Try.underlying36 Hi.out.1 Hi.out.2.2.1 A' n' c' at_ (at_ + sz) (by omega) (by omega) w
        rw [show ((at_ + sz : Nat) : Int) = (at_ : Int) + (sz : Int) by omega, Nat.add_sub_cancel_left] at this
        exact this
      clear hrow
      go_wp2_with fail
      refine Ord.region_ (fun w' => Below w.heap.size w w') false [] (by kernel_rfl) (by kernel_rfl) hb.drew ?_
      replace hb := hb.drew
      replace hown := hown.drew
      generalize wr.drew = w3 at *
      repeat (first | (refine Ord.e_p (v := ?_) rfl (by rfl) ?_ ?_; rotate_left; · (intro w2; go_simp; try with_reducible rfl)) | (refine Ord.e_u (by rfl) ?_)); (try simp only [Act.put, List.setIfInBounds_toArray, List.set_cons_zero, List.set_cons_succ])
      refine Ord.e_rowS Try.underlying99 rfl (by kernel_rfl) rfl (by simp) (fun w' hS => Hrow.out w' hS) hb (by rfl) ?_
      (try simp only [Act.put, List.setIfInBounds_toArray, List.set_cons_zero, List.set_cons_succ])
      repeat (first | (refine Ord.e_p (v := ?_) rfl (by rfl) ?_ ?_; rotate_left; · (intro w2; go_simp; try with_reducible rfl)) | (refine Ord.e_u (by rfl) ?_)); (try simp only [Act.put, List.setIfInBounds_toArray, List.set_cons_zero, List.set_cons_succ])
      refine Ord.e_loadS Try.underlying3 rfl (fun w' hS => ((show Below _ w w' from hS).cell (p := ⟨gf, off + k * 4, none⟩) hgw).trans h1) hb rfl (by rfl) ?_
      (try simp only [Act.put, List.setIfInBounds_toArray, List.set_cons_zero, List.set_cons_succ])
      repeat (first | (refine Ord.e_p (v := ?_) rfl (by rfl) ?_ ?_; rotate_left; · (intro w2; go_simp; try with_reducible rfl)) | (refine Ord.e_u (by rfl) ?_)); (try simp only [Act.put, List.setIfInBounds_toArray, List.set_cons_zero, List.set_cons_succ])
      refine Ord.e_x rfl (by rfl) ?_
      go_wp2_with fail
      go_fit (Hnumb.out w3 (hcut.up (hb.mono hB')) (Nat.le_trans hB' hb.size))
      rintro e w4 ⟨rfl, hb34⟩
      have hb4 := bnx hb hb34
      have hown4 := own_up hown hb34 (Nat.le_refl _)
      go_wp2_with fail
      refine Ord.Seg.go hb4 (fun h => by cases h) ?_
      (try simp only [Act.put, List.setIfInBounds_toArray, List.set_cons_zero, List.set_cons_succ])
      repeat (first | (refine Ord.e_p (v := ?_) rfl (by rfl) ?_ ?_; rotate_left; · (intro w2; go_simp; try with_reducible rfl)) | (refine Ord.e_u (by rfl) ?_)); (try simp only [Act.put, List.setIfInBounds_toArray, List.set_cons_zero, List.set_cons_succ])
      refine Ord.e_nil ?_
      have e0 := (hb4.cell (p := ⟨gf, off + k * 4, none⟩) hgw).trans h1
      have e2 := (hb4.cell (p := ⟨gf, off + k * 4 + 2, none⟩) hgw).trans h3
      have e3 := (hb4.cell (p := ⟨gf, off + k * 4 + 3, none⟩) hgw).trans h4
      clear hb hb34 hown hrun wz
      cases nk with
      | false =>
        obtain ⟨rfl, rfl⟩ := Hbad.out (Hni.out.2 rfl)
        clear Hbad
        go_wp2
        go_ret2
        exact ⟨none, 0, 0, rfl, World.ownsRow_nil _ _ _ _, hb4⟩
      | true =>
        obtain rfl : nv = x := Hni.out.1 rfl
        rcases (by omega : nv < lo ∨ (¬ nv < lo ∧ hi < nv) ∨ (¬ nv < lo ∧ ¬ hi < nv)) with g1 | ⟨g1, g2⟩ | ⟨g1, g2⟩
        · obtain ⟨rfl, rfl⟩ := Hbad.out (decide_eq_false (by simp only; omega))
          clear Hbad
          go_wp2
          go_ret2
          exact ⟨none, 0, 0, rfl, World.ownsRow_nil _ _ _ _, hb4⟩
        · obtain ⟨rfl, rfl⟩ := Hbad.out (decide_eq_false (by simp only; omega))
          clear Hbad
          go_wp2
          go_ret2
          exact ⟨none, 0, 0, rfl, World.ownsRow_nil _ _ _ _, hb4⟩
        · have HIN : Hid (inF ⟨(sz : Int), sg, lo, hi⟩ nv = true) := Lib.hid (decide_eq_true (by simp only; omega))
          clear Hbad
          have hnew : Rd (w4.alloc (.cells #[.int .i64 nv] 2)) (w4.heap.size + 1) 1 (some ⟨w4.heap.size, 0, none⟩) 1 1 ([nv].map (Value.int .i64)) := rd_lit' w4 2 [.int .i64 nv] (by simp [maxLen])
          have hb5 := hb4.alloc hb4.size (.cells #[.int .i64 nv] 2)
          have hown5 := own_up hown4 (w' := w4.alloc (.cells #[.int .i64 nv] 2)) ((Below.refl _ _).alloc (Nat.le_refl _) _) (Nat.le_refl _)
          go_wp2_with (at_builtin; refine stop_ ?_)
          refine go_ (wpList_app Try.underlying35 Hi1.out rfl (by omega) hown5 rfl hnew rfl (fun u hu => by simp at hu; subst hu; rfl) (k := k + 1) rfl (List.map_append).symm (by unfold maxLen; omega) (by omega) hb5.size ?_)
          intro A7 c7 w7 hown7 hB7
          have hb7 := hB7 hb5 hb5.size (Nat.le_refl _)
          rw [← take_succ Hvx.out] at hown7
          have e7 := (hb7.cell (p := ⟨gf, off + k * 4, none⟩) hgw).trans h1
          clear hB7 hown5 hown4 hb5 hb4 e0 e2 e3 hnew
          go_wp2
          go_roundw
          case rel =>
            refine ⟨k + 1, A7, c7, by omega, by go_num, rfl, val_int (by rw [Hst.out]; omega), hown7, hb7, Lib.hid ?_⟩
            rw [Hs.out, List.all_append, hall.out]; simp [HIN.out]
          case measure => simp [intOf]; omega
    · obtain rfl : k = n := by omega
      have ht : (l.zip (takeV l b)).take k = l.zip (takeV l b) := List.take_of_length_le (by rw [List.length_zip, takeV_len, Hl.out]; omega)
      have ht2 : (takeV l b).take k = takeV l b := List.take_of_length_le (by rw [takeV_len, Hl.out]; exact Nat.le_refl _)
      rw [ht] at hall
      rw [ht2] at hown
      have hall2 : inAll l (takeV l b) = true := hall.out
      obtain rfl : oE = 0 := by rw [HoE.out, HE.out, if_pos hall2]
      obtain rfl : oP = takeV l b := by rw [HoP.out]; unfold shT; rw [if_pos HoE.out.symm]
      clear ht ht2 hall2
      go_wp2
      go_ret2
      exact ⟨A6, k, c6, rfl, hown, hb⟩

end Go.Proofs.Ytonejdjhdjckjaa

/-
  The law ShapeTells walked.
-/
set_option linter.unusedSimpArgs false
set_option linter.unusedVariables false
namespace Go.Proofs.Ytonejdjhdjckjaa
open Go.RowKit NumLaw

set_option maxRecDepth 10000 in
set_option maxHeartbeats 1000000 in
theorem qTake14_any (A : Option Addr) (n c B : Nat) (l : List FieldV) (A' : Option Addr) (n' c' B' : Nat) (b : List UInt8) (w : World) (h : RdF w B A n c l) (hB : B ≤ w.heap.size) (h' : Rd w B' 1 A' n' c' (bv b)) (hB' : B' ≤ w.heap.size) (hn : n ≤ 100000) (hn' : n' ≤ 1000000000) :
    Calls Try.prog 64 #[.slice A n c, .slice A' n' c'] w (RetTS w (shT l b) (shTE l b)) := by
  have hlb := h'.blen
  have hright := qRight_any A n c B l w h hB
  have hwidth := fun w' h' hB' => qWidth_any A n c B l w' h' hB' hn
  cases hr : rightL l with
  | false =>
    have e1 : shTE l b = 1 := by unfold shTE; rw [if_neg (by rw [hr]; simp)]
    rw [show shT l b = [] by unfold shT; rw [e1]; rfl, e1]
    rw [hr] at hright
    clear hr e1 hlb hwidth
    go_enter Try.func64, Try.ntmps64
    go_wp2_with fail
    go_fit hright
    rintro e w1 ⟨rfl, hb1⟩
    go_wp2
    go_ret2
    exact ⟨none, 0, 0, rfl, World.ownsRow_nil _ _ _ _, hb1⟩
  | true =>
    by_cases hlen : n' = sumL l
    · exact qTake14_go A n c B l A' n' c' B' b w h hB h' hB' hn hr hlen
    · have hw : widthL l = sumL l := by unfold widthL; rw [if_pos hr]
      rw [hw] at hwidth
      rw [hr] at hright
      have hs8 : sumL l ≤ 800000 := by
        have := sumL_take hr l.length
        rw [List.take_length, h.1] at this
        omega
      have hE : shTE l b = if n' < sumL l then 2 else 7 := by
        unfold shTE
        rw [if_pos hr, hlb]
        by_cases hlt : n' < sumL l
        · rw [if_pos hlt, if_pos hlt]
        · rw [if_neg hlt, if_neg hlt, if_pos (by omega)]
      generalize sumL l = s at *
      have Hwidth := Lib.hid hwidth
      by_cases hlt : n' < s
      · rw [if_pos hlt] at hE
        rw [show shT l b = [] by unfold shT; rw [hE]; rfl, hE]
        clear hE hr hw hlb hwidth hlen
        go_enter Try.func64, Try.ntmps64
        go_wp2_with fail
        go_fit hright
        rintro e w1 ⟨rfl, hb1⟩
        go_wp2_with fail
        go_fit (Hwidth.out w1 (h.up (hb1.mono hB)) (Nat.le_trans hB hb1.size))
        rintro e w2 ⟨rfl, hb12⟩
        go_wp2
        go_ret2
        exact ⟨none, 0, 0, rfl, World.ownsRow_nil _ _ _ _, bnx hb1 hb12⟩
      · rw [if_neg hlt] at hE
        rw [show shT l b = [] by unfold shT; rw [hE]; rfl, hE]
        have hgt : s < n' := by omega
        clear hE hr hw hlb hwidth hlen
        go_enter Try.func64, Try.ntmps64
        go_wp2_with fail
        go_fit hright
        rintro e w1 ⟨rfl, hb1⟩
        go_wp2_with fail
        go_fit (Hwidth.out w1 (h.up (hb1.mono hB)) (Nat.le_trans hB hb1.size))
        rintro e w2 ⟨rfl, hb12⟩
        have hb2 := bnx hb1 hb12
        go_wp2_with fail
        go_fit (Hwidth.out w2 (h.up (hb2.mono hB)) (Nat.le_trans hB hb2.size))
        rintro e w3 ⟨rfl, hb23⟩
        go_wp2
        go_ret2
        exact ⟨none, 0, 0, rfl, World.ownsRow_nil _ _ _ _, bnx hb2 hb23⟩

end Go.Proofs.Ytonejdjhdjckjaa
