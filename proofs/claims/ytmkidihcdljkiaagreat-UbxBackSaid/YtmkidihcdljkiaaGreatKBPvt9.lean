/-
  pvt.Of walked, whole; the document's Of.
-/
import Derived.Test.YtmkidihcdljkiaaGreatKBGV
import Derived.Laws.Rows
set_option linter.unusedSimpArgs false
set_option linter.unusedVariables false
namespace Go.Proofs.YtmkidihcdljkiaaGreat
open Go.RowKit NumLaw
attribute [local go_sem] Addr.add_mid

def pz : List Int := List.replicate 32 0
theorem pvC_z : (#[.int .i64 0, .int .i64 0, .int .i64 0, .int .i64 0, .int .i64 0, .int .i64 0, .int .i64 0, .int .i64 0, .int .i64 0, .int .i64 0, .int .i64 0, .int .i64 0, .int .i64 0, .int .i64 0, .int .i64 0, .int .i64 0, .int .i64 0, .int .i64 0, .int .i64 0, .int .i64 0, .int .i64 0, .int .i64 0, .int .i64 0, .int .i64 0, .int .i64 0, .int .i64 0, .int .i64 0, .int .i64 0, .int .i64 0, .int .i64 0, .int .i64 0, .int .i64 0] : Array Value) = pvC pz := rfl
theorem pvC_size (xs : List Int) : (pvC xs).size = xs.length := by simp [pvC]
theorem pvC_one (xs : List Int) : (pvC xs).all (·.oneCell') = true := by
  rw [Array.all_eq_true]
  intro i h
  simp [pvC]
  rfl
theorem pvt_size : (Tryz.prog.info? 23).map (·.size) = some 32 := by kernel_rfl
def RetM (vs : List Int) (w : World) (e : Ending) (w' : World) : Prop := e = .returned (.tuple #[.agg (pvC (pofV vs)), .bool (pofOk vs)]) ∧ Below w.heap.size w w'
set_option maxRecDepth 100000 in
set_option maxHeartbeats 4000000 in
theorem of_any (A : Option Addr) (n c B : Nat) (vs : List Int) (w : World) (h : Rd w B 1 A n c (vs.map (Value.int .i64))) (hB : B ≤ w.heap.size) :
    Calls Tryz.prog 119 #[.slice A n c] w (RetM vs w) := by
  have hlv : vs.length = n := by have := h.len; simpa using this
  have hle := h.le
  have hmx := h.max
  unfold maxLen at hmx
  obtain ⟨a0, a1, a2, a3, hs, hb⟩ := al4 w (.cells #[.slice A n c] 96) (.cells #[.int .i64 0, .int .i64 0, .int .i64 0, .int .i64 0, .int .i64 0, .int .i64 0, .int .i64 0, .int .i64 0, .int .i64 0, .int .i64 0, .int .i64 0, .int .i64 0, .int .i64 0, .int .i64 0, .int .i64 0, .int .i64 0, .int .i64 0, .int .i64 0, .int .i64 0, .int .i64 0, .int .i64 0, .int .i64 0, .int .i64 0, .int .i64 0, .int .i64 0, .int .i64 0, .int .i64 0, .int .i64 0, .int .i64 0, .int .i64 0, .int .i64 0, .int .i64 0] 23) (.cells #[.int .i64 0, .int .i64 0, .int .i64 0, .int .i64 0, .int .i64 0, .int .i64 0, .int .i64 0, .int .i64 0, .int .i64 0, .int .i64 0, .int .i64 0, .int .i64 0, .int .i64 0, .int .i64 0, .int .i64 0, .int .i64 0, .int .i64 0, .int .i64 0, .int .i64 0, .int .i64 0, .int .i64 0, .int .i64 0, .int .i64 0, .int .i64 0, .int .i64 0, .int .i64 0, .int .i64 0, .int .i64 0, .int .i64 0, .int .i64 0, .int .i64 0, .int .i64 0] 23) (.cells #[.int .i64 0] 2)
  have hr1 := h.up (hb.mono hB)
  have Hs := Lib.hid hs
  have Hlv := Lib.hid hlv
  have hz := pvC_z
  have Hz := Lib.hid hz
  obtain ⟨oV, hoV⟩ : ∃ v, v = pofV vs := ⟨_, rfl⟩
  obtain ⟨oK, hoK⟩ : ∃ v, v = pofOk vs := ⟨_, rfl⟩
  unfold RetM
  rw [← hoV, ← hoK]
  have HoV := Lib.hid hoV
  have HoK := Lib.hid hoK
  clear hs hlv hz hoV hoK
  go_enter Tryz.func119, Tryz.ntmps119
  go_wp2_with fail
  generalize ((((w.alloc (.cells #[.slice A n c] 96)).alloc (.cells #[.int .i64 0, .int .i64 0, .int .i64 0, .int .i64 0, .int .i64 0, .int .i64 0, .int .i64 0, .int .i64 0, .int .i64 0, .int .i64 0, .int .i64 0, .int .i64 0, .int .i64 0, .int .i64 0, .int .i64 0, .int .i64 0, .int .i64 0, .int .i64 0, .int .i64 0, .int .i64 0, .int .i64 0, .int .i64 0, .int .i64 0, .int .i64 0, .int .i64 0, .int .i64 0, .int .i64 0, .int .i64 0, .int .i64 0, .int .i64 0, .int .i64 0, .int .i64 0] 23)).alloc (.cells #[.int .i64 0, .int .i64 0, .int .i64 0, .int .i64 0, .int .i64 0, .int .i64 0, .int .i64 0, .int .i64 0, .int .i64 0, .int .i64 0, .int .i64 0, .int .i64 0, .int .i64 0, .int .i64 0, .int .i64 0, .int .i64 0, .int .i64 0, .int .i64 0, .int .i64 0, .int .i64 0, .int .i64 0, .int .i64 0, .int .i64 0, .int .i64 0, .int .i64 0, .int .i64 0, .int .i64 0, .int .i64 0, .int .i64 0, .int .i64 0, .int .i64 0, .int .i64 0] 23)).alloc (.cells #[.int .i64 0] 2)) = w1 at *
  have hpl := places_any (w.heap.size + 2) (w.heap.size + 3) w1
  rw [Hs.out] at hpl
  go_fit hpl
  rintro e w2 ⟨rfl, a4, hb12⟩
  have hb2 := hb.trans (hb12.mono (by omega))
  rw [Hz.out] at a1 a2
  have q0 := (hb12.block _ (by omega)).trans a0
  have q1 := (hb12.block _ (by omega)).trans a1
  have q2 := (hb12.block _ (by omega)).trans a2
  have q3 := (hb12.block _ (by omega)).trans a3
  have hlt4 := blk_lt a4
  have hr2 := hr1.up (hb12.mono (by omega))
  have k0 := blk_cell (i := 0) (v := .slice A n c) q0 rfl
  clear a0 a1 a2 a3 hb12 hb hpl hr1 h
  have fin : ∀ (w9 : World) (x : List Int), w9.heap[w.heap.size + 1]? = some (.cells (pvC x) 23) → x.length = 32 → Below w.heap.size w w9 → ∀ (tmps : Array Value), tmps.getD 2 undef = .pointer (some ⟨w.heap.size + 1, 0, none⟩) → ∀ b : Bool, tmps.getD 3 undef = .bool b → oV = x → oK = b →
      bodyPost Tryz.prog Tryz.f119 (fun e w' => e = .returned (.tuple #[.agg (pvC oV), .bool oK]) ∧ Below w.heap.size w w') Exit.ret { tmps := tmps, defers := [] } w9 := by
    intro w9 x h1 hx h2 tmps ht b hb3 e1 e2
    subst e1; subst e2
    have hr := results_cell2 (P := Tryz.prog) Tryz.results119 tmps w9 (w.heap.size + 1) 23 _ (0, 0) _ ht h1 Tryz.underlying23 rfl (by rw [pvC_size, hx, pvt_size])
    rw [hb3] at hr
    exact bodyPost_ret hr rfl ⟨rfl, h2⟩
  have Fin := Lib.hid fin
  clear fin
  by_cases hn : n = 33
  · have hlv : vs.length = 33 := by rw [Hlv.out, hn]
    have heach := each_any 130 #[.pointer (some ⟨w.heap.size, 0, none⟩)] (fun _ _ => by kernel_rfl) (some ⟨w.heap.size + 4, 0, none⟩) 33 33 (w.heap.size + 5) (plc (w.heap.size + 2) (w.heap.size + 3)) w2
      (OfI (w.heap.size + 2) vs w2) ⟨by rw [q2]; rfl, by rw [q3]; rfl, Aw.refl _ _⟩
      (fun k w' hI => rd_ptrs (ps := plc (w.heap.size + 2) (w.heap.size + 3)) (hI.2.2.keep a4 (by omega)) (by simp [plc, maxLen]))
      (fun k p w' hp hk hI => of_step (w.heap.size + 2) w.heap.size A n c B vs w2 hlv hn q0 hr2 (by omega) (by omega) (by omega) k p w' hp hk hI)
    have Heach := Lib.hid heach
    have Hlv2 := Lib.hid hlv
    subst hn
    clear heach hlv
    go_wp2_with fail
    go_fit Heach.out
    rintro e w3 ⟨rfl, i1, i2, i3⟩
    have hb3 := hb2.trans ⟨i3.os, i3.tape, i3.output, i3.size, fun k hk => i3.block k (by have := hb2.size; omega) (by omega)⟩
    have p1 := i3.keep q1 (by omega)
    have ec : cur33 vs 33 = vs := by unfold cur33; rw [List.take_of_length_le (by rw [Hlv2.out]; omega)]; simp
    rw [ec] at i1 i2
    obtain ⟨z, hz⟩ : ∃ z, z = vs.getD 29 0 := ⟨_, rfl⟩
    rw [← hz] at i2
    have hz2 : vs[29]? = some z := by
      have hlt : 29 < vs.length := by rw [Hlv2.out]; omega
      rw [hz]
      unfold List.getD
      rw [List.getElem?_eq_getElem hlt]
      rfl
    have Hz2 := Lib.hid hz2
    have n0 := blk_cell (i := 0) (v := .int .i64 z) i2 rfl
    clear ec hz hz2 i2 i3 q0 q1 q2 q3 hb2 a4 hlt4 hr2 k0
    by_cases hz0 : z = 0
    · subst hz0
      have hok : pofOk vs = true := by unfold pofOk; exact decide_eq_true ⟨Hlv2.out, Hz2.out⟩
      have e1 : oV = msgOf vs := by rw [HoV.out]; unfold pofV; rw [if_pos hok]
      have e2 : oK = true := by rw [HoK.out, hok]
      have E := Lib.hid (And.intro e1 e2)
      clear hok e1 e2
      go_wp2_with (first | (with_reducible refine stop_loadT 23 ?_) | (with_reducible refine stop_storeT 23 ?_))
      refine go_ (wpList_load_row rfl _ _ rfl (w.heap.size + 2) rfl _ _ _ _ i1 Tryz.underlying23 rfl (by rw [pvC_size, msgOf_len Hlv2.out, pvt_size]) ?_)
      go_wp2_with (first | (with_reducible refine stop_loadT 23 ?_) | (with_reducible refine stop_storeT 23 ?_))
      refine go_ (wpList_store_row rfl _ _ _ rfl (w.heap.size + 1) (pvC (msgOf vs)) rfl rfl _ _ p1 (by rw [pvC_size, msgOf_len Hlv2.out, pvt_size]) (by rw [pvC_size, pvC_size, msgOf_len Hlv2.out]; rfl) (pvC_one _) ?_)
      have hb5 := below_setRow hb3 (show w.heap.size ≤ w.heap.size + 1 by omega) (pvC (msgOf vs))
      have hres5 := setRow_heap _ _ _ (pvC (msgOf vs)) _ _ p1
      generalize (w3.setRow (w.heap.size + 1) (pvC (msgOf vs))) = w5 at *
      go_wp2
      exact Fin.out _ _ hres5 (msgOf_len Hlv2.out) hb5 _ rfl _ rfl E.out.1 E.out.2
    · have hok : pofOk vs = false := by unfold pofOk; exact decide_eq_false (fun h => hz0 (by have := Hz2.out; rw [h.2] at this; injection this with this; exact this.symm))
      have e1 : oV = pz := by rw [HoV.out]; unfold pofV; rw [if_neg (by rw [hok]; simp)]; rfl
      have e2 : oK = false := by rw [HoK.out, hok]
      have E := Lib.hid (And.intro e1 e2)
      clear hok e1 e2
      go_wp2_with (first | (with_reducible refine stop_loadT 23 ?_) | (with_reducible refine stop_storeT 23 ?_))
      refine go_ (wpList_store_row rfl _ _ _ rfl (w.heap.size + 1) (pvC pz) rfl rfl _ _ p1 (by kernel_rfl) rfl (by kernel_rfl) ?_)
      have hb5 := below_setRow hb3 (show w.heap.size ≤ w.heap.size + 1 by omega) (pvC pz)
      have hres5 := setRow_heap _ _ _ (pvC pz) _ _ p1
      generalize (w3.setRow (w.heap.size + 1) (pvC pz)) = w5 at *
      go_wp2
      exact Fin.out _ _ hres5 rfl hb5 _ rfl _ rfl E.out.1 E.out.2
  · have hok : pofOk vs = false := by unfold pofOk; exact decide_eq_false (fun h => hn (by rw [← Hlv.out]; exact h.1))
    have e1 : oV = pz := by rw [HoV.out]; unfold pofV; rw [if_neg (by rw [hok]; simp)]; rfl
    have e2 : oK = false := by rw [HoK.out, hok]
    have E := Lib.hid (And.intro e1 e2)
    clear hok e1 e2
    go_wp2_with (first | (with_reducible refine stop_loadT 23 ?_) | (with_reducible refine stop_storeT 23 ?_))
    refine go_ (wpList_store_row rfl _ _ _ rfl (w.heap.size + 1) (pvC pz) rfl rfl _ _ q1 (by kernel_rfl) rfl (by kernel_rfl) ?_)
    have hb5 := below_setRow hb2 (show w.heap.size ≤ w.heap.size + 1 by omega) (pvC pz)
    have hres5 := setRow_heap _ _ _ (pvC pz) _ _ q1
    generalize (w2.setRow (w.heap.size + 1) (pvC pz)) = w5 at *
    go_wp2
    exact Fin.out _ _ hres5 rfl hb5 _ rfl _ rfl E.out.1 E.out.2

end Go.Proofs.YtmkidihcdljkiaaGreat
