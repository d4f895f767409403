/-
  knows, SchemaWire walked (printed by gen_sch6.py).
-/
import Derived.Test.YtonejdjhdjckjaaSch7
set_option linter.unusedSimpArgs false
set_option linter.unusedVariables false
namespace Go.Proofs.Ytonejdjhdjckjaa
open Go.RowKit NumLaw
attribute [local go_sem] Addr.add_mid
attribute [-go_sem] run_eql_struct run_neq_struct

theorem takeN_ne {α : Type} {L L' : List α} {k : Nat} {x y : α} (hx : L[k]? = some x) (hy : L'[k]? = some y) (h : L = L') : x = y := by
  subst h; rw [hx] at hy; injection hy
theorem frm0_len : (frm 0).2.length = 6 := by decide +kernel
theorem frm0_at : (stb PtT.sz (frm 0).2)[0]? = some ⟨⟨#[99, 117, 115, 116, 111, 109, 95, 109, 111, 100, 101]⟩, 4, false, 0⟩ := by rfl
theorem frm0_wd : wdS (frm 0).2 = 9 := by decide +kernel
set_option maxRecDepth 10000 in
set_option maxHeartbeats 4000000 in
theorem knows31 (w : World) : Calls Try.prog 11 #[] w fun e w' => e = .returned (.bool true) ∧ Below w.heap.size w w' := by
  have hp := parts31_any 0 w
  have hwd := fun w => width_any 0 w
  have hl := frm0_len
  have hx := frm0_at
  rw [frm0_wd] at hwd
  generalize (frm 0).2 = L at *
  have Hp := Lib.hid hp
  have Hwd := Lib.hid hwd
  have Hl := Lib.hid hl
  have Hx := Lib.hid hx
  clear hp hwd hl hx
  go_enter Try.func11, Try.ntmps11
  go_wp2_with fail
  go_fit Hp.out
  rintro e w1 ⟨A, n, c, rfl, hr, hb1⟩
  obtain rfl : n = 6 := by rw [← hr.len]; exact Hl.out
  go_wp2_with fail
  go_fit (wire31_any A 6 c L w1 hr (by omega))
  rintro e w2 ⟨A2, c2, rfl, hr2, hbx⟩
  have hb2 := bnx hb1 hbx
  have hmx := hr2.2.2.2.1
  have hle := hr2.2.2.1
  unfold maxLen at hmx
  obtain ⟨g, off, x, rfl, hg, hx2, hc⟩ := RdP.at_ hr2 (show 0 < 6 by omega)
  obtain rfl : x = ⟨⟨#[99, 117, 115, 116, 111, 109, 95, 109, 111, 100, 101]⟩, 4, false, 0⟩ := by have h0 := Hx.out; rw [hx2] at h0; injection h0
  have k0 : w2.cell? ⟨g, off, none⟩ = some (.string ⟨#[99, 117, 115, 116, 111, 109, 95, 109, 111, 100, 101]⟩) := by have k := hc 0 _ rfl; simpa using k
  clear hc hx2 hr2 hbx hb1 hr
  go_wp2_with fail
  go_fit (ids_any w2)
  rintro e w3 ⟨A3, n3, c3, rfl, hi3, hbx⟩
  have hb3 := bnx hb2 hbx
  obtain rfl : n3 = 22 := by rw [← hi3.len]; rfl
  have k1 := (hbx.cell (p := ⟨g, off, none⟩) hg).trans k0
  have hg1 : g < w3.heap.size := by have := hbx.size; omega
  clear hbx k0 hb2
  go_wp2_with fail
  go_fit (qids_any w3)
  rintro e w4 ⟨A4, n4, c4, rfl, hi4, hbx⟩
  have hb4 := bnx hb3 hbx
  obtain rfl : n4 = 22 := by rw [← hi4.len]; rfl
  have k2 := (hbx.cell (p := ⟨g, off, none⟩) hg1).trans k1
  have hg2 : g < w4.heap.size := by have := hbx.size; omega
  have h : RdN w4 w4.heap.size A3 22 c3 idsN := RdR.more (RdR.up hi3 hbx) hbx.size
  have h' : RdN w4 w4.heap.size A4 22 c4 idsN := hi4
  have hmx3 := h.2.2.2.1
  have hle3 := h.2.2.1
  have hmx4 := h'.2.2.2.1
  have hle4 := h'.2.2.1
  unfold maxLen at hmx3 hmx4
  have Hk2 := Lib.hid (show ∀ wq, Below w4.heap.size w4 wq → wq.cell? ⟨g, off, none⟩ = some (.string ⟨#[99, 117, 115, 116, 111, 109, 95, 109, 111, 100, 101]⟩) from fun wq hbq => (hbq.cell (p := ⟨g, off, none⟩) hg2).trans k2)
  clear hbx k1 hb3 hg1 hg k2
  go_wp2_with fail
  go_loopw [4] (fun i wr => ∃ k : Nat, k ≤ 22 ∧ i = .int .i64 k ∧ Below w4.heap.size w4 wr) (fun i _ => 22 - (intOf i).toNat)
  case atStart => exact ⟨0, by omega, rfl, Below.refl _ _⟩
  case round =>
    obtain ⟨k, hk, rfl, hb⟩ := hrel
    by_cases hlt : k < 22
    · have hlt' : (k : Int) < 22 := by omega
      obtain ⟨ga, offa, x, rfl, hga, hx, hr⟩ := RdN.at_ h hlt
      obtain ⟨gb, offb, y, rfl, hgb, hy, hr'⟩ := RdN.at_ h' hlt
      obtain rfl : x = y := takeN_ne hx hy rfl
      have Hr := Lib.hid (show ∀ wq, Below w4.heap.size w4 wq → wq.cell? ⟨ga, offa + k, none⟩ = some (.int .i64 (x : Int)) from fun wq hbq => (hbq.cell (p := ⟨ga, offa + k, none⟩) hga).trans hr)
      have Hr' := Lib.hid (show ∀ wq, Below w4.heap.size w4 wq → wq.cell? ⟨gb, offb + k, none⟩ = some (.int .i64 (x : Int)) from fun wq hbq => (hbq.cell (p := ⟨gb, offb + k, none⟩) hgb).trans hr')
      clear hx hy hr hr'
      go_wp2_with fail
      refine Ord.region_ (fun w' => Below w4.heap.size w4 w') false [] (by kernel_rfl) (by kernel_rfl) hb.drew ?_
      replace hb := hb.drew
      generalize wr.drew = wd at *
      ((with_reducible refine Ord.e_p (v := ?_) ?_ ?_ ?_ ?_); rotate_left; (· exact rfl); (· kernel_rfl); (· intro w2; go_simp; try with_reducible rfl))
      (try simp only [Act.put, List.setIfInBounds_toArray, List.set_cons_zero, List.set_cons_succ])
      ((with_reducible refine Ord.e_p (v := ?_) ?_ ?_ ?_ ?_); rotate_left; (· exact rfl); (· kernel_rfl); (· intro w2; go_simp; try with_reducible rfl))
      (try simp only [Act.put, List.setIfInBounds_toArray, List.set_cons_zero, List.set_cons_succ])
      ((with_reducible refine Ord.e_p (v := ?_) ?_ ?_ ?_ ?_); rotate_left; (· exact rfl); (· kernel_rfl); (· intro w2; go_simp; try with_reducible rfl))
      (try simp only [Act.put, List.setIfInBounds_toArray, List.set_cons_zero, List.set_cons_succ])
      refine Ord.e_loadS (ad := ⟨ga, offa + k, none⟩) Try.underlying3 rfl (fun w' hS => Hr.out w' hS) hb rfl (by kernel_rfl) ?_
      (try simp only [Act.put, List.setIfInBounds_toArray, List.set_cons_zero, List.set_cons_succ])
      ((with_reducible refine Ord.e_p (v := ?_) ?_ ?_ ?_ ?_); rotate_left; (· exact rfl); (· kernel_rfl); (· intro w2; go_simp; try with_reducible rfl))
      (try simp only [Act.put, List.setIfInBounds_toArray, List.set_cons_zero, List.set_cons_succ])
      ((with_reducible refine Ord.e_p (v := ?_) ?_ ?_ ?_ ?_); rotate_left; (· exact rfl); (· kernel_rfl); (· intro w2; go_simp; try with_reducible rfl))
      (try simp only [Act.put, List.setIfInBounds_toArray, List.set_cons_zero, List.set_cons_succ])
      ((with_reducible refine Ord.e_p (v := ?_) ?_ ?_ ?_ ?_); rotate_left; (· exact rfl); (· kernel_rfl); (· intro w2; go_simp; try with_reducible rfl))
      (try simp only [Act.put, List.setIfInBounds_toArray, List.set_cons_zero, List.set_cons_succ])
      refine Ord.e_loadS (ad := ⟨gb, offb + k, none⟩) Try.underlying3 rfl (fun w' hS => Hr'.out w' hS) hb rfl (by kernel_rfl) ?_
      (try simp only [Act.put, List.setIfInBounds_toArray, List.set_cons_zero, List.set_cons_succ])
      ((with_reducible refine Ord.e_p (v := ?_) ?_ ?_ ?_ ?_); rotate_left; (· exact rfl); (· kernel_rfl); (· intro w2; go_simp; try with_reducible rfl))
      (try simp only [Act.put, List.setIfInBounds_toArray, List.set_cons_zero, List.set_cons_succ])
      refine Ord.e_nil ?_
      have hxb : ((x : Int) != (x : Int)) = false := by simp
      go_wp2
      go_roundw
      case rel => exact ⟨k + 1, by omega, by go_num, hb⟩
      case measure => simp [intOf]; omega
    · obtain rfl : k = 22 := by omega
      have k3 := Hk2.out wr hb
      go_wp2_with fail
      go_fit (Hwd.out wr)
      rintro e w5 ⟨rfl, hbx⟩
      have hb5 := bnx hb hbx
      have k4 := Hk2.out w5 hb5
      have hb6 := bnx hb4 hb5
      clear hbx hb5 hb k3
      go_wp2
      go_ret
      exact ⟨rfl, hb6⟩
theorem sz_down {L : List PtT} {k j : Nat} {x y : PtT} (hx : (stb PtT.sz L)[k]? = some x) (hy : (stb PtT.sz L)[j]? = some y) (h : j < k) : ¬ y.sz < x.sz := by
  have hs := List.pairwise_iff_getElem.1 (stb_sorted PtT.sz L)
  obtain ⟨hk, rfl⟩ := List.getElem?_eq_some_iff.1 hx
  obtain ⟨hj, rfl⟩ := List.getElem?_eq_some_iff.1 hy
  have := hs j k hj hk h
  omega
set_option maxRecDepth 10000 in
set_option maxHeartbeats 4000000 in
theorem schemawire_any (A : Option Addr) (n c : Nat) (L : List PtT) (w : World) (h : RdP w w.heap.size A n c L) (hq : ∀ x ∈ L, PtB x) :
    Calls Try.prog 3 #[.slice A n c] w fun e w' => e = .returned (.bool true) ∧ Below w.heap.size w w' := by
  have hmx := h.2.2.2.1
  have hle := h.2.2.1
  unfold maxLen at hmx
  have Hl := Lib.hid h.len
  by_cases h60 : 60 < n
  · have h60' : (60 : Int) < (n : Int) := by omega
    go_enter Try.func3, Try.ntmps3
    go_wp2_with fail
    go_fit (knows31 _)
    rintro e w1 ⟨rfl, hb⟩
    go_wp2
    go_ret
    exact ⟨rfl, hb⟩
  have h60' : ¬ (60 : Int) < (n : Int) := by omega
  go_enter Try.func3, Try.ntmps3
  go_wp2_with fail
  go_fit (knows31 _)
  rintro e w1 ⟨rfl, hb1⟩
  have h1 : RdP w1 w1.heap.size A n c L := RdR.more (RdR.up h hb1) hb1.size
  clear h
  go_wp2_with fail
  go_fit (wire31_any A n c L w1 h1 (by omega))
  rintro e w2 ⟨A2, c2, rfl, hr2, hbx⟩
  have hb2 := bnx hb1 hbx
  have h2 : RdP w2 w2.heap.size A n c L := RdR.more (RdR.up h1 hbx) hbx.size
  have hmx2 := hr2.2.2.2.1
  have hle2 := hr2.2.2.1
  unfold maxLen at hmx2
  have hnn : ((n : Int) != (n : Int)) = false := by simp
  clear h1 hb1 hbx
  go_wp2_with fail
  go_loopw [4] (fun i wr => ∃ k : Nat, 1 ≤ k ∧ k ≤ 9 ∧ i = .int .i64 k ∧ Below w2.heap.size w2 wr) (fun i _ => 9 - (intOf i).toNat)
  case atStart => exact ⟨1, by omega, by omega, rfl, Below.refl _ _⟩
  case round =>
    obtain ⟨k, hk1, hk, rfl, hb⟩ := hrel
    by_cases hlt : k < 9
    · have hlt' : (k : Int) ≤ 8 := by omega
      have r2 : RdP wr wr.heap.size A2 n c2 (stb PtT.sz L) := RdR.more (RdR.up hr2 hb) hb.size
      have r1 : RdP wr wr.heap.size A n c L := RdR.more (RdR.up h2 hb) hb.size
      go_wp2_with fail
      go_fit (sized_any A2 n c2 (stb PtT.sz L) (k : Int) wr r2 (by omega))
      rintro e w3 ⟨A3, n3, c3, rfl, hr3, hbx⟩
      have hb3 := bnx hb hbx
      have s1 : RdP w3 w3.heap.size A n c L := RdR.more (RdR.up r1 hbx) hbx.size
      clear r1 r2 hbx hb
      go_wp2_with fail
      go_fit (sized_any A n c L (k : Int) w3 s1 (by omega))
      rintro e w4 ⟨A4, n4, c4, rfl, hr4, hbx⟩
      have hb4 := bnx hb3 hbx
      have s3 : RdP w4 w4.heap.size A3 n3 c3 (byS PtT.sz (k : Int) (stb PtT.sz L)) := RdR.more (RdR.up hr3 hbx) hbx.size
      rw [byS_stb] at s3
      clear s1 hbx hb3 hr3
      go_wp2_with fail
      go_fit (qsame31_any A3 n3 c3 A4 n4 c4 _ _ w4 s3 hr4)
      rintro e w5 ⟨rfl, hbx⟩
      rw [show decide (byS PtT.sz (k : Int) L = byS PtT.sz (k : Int) L) = true from decide_eq_true rfl]
      have hb5 := bnx hb4 hbx
      clear s3 hr4 hbx hb4
      go_wp2
      go_roundw
      case rel => exact ⟨k + 1, by omega, by omega, by go_num, hb5⟩
      case measure => simp [intOf]; omega
    · have hlt' : ¬ (k : Int) ≤ 8 := by omega
      clear h2 hk1
      obtain ⟨w3, hw3⟩ : ∃ w3, w3 = wr := ⟨_, rfl⟩
      subst hw3
      have r2 : RdP w3 w3.heap.size A2 n c2 (stb PtT.sz L) := RdR.more (RdR.up hr2 hb) hb.size
      have hb3 := bnx hb2 hb
      clear hr2 hb hb2
      go_wp2_with fail
      go_loopw [5] (fun i wq => ∃ k : Nat, 1 ≤ k ∧ (k ≤ n ∨ k = 1) ∧ i = .int .i64 k ∧ Below w3.heap.size w3 wq) (fun i _ => n - (intOf i).toNat)
      case atStart => exact ⟨1, by omega, .inr rfl, rfl, Below.refl _ _⟩
      case round =>
        obtain ⟨k, hk1, hkn, rfl, hb⟩ := hrel
        by_cases hlt : k < n
        · obtain ⟨j, hj⟩ : ∃ j, k = j + 1 := ⟨k - 1, by omega⟩
          have hlt' : (k : Int) < (n : Int) := by omega
          have hjn : j < n := by omega
          have hjn' : (j : Int) < (n : Int) := by omega
          have hsub : IntKind.i64.wrap ((k : Int) - 1) = (j : Int) := by rw [show (k : Int) - 1 = (j : Int) by omega]; exact IntWalk.i64_in _ (by omega)
          obtain ⟨g, off, x, rfl, hg, hx, hc⟩ := RdP.at_ r2 hlt
          obtain ⟨g', off', y, hgg, hg', hy, hc'⟩ := RdP.at_ r2 hjn
          injection hgg with hgg
          injection hgg with e1 e2 _
          subst e1
          subst e2
          have Hr := Lib.hid (show ∀ wq, Below w3.heap.size w3 wq → wq.cell? ⟨g, off + k * 4 + 1, none⟩ = some (.int .i64 x.sz) from fun wq hbq => (hbq.cell (p := ⟨g, off + k * 4 + 1, none⟩) hg).trans (hc 1 _ rfl))
          have Hr' := Lib.hid (show ∀ wq, Below w3.heap.size w3 wq → wq.cell? ⟨g, off + j * 4 + 1, none⟩ = some (.int .i64 y.sz) from fun wq hbq => (hbq.cell (p := ⟨g, off + j * 4 + 1, none⟩) hg).trans (hc' 1 _ rfl))
          have hgt : ¬ y.sz < x.sz := sz_down hx hy (by omega)
          generalize x.sz = zx at *
          generalize y.sz = zy at *
          have Hj := Lib.hid hj
          clear hj hx hy hc hc' hg'
          go_wp2_with fail
          refine Ord.region_ (fun w' => Below w3.heap.size w3 w') false [] (by kernel_rfl) (by kernel_rfl) hb.drew ?_
          replace hb := hb.drew
          generalize wr.drew = wd at *
          ((with_reducible refine Ord.e_p (v := ?_) ?_ ?_ ?_ ?_); rotate_left; (· exact rfl); (· kernel_rfl); (· intro w2; go_simp; try with_reducible rfl))
          (try simp only [Act.put, List.setIfInBounds_toArray, List.set_cons_zero, List.set_cons_succ])
          ((with_reducible refine Ord.e_p (v := ?_) ?_ ?_ ?_ ?_); rotate_left; (· exact rfl); (· kernel_rfl); (· intro w2; go_simp; try with_reducible rfl))
          (try simp only [Act.put, List.setIfInBounds_toArray, List.set_cons_zero, List.set_cons_succ])
          ((with_reducible refine Ord.e_p (v := ?_) ?_ ?_ ?_ ?_); rotate_left; (· exact rfl); (· kernel_rfl); (· intro w2; go_simp; try with_reducible rfl))
          (try simp only [Act.put, List.setIfInBounds_toArray, List.set_cons_zero, List.set_cons_succ])
          ((with_reducible refine Ord.e_p (v := ?_) ?_ ?_ ?_ ?_); rotate_left; (· exact rfl); (· kernel_rfl); (· intro w2; go_simp; try with_reducible rfl))
          (try simp only [Act.put, List.setIfInBounds_toArray, List.set_cons_zero, List.set_cons_succ])
          refine Ord.e_loadS (ad := ⟨g, off + k * 4 + 1, none⟩) Try.underlying3 rfl (fun w' hS => Hr.out w' hS) hb rfl (by kernel_rfl) ?_
          (try simp only [Act.put, List.setIfInBounds_toArray, List.set_cons_zero, List.set_cons_succ])
          ((with_reducible refine Ord.e_p (v := ?_) ?_ ?_ ?_ ?_); rotate_left; (· exact rfl); (· kernel_rfl); (· intro w2; go_simp; try with_reducible rfl))
          (try simp only [Act.put, List.setIfInBounds_toArray, List.set_cons_zero, List.set_cons_succ])
          ((with_reducible refine Ord.e_p (v := ?_) ?_ ?_ ?_ ?_); rotate_left; (· exact rfl); (· kernel_rfl); (· intro w2; go_simp; try with_reducible rfl))
          (try simp only [Act.put, List.setIfInBounds_toArray, List.set_cons_zero, List.set_cons_succ])
          refine Ord.e_p (v := .int .i64 (j : Int)) rfl (by kernel_rfl) (fun w2 => by go_simp) ?_
          (try simp only [Act.put, List.setIfInBounds_toArray, List.set_cons_zero, List.set_cons_succ])
          ((with_reducible refine Ord.e_p (v := ?_) ?_ ?_ ?_ ?_); rotate_left; (· exact rfl); (· kernel_rfl); (· intro w2; go_simp; try with_reducible rfl))
          (try simp only [Act.put, List.setIfInBounds_toArray, List.set_cons_zero, List.set_cons_succ])
          ((with_reducible refine Ord.e_p (v := ?_) ?_ ?_ ?_ ?_); rotate_left; (· exact rfl); (· kernel_rfl); (· intro w2; go_simp; try with_reducible rfl))
          (try simp only [Act.put, List.setIfInBounds_toArray, List.set_cons_zero, List.set_cons_succ])
          refine Ord.e_loadS (ad := ⟨g, off + j * 4 + 1, none⟩) Try.underlying3 rfl (fun w' hS => Hr'.out w' hS) hb rfl (by kernel_rfl) ?_
          (try simp only [Act.put, List.setIfInBounds_toArray, List.set_cons_zero, List.set_cons_succ])
          have hgd : decide (zy < zx) = false := by rw [decide_eq_false_iff_not]; omega
          refine Ord.e_p (v := .bool false) rfl (by kernel_rfl) (fun w2 => by go_simp) ?_
          (try simp only [Act.put, List.setIfInBounds_toArray, List.set_cons_zero, List.set_cons_succ])
          refine Ord.e_nil ?_
          go_wp2
          go_roundw
          case rel => exact ⟨k + 1, by omega, .inl (by omega), by go_num, hb⟩
          case measure => simp [intOf]; omega
        · have hlt' : ¬ (k : Int) < (n : Int) := by omega
          have hbf := bnx hb3 hb
          go_wp2
          go_ret
          exact ⟨rfl, hbf⟩

end Go.Proofs.Ytonejdjhdjckjaa
