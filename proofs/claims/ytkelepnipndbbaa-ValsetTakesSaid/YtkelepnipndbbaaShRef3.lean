/-
  The document's shapes: Put walked.
-/
import Derived.Test.YtkelepnipndbbaaShRef2
import Derived.Test.YtkelepnipndbbaaOctRefW
import Derived.Deep.QuietTactic
import Derived.BigQuiet
set_option linter.unusedSimpArgs false
set_option linter.unusedVariables false
namespace Go.Proofs.Ytkelepnipndbbaa
open Go.RowKit NumLaw
attribute [local go_sem] Addr.add_mid

set_option maxRecDepth 10000 in
set_option maxHeartbeats 4000000 in
theorem qPut14_go (A : Option Addr) (n c B : Nat) (l : List FieldV) (A' : Option Addr) (c' B' : Nat) (vs : List Int) (w : World) (h : RdF w B A n c l) (hB : B ≤ w.heap.size) (h' : Rd w B' 1 A' n c' (vs.map (Value.int .i64))) (hB' : B' ≤ w.heap.size) (hn : n ≤ 100000) (hr : rightL l = true) :
    Calls Try.prog 93 #[.slice A n c, .slice A' n c'] w (RetPS w (shP l vs) (shE l vs)) := by
  have hle := h.2.1
  have hlv : vs.length = n := by have := h'.len; simpa using this
  have Hl := Lib.hid h.1
  have Hlv := Lib.hid hlv
  have Hr := Lib.hid hr
  have hright := qRight_any A n c B l w h hB
  rw [hr] at hright
  have hE : shE l vs = if inAll l vs = true then 0 else 5 := by unfold shE; rw [if_pos ⟨hr, by rw [hlv, h.1]⟩]
  have HE := Lib.hid hE
  obtain ⟨oE, hoE⟩ : ∃ oE, oE = shE l vs := ⟨_, rfl⟩
  obtain ⟨oP, hoP⟩ : ∃ oP, oP = shP l vs := ⟨_, rfl⟩
  rw [← hoE, ← hoP]
  have HoE := Lib.hid hoE
  have HoP := Lib.hid hoP
  obtain ⟨i0, hi0⟩ := info_parts u8_info
  have Hi := Lib.hid hi0
  clear hr hlv hE hoE hoP hi0
  go_enter Try.func93, Try.ntmps93
  go_wp2_with fail
  go_fit hright
  rintro e w1 ⟨rfl, hb1⟩
  go_wp2_with fail
  go_loopw [6, 7] (fun s i wr => ∃ (k : Nat) (A6 : Option Addr) (m c6 : Nat) (lw : List UInt8), k ≤ n ∧ i = .int .i64 k ∧ s = .slice A6 m c6 ∧ wr.ownsRow w.heap.size 5 1 (.slice A6 m c6) m (bv lw) ∧ Below w.heap.size w wr ∧ m ≤ k * 8 ∧ Hid (lw = ((l.zip vs).take k).flatMap fun p => bytesN p.1.size.toNat (un p.2)) ∧ Hid (((l.zip vs).take k).all (fun p => inF p.1 p.2) = true)) (fun _ i _ => n - (intOf i).toNat)
  case atStart => exact ⟨0, none, 0, 0, [], by omega, rfl, rfl, World.ownsRow_nil _ _ _ _, hb1, by omega, Lib.hid rfl, Lib.hid rfl⟩
  case round =>
    clear hb1 w1
    obtain ⟨k, A6, m, c6, lw, hk, rfl, rfl, hown, hb, hlw, hlB, hall⟩ := hrel
    by_cases hlt : k < n
    · obtain ⟨gf, off, f, rfl, hgf, hx, h1, h2, h3, h4, _⟩ := h.at_ hlt
      obtain ⟨adv, uv, rfl, hu, hcv⟩ := h'.one hlt
      obtain ⟨x, hxx, rfl⟩ : ∃ x, vs[k]? = some x ∧ Value.int .i64 x = uv := by simpa using hu
      have hadv : adv.block < B' := by
        obtain ⟨ad', e', hb', _⟩ := h'.at_ (by omega)
        injection e' with e'
        rw [e']; exact hb'
      have hgw : gf < w.heap.size := by omega
      have haw : (adv.add k).block < w.heap.size := by rw [blk_add]; omega
      have hfit := right_fits (List.all_eq_true.1 Hr.out _ (List.mem_of_getElem? hx))
      have hzs := zip_take_succ hx hxx
      have Hs := Lib.hid hzs
      have hm : (f, x) ∈ l.zip vs := List.mem_of_getElem? (i := k) (by rw [List.getElem?_zip_eq_some]; exact ⟨hx, hxx⟩)
      have Hm := Lib.hid hm
      clear hu hxx hx hzs hm
      obtain ⟨size, sg, lo, hi⟩ := f
      simp only at h1 h2 h3 h4 hfit Hs
      obtain ⟨sz, rfl⟩ : ∃ sz : Nat, size = sz := ⟨size.toNat, by omega⟩
      have Hbad : Hid (inF ⟨(sz : Int), sg, lo, hi⟩ x = false → oE = 5 ∧ oP = []) := Lib.hid (fun hin => by
        have hna : inAll l vs = false := by
          unfold inAll
          rw [List.all_eq_false]
          exact ⟨_, Hm.out, by rw [hin]; simp⟩
        have h5 : oE = 5 := by rw [HoE.out, HE.out, if_neg (by rw [hna]; simp)]
        refine ⟨h5, ?_⟩
        rw [HoP.out]; unfold shP; rw [if_neg (by rw [← HoE.out, h5]; simp)])
      rcases (by omega : x < lo ∨ (¬ x < lo ∧ hi < x) ∨ (¬ x < lo ∧ ¬ hi < x)) with g1 | ⟨g1, g2⟩ | ⟨g1, g2⟩
      · obtain ⟨rfl, rfl⟩ := Hbad.out (decide_eq_false (by simp only; omega))
        have e1 := (hb.cell haw).trans hcv
        have e2 := (hb.cell (p := ⟨gf, off + k * 4 + 2, none⟩) hgw).trans h3
        clear Hbad
        go_wp2_with fail
        go_quiet (fail)
        go_wp2
        go_ret2
        exact ⟨none, 0, 0, rfl, World.ownsRow_nil _ _ _ _, below_drewN hb _⟩
      · have d1 : decide (x < lo) = false := decide_eq_false g1
        have d2 : decide (hi < x) = true := decide_eq_true g2
        obtain ⟨rfl, rfl⟩ := Hbad.out (decide_eq_false (by simp only; omega))
        go_wp2_with fail
        refine Ord.region_ (fun w' => Below w.heap.size w w') false [] (by kernel_rfl) (by kernel_rfl) hb.drew ?_
        replace hb := hb.drew
        generalize wr.drew = w3 at *
        repeat (first | (refine Ord.e_p (v := ?_) rfl (by rfl) ?_ ?_; rotate_left; · (intro w2; go_simp; try with_reducible rfl)) | (refine Ord.e_u (by rfl) ?_)); (try simp only [Act.put, List.setIfInBounds_toArray, List.set_cons_zero, List.set_cons_succ])
        refine Ord.e_loadS Try.underlying2 rfl (fun w' hS => ((show Below _ w w' from hS).cell haw).trans hcv) hb rfl (by rfl) ?_
        (try simp only [Act.put, List.setIfInBounds_toArray, List.set_cons_zero, List.set_cons_succ])
        repeat (first | (refine Ord.e_p (v := ?_) rfl (by rfl) ?_ ?_; rotate_left; · (intro w2; go_simp; try with_reducible rfl)) | (refine Ord.e_u (by rfl) ?_)); (try simp only [Act.put, List.setIfInBounds_toArray, List.set_cons_zero, List.set_cons_succ])
        refine Ord.e_loadS Try.underlying2 rfl (fun w' hS => ((show Below _ w w' from hS).cell (p := ⟨gf, off + k * 4 + 2, none⟩) hgw).trans h3) hb rfl (by rfl) ?_
        (try simp only [Act.put, List.setIfInBounds_toArray, List.set_cons_zero, List.set_cons_succ])
        repeat (first | (refine Ord.e_p (v := ?_) rfl (by rfl) ?_ ?_; rotate_left; · (intro w2; go_simp; try with_reducible rfl)) | (refine Ord.e_u (by rfl) ?_)); (try simp only [Act.put, List.setIfInBounds_toArray, List.set_cons_zero, List.set_cons_succ])
        refine Ord.e_loadS Try.underlying2 rfl (fun w' hS => ((show Below _ w w' from hS).cell haw).trans hcv) hb rfl (by rfl) ?_
        (try simp only [Act.put, List.setIfInBounds_toArray, List.set_cons_zero, List.set_cons_succ])
        repeat (first | (refine Ord.e_p (v := ?_) rfl (by rfl) ?_ ?_; rotate_left; · (intro w2; go_simp; try with_reducible rfl)) | (refine Ord.e_u (by rfl) ?_)); (try simp only [Act.put, List.setIfInBounds_toArray, List.set_cons_zero, List.set_cons_succ])
        refine Ord.e_loadS Try.underlying2 rfl (fun w' hS => ((show Below _ w w' from hS).cell (p := ⟨gf, off + k * 4 + 3, none⟩) hgw).trans h4) hb rfl (by rfl) ?_
        (try simp only [Act.put, List.setIfInBounds_toArray, List.set_cons_zero, List.set_cons_succ])
        repeat (first | (refine Ord.e_p (v := ?_) rfl (by rfl) ?_ ?_; rotate_left; · (intro w2; go_simp; try with_reducible rfl)) | (refine Ord.e_u (by rfl) ?_)); (try simp only [Act.put, List.setIfInBounds_toArray, List.set_cons_zero, List.set_cons_succ])
        refine Ord.e_nil ?_
        go_wp2
        go_ret2
        exact ⟨none, 0, 0, rfl, World.ownsRow_nil _ _ _ _, hb⟩
      · have d1 : decide (x < lo) = false := decide_eq_false g1
        have d2 : decide (hi < x) = false := decide_eq_false g2
        have HIN : Hid (inF ⟨(sz : Int), sg, lo, hi⟩ x = true) := Lib.hid (decide_eq_true (by simp only; omega))
        clear Hbad
        go_wp2_with fail
        refine Ord.region_ (fun w' => Below w.heap.size w w') false [] (by kernel_rfl) (by kernel_rfl) hb.drew ?_
        replace hb := hb.drew
        replace hown := hown.drew
        generalize wr.drew = w3 at *
        repeat (first | (refine Ord.e_p (v := ?_) rfl (by rfl) ?_ ?_; rotate_left; · (intro w2; go_simp; try with_reducible rfl)) | (refine Ord.e_u (by rfl) ?_)); (try simp only [Act.put, List.setIfInBounds_toArray, List.set_cons_zero, List.set_cons_succ])
        refine Ord.e_loadS Try.underlying2 rfl (fun w' hS => ((show Below _ w w' from hS).cell haw).trans hcv) hb rfl (by rfl) ?_
        (try simp only [Act.put, List.setIfInBounds_toArray, List.set_cons_zero, List.set_cons_succ])
        repeat (first | (refine Ord.e_p (v := ?_) rfl (by rfl) ?_ ?_; rotate_left; · (intro w2; go_simp; try with_reducible rfl)) | (refine Ord.e_u (by rfl) ?_)); (try simp only [Act.put, List.setIfInBounds_toArray, List.set_cons_zero, List.set_cons_succ])
        refine Ord.e_loadS Try.underlying2 rfl (fun w' hS => ((show Below _ w w' from hS).cell (p := ⟨gf, off + k * 4 + 2, none⟩) hgw).trans h3) hb rfl (by rfl) ?_
        (try simp only [Act.put, List.setIfInBounds_toArray, List.set_cons_zero, List.set_cons_succ])
        repeat (first | (refine Ord.e_p (v := ?_) rfl (by rfl) ?_ ?_; rotate_left; · (intro w2; go_simp; try with_reducible rfl)) | (refine Ord.e_u (by rfl) ?_)); (try simp only [Act.put, List.setIfInBounds_toArray, List.set_cons_zero, List.set_cons_succ])
        refine Ord.e_loadS Try.underlying2 rfl (fun w' hS => ((show Below _ w w' from hS).cell haw).trans hcv) hb rfl (by rfl) ?_
        (try simp only [Act.put, List.setIfInBounds_toArray, List.set_cons_zero, List.set_cons_succ])
        repeat (first | (refine Ord.e_p (v := ?_) rfl (by rfl) ?_ ?_; rotate_left; · (intro w2; go_simp; try with_reducible rfl)) | (refine Ord.e_u (by rfl) ?_)); (try simp only [Act.put, List.setIfInBounds_toArray, List.set_cons_zero, List.set_cons_succ])
        refine Ord.e_loadS Try.underlying2 rfl (fun w' hS => ((show Below _ w w' from hS).cell (p := ⟨gf, off + k * 4 + 3, none⟩) hgw).trans h4) hb rfl (by rfl) ?_
        (try simp only [Act.put, List.setIfInBounds_toArray, List.set_cons_zero, List.set_cons_succ])
        repeat (first | (refine Ord.e_p (v := ?_) rfl (by rfl) ?_ ?_; rotate_left; · (intro w2; go_simp; try with_reducible rfl)) | (refine Ord.e_u (by rfl) ?_)); (try simp only [Act.put, List.setIfInBounds_toArray, List.set_cons_zero, List.set_cons_succ])
        refine Ord.e_nil ?_
        have hun := un_wrap x
        have hul := un_lt x
        obtain ⟨u, hu⟩ : ∃ u, u = un x := ⟨_, rfl⟩
        rw [← hu] at hun hul
        have HU := Lib.hid hu
        clear hu
        go_wp2_with fail
        refine Ord.region_ (fun w' => Below w.heap.size w w') false [] (by kernel_rfl) (by kernel_rfl) hb.drew ?_
        replace hb := hb.drew
        replace hown := hown.drew
        generalize w3.drew = w4 at *
        repeat (first | (refine Ord.e_p (v := ?_) rfl (by rfl) ?_ ?_; rotate_left; · (intro w2; go_simp; try with_reducible rfl)) | (refine Ord.e_u (by rfl) ?_)); (try simp only [Act.put, List.setIfInBounds_toArray, List.set_cons_zero, List.set_cons_succ])
        refine Ord.e_loadS Try.underlying3 rfl (fun w' hS => ((show Below _ w w' from hS).cell (p := ⟨gf, off + k * 4, none⟩) hgw).trans h1) hb rfl (by rfl) ?_
        (try simp only [Act.put, List.setIfInBounds_toArray, List.set_cons_zero, List.set_cons_succ])
        repeat (first | (refine Ord.e_p (v := ?_) rfl (by rfl) ?_ ?_; rotate_left; · (intro w2; go_simp; try with_reducible rfl)) | (refine Ord.e_u (by rfl) ?_)); (try simp only [Act.put, List.setIfInBounds_toArray, List.set_cons_zero, List.set_cons_succ])
        refine Ord.e_loadS Try.underlying2 rfl (fun w' hS => ((show Below _ w w' from hS).cell haw).trans hcv) hb rfl (by rfl) ?_
        (try simp only [Act.put, List.setIfInBounds_toArray, List.set_cons_zero, List.set_cons_succ])
        repeat (first | (refine Ord.e_p (v := ?_) rfl (by rfl) ?_ ?_; rotate_left; · (intro w2; go_simp; try with_reducible rfl)) | (refine Ord.e_u (by rfl) ?_)); (try simp only [Act.put, List.setIfInBounds_toArray, List.set_cons_zero, List.set_cons_succ])
        refine Ord.e_x rfl (by rfl) ?_
        go_wp2_with fail
        go_fit (qBytes_any sz u w4 (by omega) hul)
        rintro e w5 ⟨A5, c5, n5, rfl, hown5, hb45⟩
        have hn5 := own_len hown5
        rw [bytesN_len] at hn5
        have hb5 := bnx hb hb45
        have hown45 := own_up hown hb45 (Nat.le_refl _)
        go_wp2_with fail
        refine Ord.Seg.go hb5 (fun h => by cases h) ?_
        (try simp only [Act.put, List.setIfInBounds_toArray, List.set_cons_zero, List.set_cons_succ])
        repeat (first | (refine Ord.e_p (v := ?_) rfl (by rfl) ?_ ?_; rotate_left; · (intro w2; go_simp; try with_reducible rfl)) | (refine Ord.e_u (by rfl) ?_)); (try simp only [Act.put, List.setIfInBounds_toArray, List.set_cons_zero, List.set_cons_succ])
        refine Ord.e_x rfl (by rfl) ?_
        refine wpList_app Try.underlying46 Hi.out rfl (by omega) hown45 rfl (Rd.own hown5) rfl (bv_one _) (k := m + n5) rfl (bv_app _ _).symm (by unfold maxLen; omega) (by omega) hb5.size ?_
        intro A7 c7 w7 hown7 hB7
        have hb7 := hB7 hb5 hb5.size (Nat.le_refl _)
        clear hB7 hown45 hown5 hown hb45 hb
        go_wp2_with fail
        refine Ord.Seg.go hb7 (fun h => by cases h) ?_
        (try simp only [Act.put, List.setIfInBounds_toArray, List.set_cons_zero, List.set_cons_succ])
        repeat (first | (refine Ord.e_p (v := ?_) rfl (by rfl) ?_ ?_; rotate_left; · (intro w2; go_simp; try with_reducible rfl)) | (refine Ord.e_u (by rfl) ?_)); (try simp only [Act.put, List.setIfInBounds_toArray, List.set_cons_zero, List.set_cons_succ])
        refine Ord.e_nil ?_
        go_wp2
        go_roundw
        case rel =>
          refine ⟨k + 1, A7, m + n5, c7, _, by omega, by go_num, rfl, hown7, hb7, by omega, Lib.hid ?_, Lib.hid ?_⟩
          · rw [Hs.out, List.flatMap_append, ← hlB.out, HU.out]; simp
          · rw [Hs.out, List.all_append, hall.out]; simp [HIN.out]
        case measure => simp [intOf]; omega
    · obtain rfl : k = n := by omega
      have ht : (l.zip vs).take k = l.zip vs := List.take_of_length_le (by rw [List.length_zip, Hl.out, Hlv.out]; omega)
      rw [ht] at hall hlB
      have hall2 : inAll l vs = true := hall.out
      obtain rfl : oE = 0 := by rw [HoE.out, HE.out, if_pos hall2]
      obtain rfl : oP = lw := by rw [HoP.out, hlB.out]; unfold shP; rw [if_pos HoE.out.symm]; rfl
      clear ht hall2
      go_wp2
      go_ret2
      exact ⟨A6, m, c6, rfl, hown, hb⟩
set_option maxHeartbeats 1000000 in
theorem qPut14_any (A : Option Addr) (n c B : Nat) (l : List FieldV) (A' : Option Addr) (n' c' B' : Nat) (vs : List Int) (w : World) (h : RdF w B A n c l) (hB : B ≤ w.heap.size) (h' : Rd w B' 1 A' n' c' (vs.map (Value.int .i64))) (hB' : B' ≤ w.heap.size) (hn : n ≤ 100000) :
    Calls Try.prog 93 #[.slice A n c, .slice A' n' c'] w (RetPS w (shP l vs) (shE l vs)) := by
  have hlv : vs.length = n' := by have := h'.len; simpa using this
  have hright := qRight_any A n c B l w h hB
  cases hr : rightL l with
  | false =>
    have e1 : shE l vs = 1 := by unfold shE; rw [if_neg (by rw [hr]; simp)]
    rw [show shP l vs = [] by unfold shP; rw [e1]; rfl, e1]
    rw [hr] at hright
    clear hr e1 hlv
    go_enter Try.func93, Try.ntmps93
    go_wp2_with fail
    go_fit hright
    rintro e w1 ⟨rfl, hb1⟩
    go_wp2
    go_ret2
    exact ⟨none, 0, 0, rfl, World.ownsRow_nil _ _ _ _, hb1⟩
  | true =>
    by_cases hnn : n' = n
    · subst hnn
      exact qPut14_go A n' c B l A' c' B' vs w h hB h' hB' hn hr
    · have e1 : shE l vs = 1 := by unfold shE; rw [if_neg (by rw [hlv, h.1]; intro hh; exact hnn hh.2)]
      rw [show shP l vs = [] by unfold shP; rw [e1]; rfl, e1]
      rw [hr] at hright
      have hnn' : ¬ (n' : Int) = (n : Int) := by omega
      clear hr e1 hlv hnn
      go_enter Try.func93, Try.ntmps93
      go_wp2_with fail
      go_fit hright
      rintro e w1 ⟨rfl, hb1⟩
      go_wp2
      go_ret2
      exact ⟨none, 0, 0, rfl, World.ownsRow_nil _ _ _ _, hb1⟩

end Go.Proofs.Ytkelepnipndbbaa
