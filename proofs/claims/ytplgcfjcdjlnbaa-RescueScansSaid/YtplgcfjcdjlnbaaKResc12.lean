/-
  same, both Gaps walked (printed by gen_resc12.py).
-/
import Derived.Test.YtplgcfjcdjlnbaaKResc11
set_option linter.unusedSimpArgs false
set_option linter.unusedVariables false
namespace Go.Proofs.Ytplgcfjcdjlnbaa
open Go.RowKit NumLaw CrcLaw
attribute [local go_sem] Addr.add_mid

set_option maxRecDepth 10000 in
set_option maxHeartbeats 8000000 in
theorem fsame_any (A : Option Addr) (n c : Nat) (A' : Option Addr) (n' c' : Nat) (G G' : List FdT) (w : World) (h : RdFd w w.heap.size A n c G) (hG : ∀ f ∈ G, FdE w f) (h' : RdFd w w.heap.size A' n' c' G') (hG' : ∀ f ∈ G', FdE w f) :
    Calls Try.prog 62 #[.slice A n c, .slice A' n' c'] w fun e w' => e = .returned (.bool (decide (G.map fdK = G'.map fdK))) ∧ Below w.heap.size w w' := by
  have hl := h.len
  have hl' := h'.len
  have hmx := h.2.2.2.1
  have hle := h.2.2.1
  have hmx' := h'.2.2.2.1
  have hle' := h'.2.2.1
  unfold maxLen at hmx hmx'
  have Hl := Lib.hid hl
  have Hl' := Lib.hid hl'
  clear hl hl'
  by_cases hn : n = n'
  case neg =>
    have hd : decide (G.map fdK = G'.map fdK) = false := decide_eq_false (fun e => hn (by have e2 := congrArg List.length e; rw [List.length_map, List.length_map, Hl.out, Hl'.out] at e2; exact e2))
    have Hd := Lib.hid hd
    have hn' : ¬ (n : Int) = (n' : Int) := by omega
    have hnq : ((n : Int) != (n' : Int)) = true := by simp; omega
    clear hd
    go_enter Try.func62, Try.ntmps62
    go_wp2
    go_ret
    exact ⟨by rw [Hd.out]; rfl, Below.refl _ _⟩
  subst hn
  have hnn : ((n : Int) != (n : Int)) = false := by simp
  go_enter Try.func62, Try.ntmps62
  go_wp2_with fail
  go_loopw [5] (fun i wr => ∃ k : Nat, k ≤ n ∧ i = .int .i64 k ∧ Below w.heap.size w wr ∧ Hid ((G.map fdK).take k = (G'.map fdK).take k)) (fun i _ => n - (intOf i).toNat)
  case atStart => exact ⟨0, by omega, rfl, Below.refl _ _, Lib.hid rfl⟩
  case round =>
    obtain ⟨k, hk, rfl, hb, ht⟩ := hrel
    by_cases hlt : k < n
    · have hlt' : (k : Int) < (n : Int) := by omega
      obtain ⟨g, off, x, rfl, hg, hx, hr⟩ := RdFd.at_ h hlt
      obtain ⟨g', off', y, rfl, hg', hy, hr'⟩ := RdFd.at_ h' hlt
      have Hr := Lib.hid (show ∀ wq, Below w.heap.size w wq → wq.rangeAt g (off + k * 3) (fdC x) from fun wq hbq j v hv => (hbq.cell (p := ⟨g, off + k * 3 + j, none⟩) hg).trans (hr j v hv))
      have Hr' := Lib.hid (show ∀ wq, Below w.heap.size w wq → wq.rangeAt g' (off' + k * 3) (fdC y) from fun wq hbq j v hv => (hbq.cell (p := ⟨g', off' + k * 3 + j, none⟩) hg').trans (hr' j v hv))
      have Hex := Lib.hid (hG x (List.mem_of_getElem? hx)).1
      have Hey := Lib.hid (hG' y (List.mem_of_getElem? hy)).1
      have hxm : (G.map fdK)[k]? = some (fdK x) := by rw [List.getElem?_map, hx]; rfl
      have hym : (G'.map fdK)[k]? = some (fdK y) := by rw [List.getElem?_map, hy]; rfl
      have Hne := Lib.hid (take_ne hxm hym)
      have Htx := Lib.hid (take_succ hxm)
      have Hty := Lib.hid (take_succ hym)
      obtain ⟨p, no, A2, n2, c2, L2⟩ := x
      obtain ⟨p', no', A2', n2', c2', L2'⟩ := y
      clear hx hy hr hr' hxm hym
      by_cases hp : p = p'
      case neg =>
        have hd : decide (G.map fdK = G'.map fdK) = false := decide_eq_false (Hne.out (fun e => hp (by injection e)))
        have Hd := Lib.hid hd
        have hpq : ((p : Int) != (p' : Int)) = true := by simp; omega
        clear hd
        go_wp2_with fail
        refine Ord.region_ (fun w' => Below w.heap.size w w') false [] (by kernel_rfl) (by kernel_rfl) hb.drew ?_
        replace hb := hb.drew
        generalize wr.drew = wd at *
        ((with_reducible refine Ord.e_p (v := ?_) ?_ ?_ ?_ ?_); rotate_left; (· exact rfl); (· kernel_rfl); (· intro w2; go_simp; try with_reducible rfl))
        (try simp only [Act.put, List.setIfInBounds_toArray, List.set_cons_zero, List.set_cons_succ])
        ((with_reducible refine Ord.e_p (v := ?_) ?_ ?_ ?_ ?_); rotate_left; (· exact rfl); (· kernel_rfl); (· intro w2; go_simp; try with_reducible rfl))
        (try simp only [Act.put, List.setIfInBounds_toArray, List.set_cons_zero, List.set_cons_succ])
        ((with_reducible refine Ord.e_p (v := ?_) ?_ ?_ ?_ ?_); rotate_left; (· exact rfl); (· kernel_rfl); (· intro w2; go_simp; try with_reducible rfl))
        (try simp only [Act.put, List.setIfInBounds_toArray, List.set_cons_zero, List.set_cons_succ])
        ((with_reducible refine Ord.e_p (v := ?_) ?_ ?_ ?_ ?_); rotate_left; (· exact rfl); (· kernel_rfl); (· intro w2; go_simp; try with_reducible rfl))
        (try simp only [Act.put, List.setIfInBounds_toArray, List.set_cons_zero, List.set_cons_succ])
        refine Ord.e_loadS (ad := ⟨g, off + k * 3, none⟩) (v := .int .i64 (p : Int)) Try.underlying3 rfl (fun w' hS => Hr.out w' hS 0 _ rfl) hb rfl (by kernel_rfl) ?_
        (try simp only [Act.put, List.setIfInBounds_toArray, List.set_cons_zero, List.set_cons_succ])
        ((with_reducible refine Ord.e_p (v := ?_) ?_ ?_ ?_ ?_); rotate_left; (· exact rfl); (· kernel_rfl); (· intro w2; go_simp; try with_reducible rfl))
        (try simp only [Act.put, List.setIfInBounds_toArray, List.set_cons_zero, List.set_cons_succ])
        ((with_reducible refine Ord.e_p (v := ?_) ?_ ?_ ?_ ?_); rotate_left; (· exact rfl); (· kernel_rfl); (· intro w2; go_simp; try with_reducible rfl))
        (try simp only [Act.put, List.setIfInBounds_toArray, List.set_cons_zero, List.set_cons_succ])
        ((with_reducible refine Ord.e_p (v := ?_) ?_ ?_ ?_ ?_); rotate_left; (· exact rfl); (· kernel_rfl); (· intro w2; go_simp; try with_reducible rfl))
        (try simp only [Act.put, List.setIfInBounds_toArray, List.set_cons_zero, List.set_cons_succ])
        ((with_reducible refine Ord.e_p (v := ?_) ?_ ?_ ?_ ?_); rotate_left; (· exact rfl); (· kernel_rfl); (· intro w2; go_simp; try with_reducible rfl))
        (try simp only [Act.put, List.setIfInBounds_toArray, List.set_cons_zero, List.set_cons_succ])
        refine Ord.e_loadS (ad := ⟨g', off' + k * 3, none⟩) (v := .int .i64 (p' : Int)) Try.underlying3 rfl (fun w' hS => Hr'.out w' hS 0 _ rfl) hb rfl (by kernel_rfl) ?_
        (try simp only [Act.put, List.setIfInBounds_toArray, List.set_cons_zero, List.set_cons_succ])
        ((with_reducible refine Ord.e_p (v := ?_) ?_ ?_ ?_ ?_); rotate_left; (· exact rfl); (· kernel_rfl); (· intro w2; go_simp; try with_reducible rfl))
        (try simp only [Act.put, List.setIfInBounds_toArray, List.set_cons_zero, List.set_cons_succ])
        ((with_reducible refine Ord.e_p (v := ?_) ?_ ?_ ?_ ?_); rotate_left; (· exact rfl); (· kernel_rfl); (· intro w2; go_simp; try with_reducible rfl))
        (try simp only [Act.put, List.setIfInBounds_toArray, List.set_cons_zero, List.set_cons_succ])
        ((with_reducible refine Ord.e_u ?_ ?_); (· kernel_rfl))
        (try simp only [Act.put, List.setIfInBounds_toArray, List.set_cons_zero, List.set_cons_succ])
        ((with_reducible refine Ord.e_u ?_ ?_); (· kernel_rfl))
        (try simp only [Act.put, List.setIfInBounds_toArray, List.set_cons_zero, List.set_cons_succ])
        ((with_reducible refine Ord.e_u ?_ ?_); (· kernel_rfl))
        (try simp only [Act.put, List.setIfInBounds_toArray, List.set_cons_zero, List.set_cons_succ])
        ((with_reducible refine Ord.e_u ?_ ?_); (· kernel_rfl))
        (try simp only [Act.put, List.setIfInBounds_toArray, List.set_cons_zero, List.set_cons_succ])
        ((with_reducible refine Ord.e_u ?_ ?_); (· kernel_rfl))
        (try simp only [Act.put, List.setIfInBounds_toArray, List.set_cons_zero, List.set_cons_succ])
        ((with_reducible refine Ord.e_u ?_ ?_); (· kernel_rfl))
        (try simp only [Act.put, List.setIfInBounds_toArray, List.set_cons_zero, List.set_cons_succ])
        ((with_reducible refine Ord.e_u ?_ ?_); (· kernel_rfl))
        (try simp only [Act.put, List.setIfInBounds_toArray, List.set_cons_zero, List.set_cons_succ])
        ((with_reducible refine Ord.e_u ?_ ?_); (· kernel_rfl))
        (try simp only [Act.put, List.setIfInBounds_toArray, List.set_cons_zero, List.set_cons_succ])
        ((with_reducible refine Ord.e_u ?_ ?_); (· kernel_rfl))
        (try simp only [Act.put, List.setIfInBounds_toArray, List.set_cons_zero, List.set_cons_succ])
        ((with_reducible refine Ord.e_u ?_ ?_); (· kernel_rfl))
        (try simp only [Act.put, List.setIfInBounds_toArray, List.set_cons_zero, List.set_cons_succ])
        ((with_reducible refine Ord.e_u ?_ ?_); (· kernel_rfl))
        (try simp only [Act.put, List.setIfInBounds_toArray, List.set_cons_zero, List.set_cons_succ])
        ((with_reducible refine Ord.e_u ?_ ?_); (· kernel_rfl))
        (try simp only [Act.put, List.setIfInBounds_toArray, List.set_cons_zero, List.set_cons_succ])
        ((with_reducible refine Ord.e_p (v := ?_) ?_ ?_ ?_ ?_); rotate_left; (· exact rfl); (· kernel_rfl); (· intro w2; go_simp; try with_reducible rfl))
        (try simp only [Act.put, List.setIfInBounds_toArray, List.set_cons_zero, List.set_cons_succ])
        refine Ord.e_nil ?_
        go_wp2
        go_ret
        exact ⟨by rw [Hd.out]; rfl, hb⟩
      subst hp
      have hpq : ((p : Int) != (p : Int)) = false := by simp
      have hsm := fun w1 (hb1 : Below w.heap.size w w1) => same35_any no A2 n2 c2 no' A2' n2' c2' L2 L2' w.heap.size w1 (Hex.out.up hb1) (Hey.out.up hb1) hb1.size
      obtain ⟨bq, hbq⟩ : ∃ v, v = decide (no = no' ∧ L2 = L2') := ⟨_, rfl⟩
      rw [← hbq] at hsm
      have Hsm := Lib.hid hsm
      have Hbq := Lib.hid hbq
      clear hsm hbq
      go_wp2_with fail
      refine Ord.region_ (fun w' => Below w.heap.size w w') false [] (by kernel_rfl) (by kernel_rfl) hb.drew ?_
      replace hb := hb.drew
      generalize wr.drew = wd at *
      ((with_reducible refine Ord.e_p (v := ?_) ?_ ?_ ?_ ?_); rotate_left; (· exact rfl); (· kernel_rfl); (· intro w2; go_simp; try with_reducible rfl))
      (try simp only [Act.put, List.setIfInBounds_toArray, List.set_cons_zero, List.set_cons_succ])
      ((with_reducible refine Ord.e_p (v := ?_) ?_ ?_ ?_ ?_); rotate_left; (· exact rfl); (· kernel_rfl); (· intro w2; go_simp; try with_reducible rfl))
      (try simp only [Act.put, List.setIfInBounds_toArray, List.set_cons_zero, List.set_cons_succ])
      ((with_reducible refine Ord.e_p (v := ?_) ?_ ?_ ?_ ?_); rotate_left; (· exact rfl); (· kernel_rfl); (· intro w2; go_simp; try with_reducible rfl))
      (try simp only [Act.put, List.setIfInBounds_toArray, List.set_cons_zero, List.set_cons_succ])
      ((with_reducible refine Ord.e_p (v := ?_) ?_ ?_ ?_ ?_); rotate_left; (· exact rfl); (· kernel_rfl); (· intro w2; go_simp; try with_reducible rfl))
      (try simp only [Act.put, List.setIfInBounds_toArray, List.set_cons_zero, List.set_cons_succ])
      refine Ord.e_loadS (ad := ⟨g, off + k * 3, none⟩) (v := .int .i64 (p : Int)) Try.underlying3 rfl (fun w' hS => Hr.out w' hS 0 _ rfl) hb rfl (by kernel_rfl) ?_
      (try simp only [Act.put, List.setIfInBounds_toArray, List.set_cons_zero, List.set_cons_succ])
      ((with_reducible refine Ord.e_p (v := ?_) ?_ ?_ ?_ ?_); rotate_left; (· exact rfl); (· kernel_rfl); (· intro w2; go_simp; try with_reducible rfl))
      (try simp only [Act.put, List.setIfInBounds_toArray, List.set_cons_zero, List.set_cons_succ])
      ((with_reducible refine Ord.e_p (v := ?_) ?_ ?_ ?_ ?_); rotate_left; (· exact rfl); (· kernel_rfl); (· intro w2; go_simp; try with_reducible rfl))
      (try simp only [Act.put, List.setIfInBounds_toArray, List.set_cons_zero, List.set_cons_succ])
      ((with_reducible refine Ord.e_p (v := ?_) ?_ ?_ ?_ ?_); rotate_left; (· exact rfl); (· kernel_rfl); (· intro w2; go_simp; try with_reducible rfl))
      (try simp only [Act.put, List.setIfInBounds_toArray, List.set_cons_zero, List.set_cons_succ])
      ((with_reducible refine Ord.e_p (v := ?_) ?_ ?_ ?_ ?_); rotate_left; (· exact rfl); (· kernel_rfl); (· intro w2; go_simp; try with_reducible rfl))
      (try simp only [Act.put, List.setIfInBounds_toArray, List.set_cons_zero, List.set_cons_succ])
      refine Ord.e_loadS (ad := ⟨g', off' + k * 3, none⟩) (v := .int .i64 (p : Int)) Try.underlying3 rfl (fun w' hS => Hr'.out w' hS 0 _ rfl) hb rfl (by kernel_rfl) ?_
      (try simp only [Act.put, List.setIfInBounds_toArray, List.set_cons_zero, List.set_cons_succ])
      ((with_reducible refine Ord.e_p (v := ?_) ?_ ?_ ?_ ?_); rotate_left; (· exact rfl); (· kernel_rfl); (· intro w2; go_simp; try with_reducible rfl))
      (try simp only [Act.put, List.setIfInBounds_toArray, List.set_cons_zero, List.set_cons_succ])
      ((with_reducible refine Ord.e_p (v := ?_) ?_ ?_ ?_ ?_); rotate_left; (· exact rfl); (· kernel_rfl); (· intro w2; go_simp; try with_reducible rfl))
      (try simp only [Act.put, List.setIfInBounds_toArray, List.set_cons_zero, List.set_cons_succ])
      ((with_reducible refine Ord.e_p (v := ?_) ?_ ?_ ?_ ?_); rotate_left; (· exact rfl); (· kernel_rfl); (· intro w2; go_simp; try with_reducible rfl))
      (try simp only [Act.put, List.setIfInBounds_toArray, List.set_cons_zero, List.set_cons_succ])
      ((with_reducible refine Ord.e_p (v := ?_) ?_ ?_ ?_ ?_); rotate_left; (· exact rfl); (· kernel_rfl); (· intro w2; go_simp; try with_reducible rfl))
      (try simp only [Act.put, List.setIfInBounds_toArray, List.set_cons_zero, List.set_cons_succ])
      ((with_reducible refine Ord.e_p (v := ?_) ?_ ?_ ?_ ?_); rotate_left; (· exact rfl); (· kernel_rfl); (· intro w2; go_simp; try with_reducible rfl))
      (try simp only [Act.put, List.setIfInBounds_toArray, List.set_cons_zero, List.set_cons_succ])
      ((with_reducible refine Ord.e_p (v := ?_) ?_ ?_ ?_ ?_); rotate_left; (· exact rfl); (· kernel_rfl); (· intro w2; go_simp; try with_reducible rfl))
      (try simp only [Act.put, List.setIfInBounds_toArray, List.set_cons_zero, List.set_cons_succ])
      refine Ord.e_rowS (cs := [.int .u32 (no : Int), .slice A2 n2 c2]) (b := g) (o := off + k * 3 + 1) Try.underlying41 rfl (by kernel_rfl) rfl (by simp) (fun w' hS j v hv => (by
        have := Hr.out w' hS (1 + j) v (by unfold fdC; rw [Nat.add_comm, List.getElem?_cons_succ]; exact hv)
        rwa [← Nat.add_assoc] at this)) hb (by kernel_rfl) ?_
      (try simp only [Act.put, List.setIfInBounds_toArray, List.set_cons_zero, List.set_cons_succ])
      ((with_reducible refine Ord.e_p (v := ?_) ?_ ?_ ?_ ?_); rotate_left; (· exact rfl); (· kernel_rfl); (· intro w2; go_simp; try with_reducible rfl))
      (try simp only [Act.put, List.setIfInBounds_toArray, List.set_cons_zero, List.set_cons_succ])
      ((with_reducible refine Ord.e_p (v := ?_) ?_ ?_ ?_ ?_); rotate_left; (· exact rfl); (· kernel_rfl); (· intro w2; go_simp; try with_reducible rfl))
      (try simp only [Act.put, List.setIfInBounds_toArray, List.set_cons_zero, List.set_cons_succ])
      ((with_reducible refine Ord.e_p (v := ?_) ?_ ?_ ?_ ?_); rotate_left; (· exact rfl); (· kernel_rfl); (· intro w2; go_simp; try with_reducible rfl))
      (try simp only [Act.put, List.setIfInBounds_toArray, List.set_cons_zero, List.set_cons_succ])
      ((with_reducible refine Ord.e_p (v := ?_) ?_ ?_ ?_ ?_); rotate_left; (· exact rfl); (· kernel_rfl); (· intro w2; go_simp; try with_reducible rfl))
      (try simp only [Act.put, List.setIfInBounds_toArray, List.set_cons_zero, List.set_cons_succ])
      refine Ord.e_rowS (cs := [.int .u32 (no' : Int), .slice A2' n2' c2']) (b := g') (o := off' + k * 3 + 1) Try.underlying41 rfl (by kernel_rfl) rfl (by simp) (fun w' hS j v hv => (by
        have := Hr'.out w' hS (1 + j) v (by unfold fdC; rw [Nat.add_comm, List.getElem?_cons_succ]; exact hv)
        rwa [← Nat.add_assoc] at this)) hb (by kernel_rfl) ?_
      (try simp only [Act.put, List.setIfInBounds_toArray, List.set_cons_zero, List.set_cons_succ])
      refine Ord.e_x rfl (by kernel_rfl) ?_
      go_wp2_with fail
      go_fit (Hsm.out wd hb)
      rintro e wf ⟨rfl, hbx⟩
      replace hb := bnx hb hbx
      go_wp2_with fail
      refine Ord.Seg.go hb (fun h => by cases h) ?_
      (try simp only [Act.put, List.setIfInBounds_toArray, List.set_cons_zero, List.set_cons_succ])
      clear hbx Hsm
      by_cases hxy : no = no' ∧ L2 = L2'
      · obtain rfl : bq = true := Hbq.out.trans (decide_eq_true hxy)
        obtain ⟨e1, e2⟩ := hxy
        have Ht2 : Hid ((G.map fdK).take (k + 1) = (G'.map fdK).take (k + 1)) := Lib.hid (by rw [Htx.out, Hty.out, ht.out]; show _ ++ [(p, no, L2)] = _ ++ [(p, no', L2')]; rw [e1, e2])
        clear e1 e2
        ((with_reducible refine Ord.e_p (v := ?_) ?_ ?_ ?_ ?_); rotate_left; (· exact rfl); (· kernel_rfl); (· intro w2; go_simp; try with_reducible rfl))
        (try simp only [Act.put, List.setIfInBounds_toArray, List.set_cons_zero, List.set_cons_succ])
        ((with_reducible refine Ord.e_p (v := ?_) ?_ ?_ ?_ ?_); rotate_left; (· exact rfl); (· kernel_rfl); (· intro w2; go_simp; try with_reducible rfl))
        (try simp only [Act.put, List.setIfInBounds_toArray, List.set_cons_zero, List.set_cons_succ])
        refine Ord.e_nil ?_
        go_wp2
        go_roundw
        case rel => exact ⟨k + 1, by omega, by go_num, hb, Ht2⟩
        case measure => simp [intOf]; omega
      · obtain rfl : bq = false := Hbq.out.trans (decide_eq_false hxy)
        have hd : decide (G.map fdK = G'.map fdK) = false := decide_eq_false (Hne.out (fun e => hxy (by injection e with _ e; injection e with e1 e2; exact ⟨e1, e2⟩)))
        have Hd := Lib.hid hd
        clear hd
        ((with_reducible refine Ord.e_p (v := ?_) ?_ ?_ ?_ ?_); rotate_left; (· exact rfl); (· kernel_rfl); (· intro w2; go_simp; try with_reducible rfl))
        (try simp only [Act.put, List.setIfInBounds_toArray, List.set_cons_zero, List.set_cons_succ])
        ((with_reducible refine Ord.e_p (v := ?_) ?_ ?_ ?_ ?_); rotate_left; (· exact rfl); (· kernel_rfl); (· intro w2; go_simp; try with_reducible rfl))
        (try simp only [Act.put, List.setIfInBounds_toArray, List.set_cons_zero, List.set_cons_succ])
        refine Ord.e_nil ?_
        go_wp2
        go_ret
        exact ⟨by rw [Hd.out]; rfl, hb⟩
    · obtain rfl : k = n := by omega
      have hd : decide (G.map fdK = G'.map fdK) = true := decide_eq_true (by
        have := ht.out
        rwa [List.take_of_length_le (by rw [List.length_map, Hl.out]; exact Nat.le_refl _), List.take_of_length_le (by rw [List.length_map, Hl'.out]; exact Nat.le_refl _)] at this)
      have Hd := Lib.hid hd
      clear hd
      go_wp2
      go_ret
      exact ⟨by rw [Hd.out]; rfl, hb⟩
set_option maxRecDepth 10000 in
set_option maxHeartbeats 8000000 in
theorem qgaps_any (A : Option Addr) (n c : Nat) (G : List FdT) (w : World) (h : RdFd w w.heap.size A n c G) (hG : ∀ f ∈ G, f.no < 4294967296) (hn : n ≤ 100000) :
    Calls Try.prog 66 #[.slice A n c] w fun e w' => e = .returned (.int .i64 (gapS (G.map FdT.no) n : Int)) ∧ Below w.heap.size w w' := by
  have hll := h.len
  have hmx := h.2.2.2.1
  have hle := h.2.2.1
  unfold maxLen at hmx
  have Hbd := Lib.hid (fun k (hk : k ≤ n) => gapS_le (N := G.map FdT.no) (fun x hx => by obtain ⟨f, hf, rfl⟩ := List.mem_map.1 hx; exact hG f hf) k (by rw [List.length_map, hll]; exact hk))
  have Hll := Lib.hid hll
  clear hll
  go_enter Try.func66, Try.ntmps66
  go_wp2_with fail
  go_loopw [3, 4] (fun a i wr => ∃ q s : Nat, (q ≤ n ∨ q = 1) ∧ 1 ≤ q ∧ i = .int .i64 (q : Int) ∧ a = .int .i64 (s : Int) ∧ Hid (s = gapS (G.map FdT.no) q) ∧ s ≤ 4294967296 * 100001 ∧ Below w.heap.size w wr) (fun _ i _ => n + 1 - (intOf i).toNat)
  case atStart => exact ⟨1, 0, by omega, by omega, rfl, rfl, Lib.hid rfl, by omega, Below.refl _ _⟩
  case round =>
    obtain ⟨q, s, hk, hq1, rfl, rfl, Hs, hsl, hb⟩ := hrel
    by_cases hlt : q < n
    · have hlt' : (q : Int) < (n : Int) := by omega
      obtain ⟨k, hkq⟩ : ∃ k, q = k + 1 := ⟨q - 1, by omega⟩
      have Hkq := Lib.hid hkq
      have hkn : (k : Int) < (n : Int) := by omega
      obtain ⟨g, off, x, rfl, hg, hx, hr⟩ := RdFd.at_ h hlt
      obtain ⟨g', off', y, hA', hg', hy, hr'⟩ := RdFd.at_ h (show k < n by omega)
      injection hA' with hA'
      injection hA' with e1 e2 _
      subst e1
      subst e2
      have Hr := Lib.hid (show ∀ wq, Below w.heap.size w wq → wq.cell? ⟨g, off + q * 3 + 1, none⟩ = some (.int .u32 (x.no : Int)) from fun wq hbq => (hbq.cell (p := ⟨g, off + q * 3 + 1, none⟩) hg).trans (hr 1 _ rfl))
      have Hr' := Lib.hid (show ∀ wq, Below w.heap.size w wq → wq.cell? ⟨g, off + k * 3 + 1, none⟩ = some (.int .u32 (y.no : Int)) from fun wq hbq => (hbq.cell (p := ⟨g, off + k * 3 + 1, none⟩) hg).trans (hr' 1 _ rfl))
      have hb1 := hG x (List.mem_of_getElem? hx)
      have hb2 := hG y (List.mem_of_getElem? hy)
      have hgs : gapS (G.map FdT.no) (k + 2) = gapS (G.map FdT.no) (k + 1) + gapD y.no x.no := by
        show gapS _ _ + gapD _ _ = _
        rw [hkq] at hx
        rw [List.getD_eq_getElem?_getD, List.getD_eq_getElem?_getD, List.getElem?_map, List.getElem?_map, hx, hy]
        rfl
      have hbd := Hbd.out (k + 2) (by omega)
      have Hs1 := Hs.out
      rw [hkq] at Hs1
      rw [hgs, ← Hs1] at hbd
      obtain ⟨d, hd⟩ : ∃ v, v = gapD y.no x.no := ⟨_, rfl⟩
      have hdd : (max ((x.no : Int) - (y.no : Int) - 1) 0) = (d : Int) := by rw [hd]; unfold gapD; omega
      have Hgs := Lib.hid (show s + d = gapS (G.map FdT.no) (q + 1) by rw [hkq, hgs, ← Hs1, hd])
      rw [← hd] at hbd
      have hsd : s + d ≤ 4294967296 * 100001 := by omega
      obtain ⟨a, ha⟩ : ∃ v, v = x.no := ⟨_, rfl⟩
      obtain ⟨b, hbb⟩ : ∃ v, v = y.no := ⟨_, rfl⟩
      rw [← ha] at Hr hb1 hdd
      rw [← hbb] at Hr' hb2 hdd
      have Hdd := Lib.hid hdd
      clear hx hy hr hr' hgs hbd hd hdd ha hbb hg' hkq Hs1
      have hw0 : IntKind.i64.wrap ((q : Int) - 1) = (k : Int) := by have := Hkq.out; rw [IntWalk.i64_in _ (by omega)]; omega
      have hw1 : IntKind.i64.wrap ((a : Int) - (b : Int)) = (a : Int) - (b : Int) := IntWalk.i64_in _ (by omega)
      have hw2 : IntKind.i64.wrap ((a : Int) - (b : Int) - 1) = (a : Int) - (b : Int) - 1 := IntWalk.i64_in _ (by omega)
      have hw3 : IntKind.i64.wrap ((s : Int) + (d : Int)) = (s : Int) + (d : Int) := IntWalk.i64_in _ (by omega)
      have hws : IntKind.i64.wrap (s : Int) = (s : Int) := IntWalk.i64_in _ (by omega)
      have hw4 : IntKind.i64.wrap (a : Int) = (a : Int) := IntWalk.i64_in _ (by omega)
      have hw5 : IntKind.i64.wrap (b : Int) = (b : Int) := IntWalk.i64_in _ (by omega)
      go_wp2_with fail
      refine Ord.region_ (fun w' => Below w.heap.size w w') false [] (by kernel_rfl) (by kernel_rfl) hb.drew ?_
      replace hb := hb.drew
      generalize wr.drew = wd at *
      ((with_reducible refine Ord.e_p (v := ?_) ?_ ?_ ?_ ?_); rotate_left; (· exact rfl); (· kernel_rfl); (· intro w2; go_simp; try with_reducible rfl))
      (try simp only [Act.put, List.setIfInBounds_toArray, List.set_cons_zero, List.set_cons_succ])
      ((with_reducible refine Ord.e_p (v := ?_) ?_ ?_ ?_ ?_); rotate_left; (· exact rfl); (· kernel_rfl); (· intro w2; go_simp; try with_reducible rfl))
      (try simp only [Act.put, List.setIfInBounds_toArray, List.set_cons_zero, List.set_cons_succ])
      ((with_reducible refine Ord.e_p (v := ?_) ?_ ?_ ?_ ?_); rotate_left; (· exact rfl); (· kernel_rfl); (· intro w2; go_simp; try with_reducible rfl))
      (try simp only [Act.put, List.setIfInBounds_toArray, List.set_cons_zero, List.set_cons_succ])
      ((with_reducible refine Ord.e_p (v := ?_) ?_ ?_ ?_ ?_); rotate_left; (· exact rfl); (· kernel_rfl); (· intro w2; go_simp; try with_reducible rfl))
      (try simp only [Act.put, List.setIfInBounds_toArray, List.set_cons_zero, List.set_cons_succ])
      ((with_reducible refine Ord.e_p (v := ?_) ?_ ?_ ?_ ?_); rotate_left; (· exact rfl); (· kernel_rfl); (· intro w2; go_simp; try with_reducible rfl))
      (try simp only [Act.put, List.setIfInBounds_toArray, List.set_cons_zero, List.set_cons_succ])
      ((with_reducible refine Ord.e_p (v := ?_) ?_ ?_ ?_ ?_); rotate_left; (· exact rfl); (· kernel_rfl); (· intro w2; go_simp; try with_reducible rfl))
      (try simp only [Act.put, List.setIfInBounds_toArray, List.set_cons_zero, List.set_cons_succ])
      refine Ord.e_loadS (ad := ⟨g, off + q * 3 + 1, none⟩) (v := .int .u32 (a : Int)) Try.underlying22 rfl (fun w' hS => Hr.out w' hS) hb rfl (by kernel_rfl) ?_
      (try simp only [Act.put, List.setIfInBounds_toArray, List.set_cons_zero, List.set_cons_succ])
      ((with_reducible refine Ord.e_p (v := ?_) ?_ ?_ ?_ ?_); rotate_left; (· exact rfl); (· kernel_rfl); (· intro w2; go_simp; try with_reducible rfl))
      (try simp only [Act.put, List.setIfInBounds_toArray, List.set_cons_zero, List.set_cons_succ])
      ((with_reducible refine Ord.e_p (v := ?_) ?_ ?_ ?_ ?_); rotate_left; (· exact rfl); (· kernel_rfl); (· intro w2; go_simp; try with_reducible rfl))
      (try simp only [Act.put, List.setIfInBounds_toArray, List.set_cons_zero, List.set_cons_succ])
      ((with_reducible refine Ord.e_p (v := ?_) ?_ ?_ ?_ ?_); rotate_left; (· exact rfl); (· kernel_rfl); (· intro w2; go_simp; try with_reducible rfl))
      (try simp only [Act.put, List.setIfInBounds_toArray, List.set_cons_zero, List.set_cons_succ])
      ((with_reducible refine Ord.e_p (v := ?_) ?_ ?_ ?_ ?_); rotate_left; (· exact rfl); (· kernel_rfl); (· intro w2; go_simp; try with_reducible rfl))
      (try simp only [Act.put, List.setIfInBounds_toArray, List.set_cons_zero, List.set_cons_succ])
      ((with_reducible refine Ord.e_p (v := ?_) ?_ ?_ ?_ ?_); rotate_left; (· exact rfl); (· kernel_rfl); (· intro w2; go_simp; try with_reducible rfl))
      (try simp only [Act.put, List.setIfInBounds_toArray, List.set_cons_zero, List.set_cons_succ])
      ((with_reducible refine Ord.e_p (v := ?_) ?_ ?_ ?_ ?_); rotate_left; (· exact rfl); (· kernel_rfl); (· intro w2; go_simp; try with_reducible rfl))
      (try simp only [Act.put, List.setIfInBounds_toArray, List.set_cons_zero, List.set_cons_succ])
      ((with_reducible refine Ord.e_p (v := ?_) ?_ ?_ ?_ ?_); rotate_left; (· exact rfl); (· kernel_rfl); (· intro w2; go_simp; try with_reducible rfl))
      (try simp only [Act.put, List.setIfInBounds_toArray, List.set_cons_zero, List.set_cons_succ])
      refine Ord.e_loadS (ad := ⟨g, off + k * 3 + 1, none⟩) (v := .int .u32 (b : Int)) Try.underlying22 rfl (fun w' hS => Hr'.out w' hS) hb rfl (by kernel_rfl) ?_
      (try simp only [Act.put, List.setIfInBounds_toArray, List.set_cons_zero, List.set_cons_succ])
      ((with_reducible refine Ord.e_p (v := ?_) ?_ ?_ ?_ ?_); rotate_left; (· exact rfl); (· kernel_rfl); (· intro w2; go_simp; try with_reducible rfl))
      (try simp only [Act.put, List.setIfInBounds_toArray, List.set_cons_zero, List.set_cons_succ])
      ((with_reducible refine Ord.e_p (v := ?_) ?_ ?_ ?_ ?_); rotate_left; (· exact rfl); (· kernel_rfl); (· intro w2; go_simp; try with_reducible rfl))
      (try simp only [Act.put, List.setIfInBounds_toArray, List.set_cons_zero, List.set_cons_succ])
      ((with_reducible refine Ord.e_p (v := ?_) ?_ ?_ ?_ ?_); rotate_left; (· exact rfl); (· kernel_rfl); (· intro w2; go_simp; try with_reducible rfl))
      (try simp only [Act.put, List.setIfInBounds_toArray, List.set_cons_zero, List.set_cons_succ])
      rcases (by omega : (a : Int) - (b : Int) - 1 < 0 ∨ ¬ ((a : Int) - (b : Int) - 1 < 0)) with hc | hc
      · have hd0 : d = 0 := by have := Hdd.out; omega
        have Hg0 := Lib.hid (show s = gapS (G.map FdT.no) (q + 1) by rw [← Hgs.out, hd0]; rfl)
        refine Ord.e_x rfl (by kernel_rfl) ?_
        go_wp2_with fail
        refine Ord.Seg.go hb (fun h => by cases h) ?_
        (try simp only [Act.put, List.setIfInBounds_toArray, List.set_cons_zero, List.set_cons_succ])
        ((with_reducible refine Ord.e_p (v := ?_) ?_ ?_ ?_ ?_); rotate_left; (· exact rfl); (· kernel_rfl); (· intro w2; go_simp; try with_reducible rfl))
        (try simp only [Act.put, List.setIfInBounds_toArray, List.set_cons_zero, List.set_cons_succ])
        ((with_reducible refine Ord.e_p (v := ?_) ?_ ?_ ?_ ?_); rotate_left; (· exact rfl); (· kernel_rfl); (· intro w2; go_simp; try with_reducible rfl))
        (try simp only [Act.put, List.setIfInBounds_toArray, List.set_cons_zero, List.set_cons_succ])
        refine Ord.e_nil ?_
        go_wp2
        go_roundw
        case rel => exact ⟨q + 1, s + d, by omega, by omega, by go_num, by go_num, Lib.hid Hgs.out, by omega, hb⟩
        case measure => simp [intOf]; omega
      · have hdv : (a : Int) - (b : Int) - 1 = (d : Int) := by have := Hdd.out; omega
        refine Ord.e_x rfl (by kernel_rfl) ?_
        go_wp2_with fail
        refine Ord.Seg.go hb (fun h => by cases h) ?_
        (try simp only [Act.put, List.setIfInBounds_toArray, List.set_cons_zero, List.set_cons_succ])
        ((with_reducible refine Ord.e_p (v := ?_) ?_ ?_ ?_ ?_); rotate_left; (· exact rfl); (· kernel_rfl); (· intro w2; go_simp; try with_reducible rfl))
        (try simp only [Act.put, List.setIfInBounds_toArray, List.set_cons_zero, List.set_cons_succ])
        ((with_reducible refine Ord.e_p (v := ?_) ?_ ?_ ?_ ?_); rotate_left; (· exact rfl); (· kernel_rfl); (· intro w2; go_simp; try with_reducible rfl))
        (try simp only [Act.put, List.setIfInBounds_toArray, List.set_cons_zero, List.set_cons_succ])
        refine Ord.e_nil ?_
        go_wp2
        go_roundw
        case rel => exact ⟨q + 1, s + d, by omega, by omega, by go_num, by go_num, Lib.hid Hgs.out, by omega, hb⟩
        case measure => simp [intOf]; omega
    · have hlt' : ¬ (q : Int) < (n : Int) := by omega
      have he : s = gapS (G.map FdT.no) n := by
        rw [Hs.out]
        rcases (by omega : q = n ∨ (n = 0 ∧ q = 1)) with rfl | ⟨rfl, rfl⟩
        · rfl
        · rfl
      have He := Lib.hid he
      clear he
      go_wp2
      go_ret
      exact ⟨by rw [← He.out]; rfl, hb⟩
set_option maxRecDepth 10000 in
set_option maxHeartbeats 8000000 in
theorem gaps_any (A : Option Addr) (n c : Nat) (G : List FdT) (w : World) (h : RdFd w w.heap.size A n c G) (hG : ∀ f ∈ G, f.no < 4294967296) (hn : n ≤ 100000) :
    Calls Try.prog 65 #[.slice A n c] w fun e w' => e = .returned (.int .i64 (gapS (G.map FdT.no) n : Int)) ∧ Below w.heap.size w w' := by
  have hll := h.len
  have hmx := h.2.2.2.1
  have hle := h.2.2.1
  unfold maxLen at hmx
  have Hbd := Lib.hid (fun k (hk : k ≤ n) => gapS_le (N := G.map FdT.no) (fun x hx => by obtain ⟨f, hf, rfl⟩ := List.mem_map.1 hx; exact hG f hf) k (by rw [List.length_map, hll]; exact hk))
  have Hll := Lib.hid hll
  clear hll
  go_enter Try.func65, Try.ntmps65
  go_wp2_with fail
  go_loopw [3, 8] (fun a i wr => ∃ k s : Nat, k ≤ n ∧ i = .int .i64 (k : Int) ∧ a = .int .i64 (s : Int) ∧ Hid (s = gapS (G.map FdT.no) k) ∧ s ≤ 4294967296 * 100001 ∧ Below w.heap.size w wr) (fun _ i _ => n - (intOf i).toNat)
  case atStart => exact ⟨0, 0, by omega, rfl, rfl, Lib.hid rfl, by omega, Below.refl _ _⟩
  case round =>
    obtain ⟨k, s, hk, rfl, rfl, Hs, hsl, hb⟩ := hrel
    by_cases hlt : k < n
    · have hlt' : (k : Int) < (n : Int) := by omega
      obtain ⟨g, off, x, rfl, hg, hx, hr⟩ := RdFd.at_ h hlt
      have c0 := (hb.cell (p := ⟨g, off + k * 3 + 0, none⟩) hg).trans (hr 0 _ rfl)
      have c1 := (hb.cell (p := ⟨g, off + k * 3 + 1, none⟩) hg).trans (hr 1 _ rfl)
      have c2 := (hb.cell (p := ⟨g, off + k * 3 + 2, none⟩) hg).trans (hr 2 _ rfl)
      rw [Nat.add_zero] at c0
      have hb1 := hG x (List.mem_of_getElem? hx)
      obtain ⟨a, ha⟩ : ∃ v, v = x.no := ⟨_, rfl⟩
      rw [← ha] at c1 hb1
      have Ha := Lib.hid ha
      clear ha
      have hbn : Below wr.heap.size wr (wr.alloc (.cells #[.int .i64 (x.p : Int), .int .u32 (a : Int), .slice x.A x.n x.c] 102)) := (Below.refl _ _).alloc (Nat.le_refl _) _
      have hx3 := heap_alloc_new wr (.cells #[.int .i64 (x.p : Int), .int .u32 (a : Int), .slice x.A x.n x.c] 102)
      have d1 := blk_cell (i := 1) (v := .int .u32 (a : Int)) hx3 rfl
      have hgs1 := blk_lt hx3
      replace hb := bnx hb hbn
      clear hbn
      by_cases hk0 : k = 0
      · subst hk0
        have h00 : ¬ (0 : Int) < ((0 : Nat) : Int) := by omega
        clear hr hx
        rw [Nat.zero_mul, Nat.add_zero] at c0 c1 c2
        rw [show ((0 : Nat) : Int) = 0 from rfl] at *
        go_wp2_with fail
        clear c0 c1 c2 hx3
        generalize (wr.alloc (.cells #[.int .i64 (x.p : Int), .int .u32 (a : Int), .slice x.A x.n x.c] 102)) = w1 at *
        generalize wr.heap.size = g1 at *
        refine Ord.region_ (fun w' => Below w1.heap.size w1 w') false [] (by kernel_rfl) (by kernel_rfl) (Below.refl _ _).drew ?_
        replace hb := hb.drew
        generalize w1.drew = wd at *
        ((with_reducible refine Ord.e_p (v := ?_) ?_ ?_ ?_ ?_); rotate_left; (· exact rfl); (· kernel_rfl); (· intro w2; go_simp; try with_reducible rfl))
        (try simp only [Act.put, List.setIfInBounds_toArray, List.set_cons_zero, List.set_cons_succ])
        ((with_reducible refine Ord.e_p (v := ?_) ?_ ?_ ?_ ?_); rotate_left; (· exact rfl); (· kernel_rfl); (· intro w2; go_simp; try with_reducible rfl))
        (try simp only [Act.put, List.setIfInBounds_toArray, List.set_cons_zero, List.set_cons_succ])
        ((with_reducible refine Ord.e_p (v := ?_) ?_ ?_ ?_ ?_); rotate_left; (· exact rfl); (· kernel_rfl); (· intro w2; go_simp; try with_reducible rfl))
        (try simp only [Act.put, List.setIfInBounds_toArray, List.set_cons_zero, List.set_cons_succ])
        ((with_reducible refine Ord.e_u ?_ ?_); (· kernel_rfl))
        (try simp only [Act.put, List.setIfInBounds_toArray, List.set_cons_zero, List.set_cons_succ])
        ((with_reducible refine Ord.e_u ?_ ?_); (· kernel_rfl))
        (try simp only [Act.put, List.setIfInBounds_toArray, List.set_cons_zero, List.set_cons_succ])
        ((with_reducible refine Ord.e_u ?_ ?_); (· kernel_rfl))
        (try simp only [Act.put, List.setIfInBounds_toArray, List.set_cons_zero, List.set_cons_succ])
        ((with_reducible refine Ord.e_u ?_ ?_); (· kernel_rfl))
        (try simp only [Act.put, List.setIfInBounds_toArray, List.set_cons_zero, List.set_cons_succ])
        ((with_reducible refine Ord.e_u ?_ ?_); (· kernel_rfl))
        (try simp only [Act.put, List.setIfInBounds_toArray, List.set_cons_zero, List.set_cons_succ])
        ((with_reducible refine Ord.e_u ?_ ?_); (· kernel_rfl))
        (try simp only [Act.put, List.setIfInBounds_toArray, List.set_cons_zero, List.set_cons_succ])
        ((with_reducible refine Ord.e_u ?_ ?_); (· kernel_rfl))
        (try simp only [Act.put, List.setIfInBounds_toArray, List.set_cons_zero, List.set_cons_succ])
        ((with_reducible refine Ord.e_u ?_ ?_); (· kernel_rfl))
        (try simp only [Act.put, List.setIfInBounds_toArray, List.set_cons_zero, List.set_cons_succ])
        ((with_reducible refine Ord.e_u ?_ ?_); (· kernel_rfl))
        (try simp only [Act.put, List.setIfInBounds_toArray, List.set_cons_zero, List.set_cons_succ])
        ((with_reducible refine Ord.e_u ?_ ?_); (· kernel_rfl))
        (try simp only [Act.put, List.setIfInBounds_toArray, List.set_cons_zero, List.set_cons_succ])
        ((with_reducible refine Ord.e_u ?_ ?_); (· kernel_rfl))
        (try simp only [Act.put, List.setIfInBounds_toArray, List.set_cons_zero, List.set_cons_succ])
        ((with_reducible refine Ord.e_p (v := ?_) ?_ ?_ ?_ ?_); rotate_left; (· exact rfl); (· kernel_rfl); (· intro w2; go_simp; try with_reducible rfl))
        (try simp only [Act.put, List.setIfInBounds_toArray, List.set_cons_zero, List.set_cons_succ])
        refine Ord.e_nil ?_
        go_wp2
        go_roundw
        case rel => exact ⟨1, s, by omega, rfl, rfl, Hs, hsl, hb⟩
        case measure => simp [intOf]; omega
      · obtain ⟨j, hkj⟩ : ∃ j, k = j + 1 := ⟨k - 1, by omega⟩
        have Hkj := Lib.hid hkj
        obtain ⟨g', off', y, hA', hg', hy, hr'⟩ := RdFd.at_ h (show j < n by omega)
        injection hA' with hA'
        injection hA' with e1 e2 _
        subst e1
        subst e2
        have Hr' := Lib.hid (show ∀ wq, Below w.heap.size w wq → wq.cell? ⟨g, off + j * 3 + 1, none⟩ = some (.int .u32 (y.no : Int)) from fun wq hbq => (hbq.cell (p := ⟨g, off + j * 3 + 1, none⟩) hg).trans (hr' 1 _ rfl))
        have hb2 := hG y (List.mem_of_getElem? hy)
        have hgs : gapS (G.map FdT.no) (j + 2) = gapS (G.map FdT.no) (j + 1) + gapD y.no x.no := by
          show gapS _ _ + gapD _ _ = _
          rw [hkj] at hx
          rw [List.getD_eq_getElem?_getD, List.getD_eq_getElem?_getD, List.getElem?_map, List.getElem?_map, hx, hy]
          rfl
        have hbd := Hbd.out (j + 2) (by omega)
        have Hs1 := Hs.out
        rw [hkj] at Hs1
        rw [hgs, ← Hs1] at hbd
        rw [← Hs1] at hgs
        obtain ⟨b, hbb⟩ : ∃ v, v = y.no := ⟨_, rfl⟩
        rw [← hbb, ← Ha.out] at hgs hbd
        rw [← hbb] at Hr' hb2
        have h0j : (0 : Int) < (k : Int) := by omega
        have hdt : decide ((0 : Int) < (k : Int)) = true := decide_eq_true h0j
        have hdt2 : decide (0 < k) = true := decide_eq_true (by omega)
        have hw0 : IntKind.i64.wrap ((k : Int) - 1) = (j : Int) := by have := Hkj.out; rw [IntWalk.i64_in _ (by omega)]; omega
        have hjn : (j : Int) < (n : Int) := by omega
        have Hgs := Lib.hid hgs
        clear hr hr' hx hy hgs hbb hkj Hs1 hk0
        go_wp2_with fail
        clear c0 c1 c2
        have hS0 : Below ((wr.alloc (.cells #[.int .i64 (x.p : Int), .int .u32 (a : Int), .slice x.A x.n x.c] 102))).heap.size (wr.alloc (.cells #[.int .i64 (x.p : Int), .int .u32 (a : Int), .slice x.A x.n x.c] 102)) (wr.alloc (.cells #[.int .i64 (x.p : Int), .int .u32 (a : Int), .slice x.A x.n x.c] 102)) := Below.refl _ _
        generalize (wr.alloc (.cells #[.int .i64 (x.p : Int), .int .u32 (a : Int), .slice x.A x.n x.c] 102)) = w1 at *
        generalize wr.heap.size = g1 at *
        refine Ord.region_ (fun w' => Below w1.heap.size w1 w') false [] (by kernel_rfl) (by kernel_rfl) (Below.refl _ _).drew ?_
        have hS := hS0.drew
        have hb0 := hb
        generalize w1.drew = wd at *
        ((with_reducible refine Ord.e_p (v := ?_) ?_ ?_ ?_ ?_); rotate_left; (· exact rfl); (· kernel_rfl); (· intro w2; go_simp; try with_reducible rfl))
        (try simp only [Act.put, List.setIfInBounds_toArray, List.set_cons_zero, List.set_cons_succ])
        ((with_reducible refine Ord.e_p (v := ?_) ?_ ?_ ?_ ?_); rotate_left; (· exact rfl); (· kernel_rfl); (· intro w2; go_simp; try with_reducible rfl))
        (try simp only [Act.put, List.setIfInBounds_toArray, List.set_cons_zero, List.set_cons_succ])
        ((with_reducible refine Ord.e_p (v := ?_) ?_ ?_ ?_ ?_); rotate_left; (· exact rfl); (· kernel_rfl); (· intro w2; go_simp; try with_reducible rfl))
        (try simp only [Act.put, List.setIfInBounds_toArray, List.set_cons_zero, List.set_cons_succ])
        ((with_reducible refine Ord.e_p (v := ?_) ?_ ?_ ?_ ?_); rotate_left; (· exact rfl); (· kernel_rfl); (· intro w2; go_simp; try with_reducible rfl))
        (try simp only [Act.put, List.setIfInBounds_toArray, List.set_cons_zero, List.set_cons_succ])
        ((with_reducible refine Ord.e_p (v := ?_) ?_ ?_ ?_ ?_); rotate_left; (· exact rfl); (· kernel_rfl); (· intro w2; go_simp; try with_reducible rfl))
        (try simp only [Act.put, List.setIfInBounds_toArray, List.set_cons_zero, List.set_cons_succ])
        refine Ord.e_loadS (ad := ⟨g1, 1, none⟩) (v := .int .u32 (a : Int)) Try.underlying22 rfl (fun w' hS => ((show Below _ w1 w' from hS).cell (p := ⟨g1, 1, none⟩) hgs1).trans d1) hS rfl (by kernel_rfl) ?_
        (try simp only [Act.put, List.setIfInBounds_toArray, List.set_cons_zero, List.set_cons_succ])
        ((with_reducible refine Ord.e_p (v := ?_) ?_ ?_ ?_ ?_); rotate_left; (· exact rfl); (· kernel_rfl); (· intro w2; go_simp; try with_reducible rfl))
        (try simp only [Act.put, List.setIfInBounds_toArray, List.set_cons_zero, List.set_cons_succ])
        ((with_reducible refine Ord.e_p (v := ?_) ?_ ?_ ?_ ?_); rotate_left; (· exact rfl); (· kernel_rfl); (· intro w2; go_simp; try with_reducible rfl))
        (try simp only [Act.put, List.setIfInBounds_toArray, List.set_cons_zero, List.set_cons_succ])
        ((with_reducible refine Ord.e_p (v := ?_) ?_ ?_ ?_ ?_); rotate_left; (· exact rfl); (· kernel_rfl); (· intro w2; go_simp; try with_reducible rfl))
        (try simp only [Act.put, List.setIfInBounds_toArray, List.set_cons_zero, List.set_cons_succ])
        ((with_reducible refine Ord.e_p (v := ?_) ?_ ?_ ?_ ?_); rotate_left; (· exact rfl); (· kernel_rfl); (· intro w2; go_simp; try with_reducible rfl))
        (try simp only [Act.put, List.setIfInBounds_toArray, List.set_cons_zero, List.set_cons_succ])
        ((with_reducible refine Ord.e_p (v := ?_) ?_ ?_ ?_ ?_); rotate_left; (· exact rfl); (· kernel_rfl); (· intro w2; go_simp; try with_reducible rfl))
        (try simp only [Act.put, List.setIfInBounds_toArray, List.set_cons_zero, List.set_cons_succ])
        ((with_reducible refine Ord.e_p (v := ?_) ?_ ?_ ?_ ?_); rotate_left; (· exact rfl); (· kernel_rfl); (· intro w2; go_simp; try with_reducible rfl))
        (try simp only [Act.put, List.setIfInBounds_toArray, List.set_cons_zero, List.set_cons_succ])
        refine Ord.e_loadS (ad := ⟨g, off + j * 3 + 1, none⟩) (v := .int .u32 (b : Int)) Try.underlying22 rfl (fun w' hS => Hr'.out w' (bnx hb0 hS)) hS rfl (by kernel_rfl) ?_
        (try simp only [Act.put, List.setIfInBounds_toArray, List.set_cons_zero, List.set_cons_succ])
        ((with_reducible refine Ord.e_p (v := ?_) ?_ ?_ ?_ ?_); rotate_left; (· exact rfl); (· kernel_rfl); (· intro w2; go_simp; try with_reducible rfl))
        (try simp only [Act.put, List.setIfInBounds_toArray, List.set_cons_zero, List.set_cons_succ])
        ((with_reducible refine Ord.e_p (v := ?_) ?_ ?_ ?_ ?_); rotate_left; (· exact rfl); (· kernel_rfl); (· intro w2; go_simp; try with_reducible rfl))
        (try simp only [Act.put, List.setIfInBounds_toArray, List.set_cons_zero, List.set_cons_succ])
        refine Ord.e_nil ?_
        have hbd2 := bnx hb0 hS
        by_cases hab : b < a
        · have hab' : (b : Int) < (a : Int) := by omega
          have hw1 : IntKind.u32.wrap ((a : Int) - (b : Int)) = (a : Int) - (b : Int) := by rw [IntKind.wrap_u32]; omega
          have hw2 : IntKind.i64.wrap ((a : Int) - (b : Int)) = (a : Int) - (b : Int) := IntWalk.i64_in _ (by omega)
          have hw3 : IntKind.i64.wrap ((a : Int) - (b : Int) - 1) = (a : Int) - (b : Int) - 1 := IntWalk.i64_in _ (by omega)
          obtain ⟨d, hd⟩ : ∃ v, v = gapD b a := ⟨_, rfl⟩
          have hdd : (a : Int) - (b : Int) - 1 = (d : Int) := by rw [hd]; unfold gapD; omega
          have Hgs2 := Lib.hid (show s + d = gapS (G.map FdT.no) (k + 1) by rw [Hkj.out, Hgs.out, hd])
          have hw4 : IntKind.i64.wrap (d : Int) = (d : Int) := IntWalk.i64_in _ (by omega)
          rw [← hd] at hbd
          have hsd : s + d ≤ 4294967296 * 100001 := by omega
          have hw5 : IntKind.i64.wrap ((s : Int) + (d : Int)) = (s : Int) + (d : Int) := IntWalk.i64_in _ (by omega)
          clear hd
          go_wp2_with fail
          refine Ord.region_ (fun w' => Below w1.heap.size w1 w') false [] (by kernel_rfl) (by kernel_rfl) hS.drew ?_
          replace hS := hS.drew
          generalize wd.drew = we at *
          ((with_reducible refine Ord.e_p (v := ?_) ?_ ?_ ?_ ?_); rotate_left; (· exact rfl); (· kernel_rfl); (· intro w2; go_simp; try with_reducible rfl))
          (try simp only [Act.put, List.setIfInBounds_toArray, List.set_cons_zero, List.set_cons_succ])
          ((with_reducible refine Ord.e_p (v := ?_) ?_ ?_ ?_ ?_); rotate_left; (· exact rfl); (· kernel_rfl); (· intro w2; go_simp; try with_reducible rfl))
          (try simp only [Act.put, List.setIfInBounds_toArray, List.set_cons_zero, List.set_cons_succ])
          ((with_reducible refine Ord.e_p (v := ?_) ?_ ?_ ?_ ?_); rotate_left; (· exact rfl); (· kernel_rfl); (· intro w2; go_simp; try with_reducible rfl))
          (try simp only [Act.put, List.setIfInBounds_toArray, List.set_cons_zero, List.set_cons_succ])
          refine Ord.e_loadS (ad := ⟨g1, 1, none⟩) (v := .int .u32 (a : Int)) Try.underlying22 rfl (fun w' hS => ((show Below _ w1 w' from hS).cell (p := ⟨g1, 1, none⟩) hgs1).trans d1) hS rfl (by kernel_rfl) ?_
          (try simp only [Act.put, List.setIfInBounds_toArray, List.set_cons_zero, List.set_cons_succ])
          ((with_reducible refine Ord.e_p (v := ?_) ?_ ?_ ?_ ?_); rotate_left; (· exact rfl); (· kernel_rfl); (· intro w2; go_simp; try with_reducible rfl))
          (try simp only [Act.put, List.setIfInBounds_toArray, List.set_cons_zero, List.set_cons_succ])
          ((with_reducible refine Ord.e_p (v := ?_) ?_ ?_ ?_ ?_); rotate_left; (· exact rfl); (· kernel_rfl); (· intro w2; go_simp; try with_reducible rfl))
          (try simp only [Act.put, List.setIfInBounds_toArray, List.set_cons_zero, List.set_cons_succ])
          ((with_reducible refine Ord.e_p (v := ?_) ?_ ?_ ?_ ?_); rotate_left; (· exact rfl); (· kernel_rfl); (· intro w2; go_simp; try with_reducible rfl))
          (try simp only [Act.put, List.setIfInBounds_toArray, List.set_cons_zero, List.set_cons_succ])
          ((with_reducible refine Ord.e_p (v := ?_) ?_ ?_ ?_ ?_); rotate_left; (· exact rfl); (· kernel_rfl); (· intro w2; go_simp; try with_reducible rfl))
          (try simp only [Act.put, List.setIfInBounds_toArray, List.set_cons_zero, List.set_cons_succ])
          ((with_reducible refine Ord.e_p (v := ?_) ?_ ?_ ?_ ?_); rotate_left; (· exact rfl); (· kernel_rfl); (· intro w2; go_simp; try with_reducible rfl))
          (try simp only [Act.put, List.setIfInBounds_toArray, List.set_cons_zero, List.set_cons_succ])
          ((with_reducible refine Ord.e_p (v := ?_) ?_ ?_ ?_ ?_); rotate_left; (· exact rfl); (· kernel_rfl); (· intro w2; go_simp; try with_reducible rfl))
          (try simp only [Act.put, List.setIfInBounds_toArray, List.set_cons_zero, List.set_cons_succ])
          refine Ord.e_loadS (ad := ⟨g, off + j * 3 + 1, none⟩) (v := .int .u32 (b : Int)) Try.underlying22 rfl (fun w' hS => Hr'.out w' (bnx hb0 hS)) hS rfl (by kernel_rfl) ?_
          (try simp only [Act.put, List.setIfInBounds_toArray, List.set_cons_zero, List.set_cons_succ])
          ((with_reducible refine Ord.e_p (v := ?_) ?_ ?_ ?_ ?_); rotate_left; (· exact rfl); (· kernel_rfl); (· intro w2; go_simp; try with_reducible rfl))
          (try simp only [Act.put, List.setIfInBounds_toArray, List.set_cons_zero, List.set_cons_succ])
          ((with_reducible refine Ord.e_p (v := ?_) ?_ ?_ ?_ ?_); rotate_left; (· exact rfl); (· kernel_rfl); (· intro w2; go_simp; try with_reducible rfl))
          (try simp only [Act.put, List.setIfInBounds_toArray, List.set_cons_zero, List.set_cons_succ])
          ((with_reducible refine Ord.e_p (v := ?_) ?_ ?_ ?_ ?_); rotate_left; (· exact rfl); (· kernel_rfl); (· intro w2; go_simp; try with_reducible rfl))
          (try simp only [Act.put, List.setIfInBounds_toArray, List.set_cons_zero, List.set_cons_succ])
          ((with_reducible refine Ord.e_p (v := ?_) ?_ ?_ ?_ ?_); rotate_left; (· exact rfl); (· kernel_rfl); (· intro w2; go_simp; try with_reducible rfl))
          (try simp only [Act.put, List.setIfInBounds_toArray, List.set_cons_zero, List.set_cons_succ])
          ((with_reducible refine Ord.e_p (v := ?_) ?_ ?_ ?_ ?_); rotate_left; (· exact rfl); (· kernel_rfl); (· intro w2; go_simp; try with_reducible rfl))
          (try simp only [Act.put, List.setIfInBounds_toArray, List.set_cons_zero, List.set_cons_succ])
          refine Ord.e_nil ?_
          have hbf := bnx hb0 hS
          go_wp2
          go_roundw
          case rel => exact ⟨k + 1, s + d, by omega, by go_num, by go_num, Hgs2, hsd, hbf⟩
          case measure => simp [intOf]; omega
        · have hab' : ¬ (b : Int) < (a : Int) := by omega
          have hz : gapD b a = 0 := by unfold gapD; omega
          have Hgs2 := Lib.hid (show s = gapS (G.map FdT.no) (k + 1) by rw [Hkj.out, Hgs.out, hz]; rfl)
          go_wp2
          go_roundw
          case rel => exact ⟨k + 1, s, by omega, by go_num, rfl, Hgs2, hsl, hbd2⟩
          case measure => simp [intOf]; omega
    · obtain rfl : k = n := by omega
      have He := Lib.hid Hs.out
      go_wp2
      go_ret
      exact ⟨by rw [← He.out]; rfl, hb⟩

end Go.Proofs.Ytplgcfjcdjlnbaa
