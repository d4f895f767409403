/-
  Several texts in one: Tlm1 Tlm2 Tlm3 Tlm4 Tlm5.
-/
import Derived.Test.YtonejdjhdjckjaaGreatKM3
import Derived.Test.YtonejdjhdjckjaaGreatKM2
import Derived.Test.YtonejdjhdjckjaaGreatCells
import Derived.Test.YtonejdjhdjckjaaGreatBig
import Derived.Lib.BufferOwn
/-
  tlm's small functions walked (printed by gen_sch6.py).
-/
set_option linter.unusedSimpArgs false
set_option linter.unusedVariables false
namespace Go.Proofs.YtonejdjhdjckjaaGreat
open Go.RowKit NumLaw
attribute [local go_sem] Addr.add_mid
attribute [-go_sem] run_eql_struct run_neq_struct

theorem szS_eq (id : Int) : (0 < wdS (frm id).2 → szS id = wdS (frm id).2 + 8) ∧ (¬ 0 < wdS (frm id).2 → szS id = 0) := by
  unfold szS
  constructor
  · intro h; rw [if_neg (by omega)]
  · intro h; rw [if_pos (by omega)]
theorem wd_200 (id : Int) : wdS (frm id).2 ≤ 200 := by
  rcases frm_id id with ⟨_, _, h⟩ | ⟨_, _, _, h, _⟩ <;> omega
theorem tsize_any (id : Int) (w : World) : Calls Tryz.prog 10 #[.int .i64 id] w fun e w' => e = .returned (.int .i64 (szS id : Int)) ∧ Below w.heap.size w w' := by
  have hw := width_any id w
  have h2 := wd_200 id
  obtain ⟨e1, e2⟩ := szS_eq id
  have E1 := Lib.hid e1
  have E2 := Lib.hid e2
  generalize wdS (frm id).2 = W at *
  have Hw := Lib.hid hw
  clear hw e1 e2
  by_cases h0 : 0 < W
  · have h0' : (0 : Int) < (W : Int) := by omega
    have hv := E1.out h0
    have Hv := Lib.hid hv
    clear hv
    go_enter Tryz.func10, Tryz.ntmps10
    go_wp2_with fail
    go_fit Hw.out
    rintro e w1 ⟨rfl, hb⟩
    go_wp2
    go_ret
    exact ⟨by rw [Hv.out]; go_num, hb⟩
  · have h0' : ¬ (0 : Int) < (W : Int) := by omega
    have hv := E2.out h0
    have Hv := Lib.hid hv
    clear hv
    go_enter Tryz.func10, Tryz.ntmps10
    go_wp2_with fail
    go_fit Hw.out
    rintro e w1 ⟨rfl, hb⟩
    go_wp2
    go_ret
    exact ⟨by rw [Hv.out]; rfl, hb⟩
theorem qtsize_any (id : Int) (w : World) : Calls Tryz.prog 15 #[.int .i64 id] w fun e w' => e = .returned (.int .i64 (szS id : Int)) ∧ Below w.heap.size w w' := by
  have hp := qparts_any id w
  have hw := fun w => qwidth_any id w
  have h2 := wd_200 id
  obtain ⟨e1, e2⟩ := szS_eq id
  have hcase := frm_id id
  have hc : ((frm id).2 = [] ∧ wdS (frm id).2 = 0) ∨ ((frm id).2 ≠ [] ∧ 0 < wdS (frm id).2) := by
    rcases hcase with ⟨_, h, h'⟩ | ⟨_, h, h', _⟩
    · exact .inl ⟨h, h'⟩
    · exact .inr ⟨h, h'⟩
  have E1 := Lib.hid e1
  have E2 := Lib.hid e2
  obtain ⟨L, hL⟩ : ∃ L, L = (frm id).2 := ⟨_, rfl⟩
  rw [← hL] at hp hw h2 hc E1 E2
  have hl0 : (L.length = 0 ∧ wdS L = 0) ∨ (L.length ≠ 0 ∧ 0 < wdS L) := by
    rcases hc with ⟨h, h'⟩ | ⟨h, h'⟩
    · exact .inl ⟨by rw [h]; rfl, h'⟩
    · exact .inr ⟨fun h0 => h (List.eq_nil_of_length_eq_zero h0), h'⟩
  generalize wdS L = W at *
  have Hp := Lib.hid hp
  have Hw := Lib.hid hw
  clear hp hw e1 e2 hcase hc hL
  rcases hl0 with ⟨hz, h0⟩ | ⟨hz, h0⟩
  · have hv := E2.out (by omega)
    have Hv := Lib.hid hv
    have Hz := Lib.hid hz
    clear hv h0 hz
    go_enter Tryz.func15, Tryz.ntmps15
    go_wp2_with fail
    go_fit Hp.out
    unfold RetPt
    rintro e w1 ⟨A, n, c, rfl, hr, hb⟩
    obtain rfl : n = 0 := by rw [← hr.len]; exact Hz.out
    clear hr
    go_wp2
    go_ret
    exact ⟨by rw [Hv.out]; rfl, hb⟩
  · have hv := E1.out h0
    have Hv := Lib.hid hv
    have Hz := Lib.hid hz
    clear hv hz
    go_enter Tryz.func15, Tryz.ntmps15
    go_wp2_with fail
    go_fit Hp.out
    unfold RetPt
    rintro e w1 ⟨A, n, c, rfl, hr, hb⟩
    have hn : ¬ n = 0 := fun hh => Hz.out (by rw [hr.len]; exact hh)
    have hn' : ¬ (n : Int) = 0 := by omega
    clear hr
    go_wp2_with fail
    go_fit (Hw.out w1)
    rintro e w2 ⟨rfl, hbx⟩
    have hb2 := bnx hb hbx
    clear hbx hb
    go_wp2
    go_ret
    exact ⟨by rw [Hv.out]; go_num, hb2⟩
set_option maxRecDepth 10000 in
set_option maxHeartbeats 2000000 in
theorem octets_any (A : Option Addr) (n c : Nat) (vs : List Int) (w : World) (h : Rd w w.heap.size 1 A n c (vs.map (Value.int .i64))) :
    Calls Tryz.prog 19 #[.slice A n c] w fun e w' => e = .returned (.bool (vs.all byteQ)) ∧ Below w.heap.size w w' := by
  have hl : vs.length = n := by have := h.len; simpa using this
  have hmx := h.max
  have hle := h.le
  unfold maxLen at hmx
  have Hl := Lib.hid hl
  clear hl
  go_enter Tryz.func19, Tryz.ntmps19
  go_wp2_with fail
  go_loopw [7] (fun i wr => ∃ k : Nat, k ≤ n ∧ i = .int .i64 k ∧ Below w.heap.size w wr ∧ Hid ((vs.take k).all byteQ = true)) (fun i _ => n - (intOf i).toNat)
  case atStart => exact ⟨0, by omega, rfl, Below.refl _ _, Lib.hid rfl⟩
  case round =>
    obtain ⟨k, hk, rfl, hb, Ht⟩ := hrel
    by_cases hlt : k < n
    · have hlt' : (k : Int) < (n : Int) := by omega
      obtain ⟨ad, x, rfl, hx, hc, hady⟩ := num_at h hlt
      have kx := (hb.cell (p := ad.add k) (by rw [blk_add]; exact hady)).trans hc
      have hts := take_succ hx
      obtain ⟨y, hy⟩ : ∃ y, y = x % 256 := ⟨_, rfl⟩
      have hw1 : IntKind.u8.wrap x = y := hy.symm
      have hw2 : wrap64 y = y := by unfold wrap64; omega
      by_cases hq : byteQ x = true
      · have hx2 : x % 256 = x := by unfold byteQ at hq; have := of_decide_eq_true hq; omega
        have Ht2 : Hid ((vs.take (k + 1)).all byteQ = true) := Lib.hid (by rw [hts, List.all_append, Ht.out, List.all_cons, hq]; rfl)
        have hne : (x != y) = false := by rw [hy, hx2]; simp
        clear hx hts hq hc hx2 hy
        go_wp2
        go_roundw
        case rel => exact ⟨k + 1, by omega, by go_num, hb, Ht2⟩
        case measure => simp [intOf]; omega
      · have hx2 : ¬ x = x % 256 := by
          intro hh
          refine hq ?_
          unfold byteQ
          exact decide_eq_true (by omega)
        have hqf : byteQ x = false := by cases hb : byteQ x with | true => exact absurd hb hq | false => rfl
        have hv : vs.all byteQ = false := by
          cases hh : vs.all byteQ with
          | false => rfl
          | true => exact absurd hh (all_not hx hqf)
        have Hv := Lib.hid hv
        have hne : (x != y) = true := by rw [hy]; simp; exact hx2
        clear hx hts hq hqf hc hx2 hv hy
        go_wp2
        go_ret
        exact ⟨by rw [Hv.out]; rfl, hb⟩
    · obtain rfl : k = n := by omega
      have hv : vs.all byteQ = true := by
        have := Ht.out
        rwa [List.take_of_length_le (by rw [Hl.out]; exact Nat.le_refl _)] at this
      have Hv := Lib.hid hv
      clear hv
      go_wp2
      go_ret
      exact ⟨by rw [Hv.out]; rfl, hb⟩
set_option maxHeartbeats 2000000 in
theorem tsum_any (id : Int) (A : Option Addr) (n c B : Nat) (l : List UInt8) (w : World) (h : Rd w B 1 A n c (bv l)) (hB : B ≤ w.heap.size) :
    Calls Tryz.prog 13 #[.int .i64 id, .slice A n c] w (RetB w (sm2 (frm id) l)) := by
  have hlt := CrcLaw.moreN_lt l (c := 65535) (by omega)
  have H := crcOf_any _ _ _ _ _ _ (RdL.lit1 (e := 22) hB h) (by simp)
  simp only [World.size_alloc, List.flatten_cons, List.flatten_nil, List.append_nil] at H
  have hx := fun w => extra_any id w
  rw [exS_N] at hx
  have hxl := exN_lt (frm id)
  have hs : smN (frm id) l = CrcLaw.stepN (CrcLaw.moreN 65535 l) (exN (frm id)) := rfl
  have hsl := smN_lt (frm id) l
  have hs2 : sm2 (frm id) l = [UInt8.ofNat (smN (frm id) l % 256), UInt8.ofNat (smN (frm id) l / 256)] := rfl
  generalize exN (frm id) = x at *
  generalize CrcLaw.moreN 65535 l = m at *
  have HH := Lib.hid H
  have Hx := Lib.hid hx
  have hst := fun w => step_any m x w hlt hxl
  rw [← hs] at hst
  generalize smN (frm id) l = q at *
  have Hst := Lib.hid hst
  have Hs2 := Lib.hid hs2
  clear H hx hst hs hs2
  go_enter Tryz.func13, Tryz.ntmps13
  go_wp2_with fail
  go_fit HH.out
  rintro e w1 ⟨rfl, hb1⟩
  have hb1 := bnxa (Below.refl _ _) hb1
  go_wp2_with fail
  go_fit (Hx.out w1)
  rintro e w2 ⟨rfl, hbx⟩
  have hb2 := bnx hb1 hbx
  go_wp2_with fail
  go_fit (Hst.out w2)
  rintro e w3 ⟨rfl, rfl⟩
  have h1 : ((q % 256 : Nat) : Int) = (q : Int) % 256 := by omega
  have h2 : ((q / 256 : Nat) : Int) % 256 = ((q / 256 : Nat) : Int) := by omega
  have own := own_new w2 w.heap.size 5 (bv (sm2 (frm id) l)) hb2.size (by rw [Hs2.out]; simp [bv, maxLen])
  have hbv : (bv (sm2 (frm id) l)).toArray = #[.int .u8 ((q : Int) % 256), .int .u8 ((q : Int) / 256)] := by
    rw [Hs2.out]
    have e1 : (UInt8.ofNat (q % 256)).toNat = q % 256 := by rw [UInt8.toNat_ofNat']; omega
    have e2 : (UInt8.ofNat (q / 256)).toNat = q / 256 := by rw [UInt8.toNat_ofNat']; omega
    simp [bv, e1, e2]
  have hl2 : (bv (sm2 (frm id) l)).length = 2 := by rw [Hs2.out]; rfl
  rw [hl2, hbv] at own
  have Hown := Lib.hid own
  have hb3 : Below w.heap.size w (w2.alloc (.cells #[.int .u8 ((q : Int) % 256), .int .u8 ((q : Int) / 256)] 5)) := hb2.alloc hb2.size _
  clear own hbv hl2 hb1 hb2 hbx h1 h2
  go_wp2
  go_ret
  exact ⟨_, _, 2, rfl, Hown.out, hb3⟩
set_option maxRecDepth 10000 in
set_option maxHeartbeats 2000000 in
theorem equal8_any (A : Option Addr) (n c B : Nat) (l : List UInt8) (A' : Option Addr) (n' c' B' : Nat) (l' : List UInt8) (w : World) (h : Rd w B 1 A n c (bv l)) (hB : B ≤ w.heap.size) (h' : Rd w B' 1 A' n' c' (bv l')) (hB' : B' ≤ w.heap.size) :
    Calls Tryz.prog 12 #[.slice A n c, .slice A' n' c'] w fun e w' => e = .returned (.bool (decide (l = l'))) ∧ Below w.heap.size w w' := by
  replace h := h.more hB
  replace h' := h'.more hB'
  have Hl := Lib.hid h.blen
  have Hl' := Lib.hid h'.blen
  have hmx := h.max
  have hle := h.le
  have hmx' := h'.max
  have hle' := h'.le
  unfold maxLen at hmx hmx'
  clear hB hB'
  by_cases hn : n = n'
  case neg =>
    have hv : decide (l = l') = false := decide_eq_false (fun e => hn (by rw [← Hl.out, ← Hl'.out, e]))
    have Hv := Lib.hid hv
    have hn' : ¬ (n : Int) = (n' : Int) := by omega
    have hnq : ((n : Int) != (n' : Int)) = true := by simp; omega
    clear hv
    go_enter Tryz.func12, Tryz.ntmps12
    go_wp2
    go_ret
    exact ⟨by rw [Hv.out]; rfl, Below.refl _ _⟩
  subst hn
  have hnn : ((n : Int) != (n : Int)) = false := by simp
  go_enter Tryz.func12, Tryz.ntmps12
  go_wp2_with fail
  go_loopw [13] (fun i wr => ∃ k : Nat, k ≤ n ∧ i = .int .i64 k ∧ Below w.heap.size w wr ∧ Hid (l.take k = l'.take k)) (fun i _ => n - (intOf i).toNat)
  case atStart => exact ⟨0, by omega, rfl, Below.refl _ _, Lib.hid rfl⟩
  case round =>
    obtain ⟨k, hk, rfl, hb, Ht⟩ := hrel
    by_cases hlt : k < n
    · have hlt' : (k : Int) < (n : Int) := by omega
      obtain ⟨ad, x, rfl, hx, hc⟩ := h.byte hlt
      obtain ⟨ad', y, rfl, hy, hc'⟩ := h'.byte hlt
      obtain ⟨_, e1, hb1, _⟩ := h.at_ (by omega)
      injection e1 with e1
      subst e1
      obtain ⟨_, e1, hb2, _⟩ := h'.at_ (by omega)
      injection e1 with e1
      subst e1
      have Hx := Lib.hid (show ∀ wq, Below w.heap.size w wq → wq.cell? (ad.add k) = some (.int .u8 (x.toNat : Int)) from fun wq hbq => (hbq.cell (p := ad.add k) (by rw [blk_add]; exact hb1)).trans hc)
      have Hy := Lib.hid (show ∀ wq, Below w.heap.size w wq → wq.cell? (ad'.add k) = some (.int .u8 (y.toNat : Int)) from fun wq hbq => (hbq.cell (p := ad'.add k) (by rw [blk_add]; exact hb2)).trans hc')
      have Htx := Lib.hid (take_succ hx)
      have Hty := Lib.hid (take_succ hy)
      have Hne := Lib.hid (takeP_ne hx hy)
      clear hx hy hc hc' hb1 hb2
      go_wp2_with fail
      refine Ord.region_ (fun w' => Below w.heap.size w w') false [] (by kernel_rfl) (by kernel_rfl) hb.drew ?_
      replace hb := hb.drew
      generalize wr.drew = wd at *
      ((with_reducible refine Ord.e_p (v := ?_) ?_ ?_ ?_ ?_); rotate_left; (· exact rfl); (· kernel_rfl); (· intro w2; go_simp; try with_reducible rfl))
      (try simp only [Act.put, List.setIfInBounds_toArray, List.set_cons_zero, List.set_cons_succ])
      ((with_reducible refine Ord.e_p (v := ?_) ?_ ?_ ?_ ?_); rotate_left; (· exact rfl); (· kernel_rfl); (· intro w2; go_simp; try with_reducible rfl))
      (try simp only [Act.put, List.setIfInBounds_toArray, List.set_cons_zero, List.set_cons_succ])
      ((with_reducible refine Ord.e_p (v := ?_) ?_ ?_ ?_ ?_); rotate_left; (· exact rfl); (· kernel_rfl); (· intro w2; go_simp; try with_reducible rfl))
      (try simp only [Act.put, List.setIfInBounds_toArray, List.set_cons_zero, List.set_cons_succ])
      refine Ord.e_loadS (ad := ad.add k) Tryz.underlying5 rfl (fun w' hS => Hx.out w' hS) hb rfl (by kernel_rfl) ?_
      (try simp only [Act.put, List.setIfInBounds_toArray, List.set_cons_zero, List.set_cons_succ])
      ((with_reducible refine Ord.e_p (v := ?_) ?_ ?_ ?_ ?_); rotate_left; (· exact rfl); (· kernel_rfl); (· intro w2; go_simp; try with_reducible rfl))
      (try simp only [Act.put, List.setIfInBounds_toArray, List.set_cons_zero, List.set_cons_succ])
      ((with_reducible refine Ord.e_p (v := ?_) ?_ ?_ ?_ ?_); rotate_left; (· exact rfl); (· kernel_rfl); (· intro w2; go_simp; try with_reducible rfl))
      (try simp only [Act.put, List.setIfInBounds_toArray, List.set_cons_zero, List.set_cons_succ])
      ((with_reducible refine Ord.e_p (v := ?_) ?_ ?_ ?_ ?_); rotate_left; (· exact rfl); (· kernel_rfl); (· intro w2; go_simp; try with_reducible rfl))
      (try simp only [Act.put, List.setIfInBounds_toArray, List.set_cons_zero, List.set_cons_succ])
      refine Ord.e_loadS (ad := ad'.add k) Tryz.underlying5 rfl (fun w' hS => Hy.out w' hS) hb rfl (by kernel_rfl) ?_
      (try simp only [Act.put, List.setIfInBounds_toArray, List.set_cons_zero, List.set_cons_succ])
      by_cases hxy : x = y
      · subst hxy
        have hq : (((x.toNat : Int)) != (x.toNat : Int)) = false := by simp
        refine Ord.e_p (v := .bool false) rfl (by kernel_rfl) (fun w2 => by go_simp) ?_
        (try simp only [Act.put, List.setIfInBounds_toArray, List.set_cons_zero, List.set_cons_succ])
        refine Ord.e_nil ?_
        have Ht2 : Hid (l.take (k + 1) = l'.take (k + 1)) := Lib.hid (by rw [Htx.out, Hty.out, Ht.out])
        go_wp2
        go_roundw
        case rel => exact ⟨k + 1, by omega, by go_num, hb, Ht2⟩
        case measure => simp [intOf]; omega
      · have hne : ¬ x.toNat = y.toNat := fun e => hxy (UInt8.toNat_inj.1 e)
        have hne' : ¬ (x.toNat : Int) = (y.toNat : Int) := by omega
        have hq : (((x.toNat : Int)) != (y.toNat : Int)) = true := by simp; exact hne'
        refine Ord.e_p (v := .bool true) rfl (by kernel_rfl) (fun w2 => by go_simp) ?_
        (try simp only [Act.put, List.setIfInBounds_toArray, List.set_cons_zero, List.set_cons_succ])
        refine Ord.e_nil ?_
        have hv : decide (l = l') = false := decide_eq_false (Hne.out hxy)
        have Hv := Lib.hid hv
        clear hv
        go_wp2
        go_ret
        exact ⟨by rw [Hv.out]; rfl, hb⟩
    · obtain rfl : k = n := by omega
      have hv : decide (l = l') = true := decide_eq_true (by
        have := Ht.out
        rwa [List.take_of_length_le (by rw [Hl.out]; exact Nat.le_refl _), List.take_of_length_le (by rw [Hl'.out]; exact Nat.le_refl _)] at this)
      have Hv := Lib.hid hv
      clear hv
      go_wp2
      go_ret
      exact ⟨by rw [Hv.out]; rfl, hb⟩
set_option maxRecDepth 10000 in
set_option maxHeartbeats 2000000 in
theorem sealed_any (id : Int) (A : Option Addr) (n c B : Nat) (l : List UInt8) (w : World) (h : Rd w B 1 A n c (bv l)) (hB : B ≤ w.heap.size) (hn : n ≤ 1000000) :
    Calls Tryz.prog 16 #[.int .i64 id, .slice A n c] w (RetB w (254 :: (l ++ sm2 (frm id) l))) := by
  obtain ⟨i0, hi⟩ := info_parts u8_info
  have Hi := Lib.hid hi
  have Hl := Lib.hid h.blen
  have hlt := CrcLaw.moreN_lt l (c := 65535) (by omega)
  have HH := Lib.hid (fun w h => rof_any A n c B l w h)
  have hx := fun w => qextra_any id w
  rw [exS_N] at hx
  have hxl := exN_lt (frm id)
  have hs : smN (frm id) l = CrcLaw.stepN (CrcLaw.moreN 65535 l) (exN (frm id)) := rfl
  have hsl := smN_lt (frm id) l
  have hs2 : sm2 (frm id) l = [UInt8.ofNat (smN (frm id) l % 256), UInt8.ofNat (smN (frm id) l / 256)] := rfl
  generalize exN (frm id) = x at *
  generalize CrcLaw.moreN 65535 l = m at *
  have Hx := Lib.hid hx
  have hst := fun w => rstep_any m x w hlt hxl
  rw [← hs] at hst
  generalize smN (frm id) l = q at *
  generalize sm2 (frm id) l = T at *
  have Hst := Lib.hid hst
  have Hs2 := Lib.hid hs2
  have htl : T.length = 2 := by rw [hs2]; rfl
  clear hx hst hs hs2 hi
  go_enter Tryz.func16, Tryz.ntmps16
  go_wp2_with fail
  go_fit (HH.out w h)
  rintro e w1 ⟨rfl, rfl⟩
  go_wp2_with fail
  go_fit (Hx.out w)
  rintro e w2 ⟨rfl, hb2⟩
  go_wp2_with fail
  go_fit (Hst.out w2)
  rintro e w3 ⟨rfl, rfl⟩
  have hr2 := (h.more hB).nx hb2
  have own2 := own_new w2 w.heap.size 5 (bv [254]) hb2.size (by simp [bv, maxLen])
  have hb3 : Below w.heap.size w (w2.alloc (.cells (bv [254]).toArray 5)) := hb2.alloc hb2.size _
  have hr3 := hr2.up ((Below.refl w2.heap.size w2).alloc (Nat.le_refl _) (.cells (bv [254]).toArray 5))
  have e254 : (bv [254]).toArray = #[Value.int .u8 254] := rfl
  rw [e254] at own2 hb3 hr3
  clear e254 hr2
  go_wp2_with (at_builtin; refine stop_ ?_)
  generalize (w2.alloc (.cells #[Value.int .u8 254] 5)) = wa at *
  refine go_ (wpList_appG (base := w.heap.size) (n := 1) Tryz.underlying22 Hi.out rfl (by omega) own2 rfl hr3 rfl (bv_one _) (k := 1 + n) rfl (bv_app _ _).symm (by unfold maxLen; omega) (by omega) hb3.size ?_)
  intro A3 c3 w4 own4 hgr hob
  have hb4 := Below.grown hb3 hgr hb3.size (fun j hj => (own_blk own2 hj).1)
  clear hgr hob own2 hr3 hb3 hb2
  have h2 := rd_two w4 5 (q % 256) (q / 256) (by omega) (by omega)
  rw [show ((q % 256 : Nat) : Int) = (q : Int) % 256 by omega, show ((q / 256 : Nat) : Int) = (q : Int) / 256 by omega, ← Hs2.out] at h2
  have own5 := own_up own4 ((Below.refl w4.heap.size w4).alloc (Nat.le_refl _) (.cells #[.int .u8 ((q : Int) % 256), .int .u8 ((q : Int) / 256)] 5)) (Nat.le_refl _)
  have hb5 : Below w.heap.size w (w4.alloc (.cells #[.int .u8 ((q : Int) % 256), .int .u8 ((q : Int) / 256)] 5)) := hb4.alloc hb4.size _
  clear own4 hb4
  go_wp2_with (at_builtin; refine stop_ ?_)
  generalize (w4.alloc (.cells #[.int .u8 ((q : Int) % 256), .int .u8 ((q : Int) / 256)] 5)) = w5 at *
  refine go_ (wpList_appG (base := w.heap.size) (n := 1 + n) Tryz.underlying22 Hi.out rfl (by omega) own5 rfl h2 rfl (bv_one _) (k := 1 + n + 2) rfl (bv_app _ _).symm (by unfold maxLen; omega) (by omega) hb5.size ?_)
  intro A6 c6 w6 own6 hgr hob
  have hb6 := Below.grown hb5 hgr hb5.size (fun j hj => (own_blk own5 hj).1)
  rw [show ([254] ++ l ++ T : List UInt8) = 254 :: (l ++ T) by simp] at own6
  clear hgr hob own5 h2 hb5
  go_wp2
  go_ret
  exact ⟨A6, c6, 1 + n + 2, rfl, own6, hb6⟩
theorem num32_any (n : Int) (w : World) : Calls Tryz.prog 8 #[.int .i64 n] w fun e w' => e = .returned (.int .i64 n) ∧ w = w' := by
  go_enter Tryz.func8, Tryz.ntmps8
  go_wp2
  go_ret
  exact ⟨rfl, rfl⟩

end Go.Proofs.YtonejdjhdjckjaaGreat

/-
  tlm.Put walked (printed by gen_sch6.py).
-/
set_option linter.unusedSimpArgs false
set_option linter.unusedVariables false
namespace Go.Proofs.YtonejdjhdjckjaaGreat
open Go.RowKit NumLaw
attribute [local go_sem] Addr.add_mid
attribute [-go_sem] run_eql_struct run_neq_struct

theorem u8i_mod (n : Int) : IntKind.u8.wrap n = ((u8i n).toNat : Int) := by
  show n % 256 = _
  unfold u8i
  rw [UInt8.toNat_ofNat']
  omega
def PkB (p : PkV) : Prop := (-9223372036854775808 ≤ p.sq ∧ p.sq ≤ 9223372036854775807) ∧ (-9223372036854775808 ≤ p.sy ∧ p.sy ≤ 9223372036854775807) ∧ (-9223372036854775808 ≤ p.co ∧ p.co ≤ 9223372036854775807) ∧ (-9223372036854775808 ≤ p.id ∧ p.id ≤ 9223372036854775807) ∧ ∀ x ∈ p.v, -9223372036854775808 ≤ x ∧ x ≤ 9223372036854775807
theorem tlI_len {p : PkV} : (tlI p).length = (sPB (frm p.id) p.v).length + 5 := by unfold tlI; simp
theorem sPB_len {id : Int} {v : List Int} : (sPB (frm id) v).length ≤ 200 := by
  by_cases h : sPE (frm id) v = 0
  · have h1 := (s_there (frm_n id).1 h).2.2.1
    have := wd_200 id
    omega
  · rw [sPB_not h]; exact Nat.zero_le _
set_option maxRecDepth 20000 in
set_option maxHeartbeats 8000000 in
theorem tlput_any (sq sy co id : Int) (A : Option Addr) (n c : Nat) (v : List Int) (w : World) (h : Rd w w.heap.size 1 A n c (v.map (Value.int .i64))) (hB : PkB ⟨sq, sy, co, id, v⟩) :
    Calls Tryz.prog 9 #[.agg #[.int .i64 sq, .int .i64 sy, .int .i64 co, .int .i64 id, .slice A n c]] w (RetPS w (tlB ⟨sq, sy, co, id, v⟩) (tlE ⟨sq, sy, co, id, v⟩)) := by
  have hok : okO ⟨sq, sy, co, id, v⟩ = [sq, sy, co].all byteQ := by unfold okO; simp [Bool.and_assoc]
  have hE : tlE ⟨sq, sy, co, id, v⟩ = if okO ⟨sq, sy, co, id, v⟩ = true then sPE (frm id) v else 1 := rfl
  have hBt : tlB ⟨sq, sy, co, id, v⟩ = if tlE ⟨sq, sy, co, id, v⟩ = 0 then 254 :: (tlI ⟨sq, sy, co, id, v⟩ ++ sm2 (frm id) (tlI ⟨sq, sy, co, id, v⟩)) else [] := rfl
  have hI : tlI ⟨sq, sy, co, id, v⟩ = [u8i ((sPB (frm id) v).length : Int), u8i sq, u8i sy, u8i co, u8i id] ++ sPB (frm id) v := rfl
  have hil := @tlI_len ⟨sq, sy, co, id, v⟩
  have hpl := @sPB_len id v
  have hp := fun A n c w h => put31_any id A n c v w h hB.2.2.2.2
  have hsm := fun A n c B l w h hB => tsum_any id A n c B l w h hB
  generalize tlE ⟨sq, sy, co, id, v⟩ = oE at *
  generalize tlB ⟨sq, sy, co, id, v⟩ = oB at *
  generalize okO ⟨sq, sy, co, id, v⟩ = ok at *
  generalize tlI ⟨sq, sy, co, id, v⟩ = I at *
  dsimp only at hil
  generalize sPE (frm id) v = pE at *
  generalize sPB (frm id) v = pB at *
  have hsl : ∀ l, (sm2 (frm id) l).length = 2 := fun _ => rfl
  generalize frm id = fm at *
  have Hp := Lib.hid hp
  have Hsm := Lib.hid hsm
  have Hok := Lib.hid hok
  have HE := Lib.hid hE
  have HBt := Lib.hid hBt
  have HI := Lib.hid hI
  have Hil := Lib.hid hil
  have Hsl := Lib.hid hsl
  obtain ⟨y1, hy1⟩ : ∃ y, y = ((u8i sq).toNat : Int) := ⟨_, rfl⟩
  obtain ⟨y2, hy2⟩ : ∃ y, y = ((u8i sy).toNat : Int) := ⟨_, rfl⟩
  obtain ⟨y3, hy3⟩ : ∃ y, y = ((u8i co).toNat : Int) := ⟨_, rfl⟩
  obtain ⟨y4, hy4⟩ : ∃ y, y = ((u8i id).toNat : Int) := ⟨_, rfl⟩
  have hw1 : IntKind.u8.wrap sq = y1 := by rw [hy1]; exact u8i_mod sq
  have hw2 : IntKind.u8.wrap sy = y2 := by rw [hy2]; exact u8i_mod sy
  have hw3 : IntKind.u8.wrap co = y3 := by rw [hy3]; exact u8i_mod co
  have hw4 : IntKind.u8.wrap id = y4 := by rw [hy4]; exact u8i_mod id
  have Hy := Lib.hid (And.intro hy1 (And.intro hy2 (And.intro hy3 hy4)))
  obtain ⟨i0, hi⟩ := info_parts u8_info
  have Hi := Lib.hid hi
  clear hp hsm hok hE hBt hI hil hB hy1 hy2 hy3 hy4 hi hsl
  have a0 := heap_alloc_new w (.cells #[.int .i64 sq, .int .i64 sy, .int .i64 co, .int .i64 id, .slice A n c] 28)
  have hba : Below w.heap.size w (w.alloc (.cells #[.int .i64 sq, .int .i64 sy, .int .i64 co, .int .i64 id, .slice A n c] 28)) := (Below.refl _ _).alloc (Nat.le_refl _) _
  have hlt0 := blk_lt a0
  have own3 := own_new (w.alloc (.cells #[.int .i64 sq, .int .i64 sy, .int .i64 co, .int .i64 id, .slice A n c] 28)) w.heap.size 3 [.int .i64 sq, .int .i64 sy, .int .i64 co] hba.size (by simp [maxLen])
  have hb2 : Below (w.alloc (.cells #[.int .i64 sq, .int .i64 sy, .int .i64 co, .int .i64 id, .slice A n c] 28)).heap.size (w.alloc (.cells #[.int .i64 sq, .int .i64 sy, .int .i64 co, .int .i64 id, .slice A n c] 28)) ((w.alloc (.cells #[.int .i64 sq, .int .i64 sy, .int .i64 co, .int .i64 id, .slice A n c] 28)).alloc (.cells #[.int .i64 sq, .int .i64 sy, .int .i64 co] 3)) := (Below.refl _ _).alloc (Nat.le_refl _) _
  have hr3 := Rd.own own3
  have a2 := blk_old a0 hb2 hlt0
  have hbw2 := bnx hba hb2
  have h2 := h.nx hbw2
  have hlt2 := blk_lt a2
  have hz2 : w.heap.size + 1 + 1 ≤ ((w.alloc (.cells #[.int .i64 sq, .int .i64 sy, .int .i64 co, .int .i64 id, .slice A n c] 28)).alloc (.cells #[.int .i64 sq, .int .i64 sy, .int .i64 co] 3)).heap.size := by simp only [World.size_alloc]; exact Nat.le_refl _
  simp only [World.size_alloc] at hr3
  have c0 := blk_cell (i := 0) (v := .int .i64 sq) a0 rfl
  have c1 := blk_cell (i := 1) (v := .int .i64 sy) a0 rfl
  have c2 := blk_cell (i := 2) (v := .int .i64 co) a0 rfl
  have c3 := blk_cell (i := 3) (v := .int .i64 id) a0 rfl
  have c4 := blk_cell (i := 4) (v := .slice A n c) a0 rfl
  clear own3 hb2 hba hlt0
  go_enter Tryz.func9, Tryz.ntmps9
  go_wp2_with fail
  obtain ⟨b0, hb0⟩ : ∃ b0, b0 = w.heap.size := ⟨_, rfl⟩
  rw [← hb0] at a2 hlt2 hr3 hz2 ⊢
  generalize ((w.alloc (.cells #[.int .i64 sq, .int .i64 sy, .int .i64 co, .int .i64 id, .slice A n c] 28)).alloc (.cells #[.int .i64 sq, .int .i64 sy, .int .i64 co] 3)) = w2 at *
  clear hb0 h c0 c1 c2 c3 c4 a0
  go_fit (octets_any _ 3 3 [sq, sy, co] w2 (hr3.more hz2))
  rintro e w3 ⟨rfl, hbx⟩
  rw [← Hok.out]
  have hb3 := bnx hbw2 hbx
  have h3 := h2.nx hbx
  have a3 := blk_old a2 hbx hlt2
  have hlt3 := blk_lt a3
  clear hr3 hbw2 hbx h2 a2 hlt2
  cases ok with
  | false =>
    have e1 : Hid (oE = 1) := Lib.hid (by rw [HE.out]; rfl)
    have e2 : Hid (oB = []) := Lib.hid (by rw [HBt.out, e1.out]; rfl)
    clear h3
    go_wp2
    go_ret2
    rw [e1.out, e2.out]
    exact ⟨none, 0, 0, rfl, World.ownsRow_nil _ _ _ _, hb3⟩
  | true =>
    have e1 : Hid (oE = pE) := Lib.hid (by rw [HE.out]; rfl)
    have c3 : w3.cell? ⟨b0, 3, none⟩ = some (.int .i64 id) := blk_cell a3 rfl
    have c4 : w3.cell? ⟨b0, 4, none⟩ = some (.slice A n c) := blk_cell a3 rfl
    go_wp2_with fail
    go_fit (Hp.out A n c w3 h3)
    rintro e w4 ⟨Ap, np, kp, rfl, ownp, hbx⟩
    have hb4 := bnx hb3 hbx
    have hnp := own_len ownp
    have a4 := blk_old a3 hbx hlt3
    have hlt4 := blk_lt a4
    clear c3 c4 hbx hb3 h3 a3 hlt3
    by_cases hz : pE = 0
    case neg =>
      have hz' : ¬ (pE : Int) = 0 := by omega
      have hzq : ((pE : Int) != 0) = true := by simp; exact hz
      have e2 : Hid (oB = []) := Lib.hid (by rw [HBt.out, e1.out, if_neg hz])
      clear ownp
      go_wp2
      go_ret2
      rw [e1.out, e2.out]
      exact ⟨none, 0, 0, rfl, World.ownsRow_nil _ _ _ _, hb4⟩
    subst hz
    have e2 : Hid (oB = 254 :: (I ++ sm2 fm I)) := Lib.hid (by rw [HBt.out, e1.out]; rfl)
    have c0 : w4.cell? ⟨b0, 0, none⟩ = some (.int .i64 sq) := blk_cell a4 rfl
    have c1 : w4.cell? ⟨b0, 1, none⟩ = some (.int .i64 sy) := blk_cell a4 rfl
    have c2 : w4.cell? ⟨b0, 2, none⟩ = some (.int .i64 co) := blk_cell a4 rfl
    obtain ⟨y0, hy0⟩ : ∃ y, y = ((u8i (np : Int)).toNat : Int) := ⟨_, rfl⟩
    have hw0 : IntKind.u8.wrap (np : Int) = y0 := by rw [hy0]; exact u8i_mod _
    have hbv : (bv [254, u8i (np : Int), u8i sq, u8i sy, u8i co, u8i id]) = [.int .u8 254, .int .u8 y0, .int .u8 y1, .int .u8 y2, .int .u8 y3, .int .u8 y4] := by
      rw [hy0, Hy.out.1, Hy.out.2.1, Hy.out.2.2.1, Hy.out.2.2.2]; rfl
    have hw5 : Below w4.heap.size w4 (w4.alloc (.cells #[.int .u8 254, .int .u8 y0, .int .u8 y1, .int .u8 y2, .int .u8 y3, .int .u8 y4] 5)) := (Below.refl _ _).alloc (Nat.le_refl _) _
    have hr5 : Rd (w4.alloc (.cells #[.int .u8 254, .int .u8 y0, .int .u8 y1, .int .u8 y2, .int .u8 y3, .int .u8 y4] 5)) (w4.alloc (.cells #[.int .u8 254, .int .u8 y0, .int .u8 y1, .int .u8 y2, .int .u8 y3, .int .u8 y4] 5)).heap.size 1 (some ⟨w4.heap.size, 0, none⟩) 6 6 (bv [254, u8i (np : Int), u8i sq, u8i sy, u8i co, u8i id]) := by
      rw [hbv]
      exact Rd.own (own_new w4 w4.heap.size 5 [.int .u8 254, .int .u8 y0, .int .u8 y1, .int .u8 y2, .int .u8 y3, .int .u8 y4] (Nat.le_refl _) (by simp [maxLen]))
    have hrp := (Rd.own ownp).nx hw5
    have hb5 := bnx hb4 hw5
    have H := concat_any _ _ _ _ _ _ (RdL.lit2 (e := 22) (Nat.le_refl _) hr5 hrp) (by simp) (by simp; omega)
    simp only [World.size_alloc, List.flatten_cons, List.flatten_nil, List.append_nil] at H
    rw [show [254, u8i (np : Int), u8i sq, u8i sy, u8i co, u8i id] ++ pB = 254 :: I by rw [HI.out, hnp]; rfl] at H
    have HH := Lib.hid H
    have Hil2 : Hid (I.length = np + 5) := Lib.hid (by rw [Hil.out, hnp])
    have hnp2 : np ≤ 200 := by omega
    clear H hbv hr5 hrp hw5 ownp hb4 hy0
    go_wp2_with fail
    go_fit HH.out
    rintro e w6 hret
    have hb6x : Below w.heap.size w ((w4.alloc (.cells #[.int .u8 254, .int .u8 y0, .int .u8 y1, .int .u8 y2, .int .u8 y3, .int .u8 y4] 5)).alloc (.cells #[.slice (some ⟨w4.heap.size, 0, none⟩) 6 6, .slice Ap np kp] 22)) := hb5.alloc hb5.size _
    obtain ⟨A6, c6, n6, rfl, own6, hb6⟩ := hret.back hb6x
    have hn6 : n6 = np + 6 := by have := own_len own6; rw [List.length_cons, Hil2.out] at this; omega
    subst hn6
    clear hret hb6x hb5 HH c0 c1 c2
    have hr6 := Rd.own own6
    have hmx6 := hr6.max
    have hle6 := hr6.le
    unfold maxLen at hmx6
    have hcut : ∀ w, (Instr.slice 22 (.slice A6 (np + 6) c6) (some (.int .i64 1)) none none).run Tryz.prog w = .ok (.slice (cutA A6 c6 1 1) (np + 5) (c6 - 1)) w := fun w => run_cut_l (P := Tryz.prog) Tryz.underlying22 Hi.out.1 Hi.out.2.2.1 A6 (np + 6) c6 1 (by omega) w
    have hrc : Rd w6 w6.heap.size 1 (cutA A6 c6 1 1) (np + 5) (c6 - 1) (bv I) := hr6.bdrop (k := 1) (by omega)
    clear hr6
    go_wp2_with fail
    go_fit (Hsm.out _ (np + 5) _ w6.heap.size I w6 hrc (Nat.le_refl _))
    rintro e w7 ⟨A7, c7, n7, rfl, own7, hbx⟩
    have hb7 := bnx hb6 hbx
    have own8 := own_up own6 hbx (Nat.le_refl _)
    have hr7 := Rd.own own7
    have hn7 : n7 = 2 := by have := own_len own7; rw [Hsl.out] at this; omega
    subst hn7
    clear own6 own7 hrc hbx hb6
    go_wp2_with (at_builtin; refine stop_ ?_)
    refine go_ (wpList_appG (base := w.heap.size) (n := np + 6) Tryz.underlying22 Hi.out rfl (by omega) own8 rfl hr7 rfl (bv_one _) (k := np + 8) rfl (bv_app _ _).symm (by unfold maxLen; omega) (by omega) hb7.size ?_)
    intro A9 c9 w9 own10 hgr hob
    have hb9 := Below.grown hb7 hgr hb7.size (fun j hj => (own_blk own8 hj).1)
    rw [show (254 :: I ++ sm2 fm I : List UInt8) = 254 :: (I ++ sm2 fm I) from rfl, ← e2.out] at own10
    clear hgr hob own8 hr7 hb7
    go_wp2
    go_ret2
    rw [e1.out]
    exact ⟨A9, np + 8, c9, rfl, own10, hb9⟩

end Go.Proofs.YtonejdjhdjckjaaGreat

/-
  the document's tlm Put walked (printed by gen_sch6.py).
-/
set_option linter.unusedSimpArgs false
set_option linter.unusedVariables false
namespace Go.Proofs.YtonejdjhdjckjaaGreat
open Go.RowKit NumLaw
attribute [local go_sem] Addr.add_mid
attribute [-go_sem] run_eql_struct run_neq_struct

end Go.Proofs.YtonejdjhdjckjaaGreat

/-
  tlm.Take walked (printed by gen_sch6.py).
-/
set_option linter.unusedSimpArgs false
set_option linter.unusedVariables false
namespace Go.Proofs.YtonejdjhdjckjaaGreat
open Go.RowKit NumLaw
attribute [local go_sem] Addr.add_mid
attribute [-go_sem] run_eql_struct run_neq_struct

theorem own_setRow {w : World} {base : Nat} {e : TypeId} {size n : Nat} {v : Value} {xs : List Value} (h : w.ownsRow base e size v n xs) {g : Nat} (hg : g < base) (cs : Array Value) : (w.setRow g cs).ownsRow base e size v n xs := by
  refine ⟨h.1, ?_⟩
  rcases h.2 with h2 | ⟨k, cap, cur, hv, hk, hh, r⟩
  · exact .inl h2
  · exact .inr ⟨k, cap, cur, hv, hk, (setRow_other _ _ _ _ (by omega)).trans hh, r⟩
theorem Rd.cap {w : World} {B size n c : Nat} {A : Option Addr} {xs : List Value} (h : Rd w B size A n c xs) : Rd w B size A n n xs := ⟨h.len, Nat.le_refl _, Nat.le_trans h.le h.max, h.at_⟩
def RetTl (w : World) (b : List UInt8) (e : Ending) (w' : World) : Prop :=
  ∃ (A : Option Addr) (n c : Nat), e = .returned (.tuple #[.agg #[.int .i64 (tkP b).sq, .int .i64 (tkP b).sy, .int .i64 (tkP b).co, .int .i64 (tkP b).id, .slice A n c], .int .i64 (tkN b : Int), .int .i64 (tkE b : Int)]) ∧ Rd w' w'.heap.size 1 A n c ((tkP b).v.map (Value.int .i64)) ∧ Below w.heap.size w w'
theorem tl_out {w w' : World} {b : List UInt8} {E N : Nat} (he : tkE b = E) (h0 : ¬ E = 0) (hN : tkN b = N) (hb : Below w.heap.size w w') : RetTl w b (.returned (.tuple #[.agg #[.int .i64 0, .int .i64 0, .int .i64 0, .int .i64 0, .slice none 0 0], .int .i64 (N : Int), .int .i64 (E : Int)])) w' := by
  have hP : tkP b = zPk := by unfold tkP; rw [if_neg (by rw [he]; exact h0)]
  exact ⟨none, 0, 0, by rw [hP, he, hN]; rfl, by rw [hP]; exact Rd.none_ _ _ _, hb⟩
theorem tkE_of1 {b : List UInt8} {E : Nat} (h : tkE1 b = E) (h0 : ¬ E = 0) : tkE b = E ∧ tkN b = 0 := ⟨by unfold tkE; rw [h, if_neg h0], by unfold tkN; rw [h, if_neg h0]⟩
set_option maxRecDepth 10000 in
set_option maxHeartbeats 2000000 in
theorem cut_any (g : Nat) (A : Option Addr) (n c k : Nat) (w : World) (hg : w.heap[g]? = some (.cells #[.slice A n c] 39)) (hk : k ≤ n) (hc : n ≤ c) (hm : c ≤ maxLen) :
    Calls Tryz.prog 11 #[.pointer (some ⟨g, 0, none⟩), .int .i64 (k : Int)] w fun e w' => e = .returned (.slice A k k) ∧ w'.heap[g]? = some (.cells #[.slice (cutA A c k 1) (n - k) (c - k)] 39) ∧ w.grownBy w' (some g) := by
  obtain ⟨i0, hi⟩ := info_parts u8_info
  unfold maxLen at hm
  have hcut1 : ∀ w, (Instr.slice 22 (.slice A n c) none (some (.int .i64 (k : Int))) (some (.int .i64 (k : Int)))).run Tryz.prog w = .ok (.slice A k k) w := run_cut_hm (P := Tryz.prog) Tryz.underlying22 hi.1 A n c k (by omega)
  have hcut2 : ∀ w, (Instr.slice 22 (.slice A n c) (some (.int .i64 (k : Int))) none none).run Tryz.prog w = .ok (.slice (cutA A c k 1) (n - k) (c - k)) w := fun w => run_cut_l (P := Tryz.prog) Tryz.underlying22 hi.1 hi.2.2.1 A n c k (by omega) w
  have c0 := blk_cell (i := 0) (v := .slice A n c) hg rfl
  have f0 := blk_free (i := 0) hg
  have h1 := blk_set (i := 0) hg (.slice (cutA A c k 1) (n - k) (c - k))
  have hgr := grownBy_set (grownBy_self w (some g)) 0 (.slice (cutA A c k 1) (n - k) (c - k))
  have Hcut1 := Lib.hid hcut1
  have Hcut2 := Lib.hid hcut2
  clear hcut1 hcut2 hi
  go_enter Tryz.func11, Tryz.ntmps11
  have hcut1 := Hcut1.out
  have hcut2 := Hcut2.out
  go_wp2
  go_ret
  exact ⟨rfl, h1, hgr⟩
set_option maxRecDepth 20000 in
set_option maxHeartbeats 16000000 in
theorem tltake_any (A : Option Addr) (n c : Nat) (b : List UInt8) (w : World) (h : Rd w w.heap.size 1 A n c (bv b)) (hn : n ≤ 1000000) :
    Calls Tryz.prog 5 #[.slice A n c] w (RetTl w b) := by
  have hlb := h.blen
  have hmx := h.max
  have hle := h.le
  unfold maxLen at hmx
  have hres : (w.alloc (.cells #[.int .i64 0, .int .i64 0, .int .i64 0, .int .i64 0, .slice none 0 0] 28)).heap[w.heap.size]? = some (.cells #[.int .i64 0, .int .i64 0, .int .i64 0, .int .i64 0, .slice none 0 0] 28) := heap_alloc_new w _
  have h0 : Below w.heap.size w (w.alloc (.cells #[.int .i64 0, .int .i64 0, .int .i64 0, .int .i64 0, .slice none 0 0] 28)) := (Below.refl _ _).alloc (Nat.le_refl _) _
  by_cases hn0 : n = 0
  · subst hn0
    have HE : Hid (tkE b = 2 ∧ tkN b = 0) := Lib.hid (tkE_of1 (by unfold tkE1; rw [if_pos hlb]) (by omega))
    clear h hlb
    go_enter Tryz.func5, Tryz.ntmps5
    go_wp2_with (first | (with_reducible refine stop_loadT 28 ?_) | (with_reducible refine stop_storeT 28 ?_))
    refine go_ (wpList_store_row rfl _ _ _ rfl w.heap.size #[.int .i64 0, .int .i64 0, .int .i64 0, .int .i64 0, .slice none 0 0] rfl rfl _ _ hres (by kernel_rfl) rfl (by kernel_rfl) ?_)
    have hres5 := setRow_heap _ _ _ (#[.int .i64 0, .int .i64 0, .int .i64 0, .int .i64 0, .slice none 0 0] : Array Value) _ _ hres
    have hb5 := below_setRow h0 (Nat.le_refl _) (#[.int .i64 0, .int .i64 0, .int .i64 0, .int .i64 0, .slice none 0 0] : Array Value)
    generalize ((w.alloc (.cells #[.int .i64 0, .int .i64 0, .int .i64 0, .int .i64 0, .slice none 0 0] 28)).setRow w.heap.size #[.int .i64 0, .int .i64 0, .int .i64 0, .int .i64 0, .slice none 0 0]) = v5 at *
    have e0 := blk_cell (i := 0) (v := .int .i64 0) hres5 rfl
    have e1 := blk_cell (i := 1) (v := .int .i64 0) hres5 rfl
    have e2 := blk_cell (i := 2) (v := .int .i64 0) hres5 rfl
    have e3 := blk_cell (i := 3) (v := .int .i64 0) hres5 rfl
    have e4 := blk_cell (i := 4) (v := .slice none 0 0) hres5 rfl
    go_wp2
    exact bodyPost_ret (v := .tuple #[.agg #[.int .i64 0, .int .i64 0, .int .i64 0, .int .i64 0, .slice none 0 0], .int .i64 0, .int .i64 2]) (by simp [results, go_sem, e0, e1, e2, e3, e4]) rfl (tl_out (E := 2) (N := 0) HE.out.1 (by decide) HE.out.2 hb5)
  have hn0' : ¬ (n : Int) = 0 := by omega
  have hnn0 : ((n : Int) == 0) = false := by simp; exact hn0
  have hn1 : (0 : Int) < (n : Int) := by omega
  obtain ⟨x0, b', hbx⟩ : ∃ x0 b', b = x0 :: b' := by
    cases b with
    | nil => exact absurd hlb.symm hn0
    | cons x l => exact ⟨x, l, rfl⟩
  obtain ⟨ad, x0', rfl, hx0, k0⟩ := h.byte (show 0 < n by omega)
  obtain rfl : x0 = x0' := by rw [hbx] at hx0; injection hx0
  have had : ad.block < w.heap.size := by obtain ⟨_, e, hb, _⟩ := h.at_ (by omega); injection e with e; rw [e]; exact hb
  have hsp := World.cell?_spot k0
  obtain ⟨g, off, sp⟩ := ad
  simp only [Addr.add] at hsp
  obtain rfl : sp = none := by
    cases sp with
    | none => rfl
    | some s => simp at hsp
  replace had : g < w.heap.size := had
  rw [Addr.add_mid, Nat.add_zero] at k0
  have k0w := (h0.cell (p := ⟨g, off, none⟩) had).trans k0
  by_cases hx : x0 = 254
  case neg =>
    have HE : Hid (tkE b = 3 ∧ tkN b = 0) := Lib.hid (tkE_of1 (by
      unfold tkE1
      rw [if_neg (by omega), hbx]
      show (if ¬ x0 = 254 then 3 else _) = 3
      rw [if_pos hx]) (by omega))
    have hq : ((x0.toNat : Int) != 254) = true := by
      have : ¬ x0.toNat = 254 := fun e => hx (UInt8.toNat_inj.1 e)
      simp; omega
    have hq2 : ¬ (x0.toNat : Int) = 254 := by intro e; rw [e] at hq; exact absurd hq (by decide)
    clear h hlb hx0 k0 hbx hx
    go_enter Tryz.func5, Tryz.ntmps5
    go_wp2_with (first | (with_reducible refine stop_loadT 28 ?_) | (with_reducible refine stop_storeT 28 ?_))
    refine go_ (wpList_store_row rfl _ _ _ rfl w.heap.size #[.int .i64 0, .int .i64 0, .int .i64 0, .int .i64 0, .slice none 0 0] rfl rfl _ _ hres (by kernel_rfl) rfl (by kernel_rfl) ?_)
    have hres5 := setRow_heap _ _ _ (#[.int .i64 0, .int .i64 0, .int .i64 0, .int .i64 0, .slice none 0 0] : Array Value) _ _ hres
    have hb5 := below_setRow h0 (Nat.le_refl _) (#[.int .i64 0, .int .i64 0, .int .i64 0, .int .i64 0, .slice none 0 0] : Array Value)
    generalize ((w.alloc (.cells #[.int .i64 0, .int .i64 0, .int .i64 0, .int .i64 0, .slice none 0 0] 28)).setRow w.heap.size #[.int .i64 0, .int .i64 0, .int .i64 0, .int .i64 0, .slice none 0 0]) = v5 at *
    have e0 := blk_cell (i := 0) (v := .int .i64 0) hres5 rfl
    have e1 := blk_cell (i := 1) (v := .int .i64 0) hres5 rfl
    have e2 := blk_cell (i := 2) (v := .int .i64 0) hres5 rfl
    have e3 := blk_cell (i := 3) (v := .int .i64 0) hres5 rfl
    have e4 := blk_cell (i := 4) (v := .slice none 0 0) hres5 rfl
    go_wp2
    exact bodyPost_ret (v := .tuple #[.agg #[.int .i64 0, .int .i64 0, .int .i64 0, .int .i64 0, .slice none 0 0], .int .i64 0, .int .i64 3]) (by simp [results, go_sem, e0, e1, e2, e3, e4]) rfl (tl_out (E := 3) (N := 0) HE.out.1 (by decide) HE.out.2 hb5)
  subst hx
  have e254 : ((254 : UInt8).toNat : Int) = 254 := rfl
  rw [e254] at k0w k0
  by_cases h6 : n < 6
  · have HE : Hid (tkE b = 2 ∧ tkN b = 0) := Lib.hid (tkE_of1 (by
      unfold tkE1
      rw [if_neg (by omega), hbx]
      show (if ¬ (254 : UInt8) = 254 then 3 else _) = 2
      rw [if_neg (fun h => h rfl), ← hbx, if_pos (by omega)]) (by omega))
    have h6' : (n : Int) < 6 := by omega
    clear h hlb hx0 k0 hbx
    go_enter Tryz.func5, Tryz.ntmps5
    go_wp2_with (first | (with_reducible refine stop_loadT 28 ?_) | (with_reducible refine stop_storeT 28 ?_))
    refine go_ (wpList_store_row rfl _ _ _ rfl w.heap.size #[.int .i64 0, .int .i64 0, .int .i64 0, .int .i64 0, .slice none 0 0] rfl rfl _ _ hres (by kernel_rfl) rfl (by kernel_rfl) ?_)
    have hres5 := setRow_heap _ _ _ (#[.int .i64 0, .int .i64 0, .int .i64 0, .int .i64 0, .slice none 0 0] : Array Value) _ _ hres
    have hb5 := below_setRow h0 (Nat.le_refl _) (#[.int .i64 0, .int .i64 0, .int .i64 0, .int .i64 0, .slice none 0 0] : Array Value)
    generalize ((w.alloc (.cells #[.int .i64 0, .int .i64 0, .int .i64 0, .int .i64 0, .slice none 0 0] 28)).setRow w.heap.size #[.int .i64 0, .int .i64 0, .int .i64 0, .int .i64 0, .slice none 0 0]) = v5 at *
    have e0 := blk_cell (i := 0) (v := .int .i64 0) hres5 rfl
    have e1 := blk_cell (i := 1) (v := .int .i64 0) hres5 rfl
    have e2 := blk_cell (i := 2) (v := .int .i64 0) hres5 rfl
    have e3 := blk_cell (i := 3) (v := .int .i64 0) hres5 rfl
    have e4 := blk_cell (i := 4) (v := .slice none 0 0) hres5 rfl
    go_wp2
    exact bodyPost_ret (v := .tuple #[.agg #[.int .i64 0, .int .i64 0, .int .i64 0, .int .i64 0, .slice none 0 0], .int .i64 0, .int .i64 2]) (by simp [results, go_sem, e0, e1, e2, e3, e4]) rfl (tl_out (E := 2) (N := 0) HE.out.1 (by decide) HE.out.2 hb5)
  have h6' : ¬ (n : Int) < 6 := by omega
  obtain ⟨x0, x1, x2, x3, x4, x5, r, hbs⟩ := six_of (b := b) (by omega)
  obtain rfl : x0 = 254 := by rw [hbx] at hbs; injection hbs with e _; exact e.symm
  have hrl : r.length + 6 = n := by rw [← hlb, hbs]; simp
  obtain ⟨y1, hy1⟩ : ∃ y, y = x1.toNat := ⟨_, rfl⟩
  obtain ⟨y5, hy5⟩ : ∃ y, y = x5.toNat := ⟨_, rfl⟩
  have hy1l : y1 ≤ 255 := by have := x1.toNat_lt; omega
  have hy5l : y5 ≤ 255 := by have := x5.toNat_lt; omega
  have kk : ∀ (j : Nat) (x : UInt8), b[j]? = some x → ∀ wq, Below w.heap.size w wq → wq.cell? ⟨g, off + j, none⟩ = some (.int .u8 (x.toNat : Int)) := fun j x hj wq hbq => by
    have hjn : j < n := by rw [← hlb]; exact (List.getElem?_eq_some_iff.1 hj).1
    obtain ⟨ad', x', e, hx', hc⟩ := h.byte hjn
    injection e with e
    rw [hj] at hx'
    injection hx' with hx'
    rw [← e, Addr.add_mid] at hc
    rw [hx']
    exact (hbq.cell (p := ⟨g, off + j, none⟩) had).trans hc
  have k1 : ∀ wq, Below w.heap.size w wq → wq.cell? ⟨g, off + 1, none⟩ = some (.int .u8 (y1 : Int)) := fun wq hq => by rw [hy1]; exact kk 1 x1 (by rw [hbs]; rfl) wq hq
  have k5 : ∀ wq, Below w.heap.size w wq → wq.cell? ⟨g, off + 5, none⟩ = some (.int .u8 (y5 : Int)) := fun wq hq => by rw [hy5]; exact kk 5 x5 (by rw [hbs]; rfl) wq hq
  have k2 := kk 2 x2 (by rw [hbs]; rfl)
  have k3 := kk 3 x3 (by rw [hbs]; rfl)
  have k4 := kk 4 x4 (by rw [hbs]; rfl)
  have hE1 : tkE1 b = tkF 254 x1 x5 r [x1, x2, x3, x4, x5] := by rw [hbs, tkE1_six]
  have hid : tkId b = (y5 : Int) := by rw [hbs, hy5]; rfl
  have hN0 : tkN0 b = szS (y5 : Int) := by rw [← hid]; rfl
  have hP : tkP b = if tkE b = 0 then ⟨(x2.toNat : Int), (x3.toNat : Int), (x4.toNat : Int), (y5 : Int), sTV (frm (y5 : Int)) (tkBody b)⟩ else zPk := by rw [← hid]; unfold tkP; rw [hbs]; rfl
  have hsz := fun w => tsize_any (y5 : Int) w
  have hgeN := @szS_ge (y5 : Int)
  have hszb : szS (y5 : Int) ≤ 208 := by have := wd_200 (y5 : Int); unfold szS; split <;> omega
  have hF : tkF 254 x1 x5 r [x1, x2, x3, x4, x5] = if szS (y5 : Int) = 0 then 6 else if ¬ y1 + 8 = szS (y5 : Int) then 3 else if n < szS (y5 : Int) then 2 else if ¬ (b.drop (szS (y5 : Int) - 2)).take 2 = sm2 (frm (y5 : Int)) ((b.drop 1).take (szS (y5 : Int) - 3)) then 4 else 0 := by
    rw [← hE1]
    unfold tkE1
    have g0 : b.getD 0 0 = 254 := by rw [hbs]; rfl
    have n0 : ¬ ¬ b.getD 0 0 = 254 := fun h => h g0
    have e1 : (b.getD 1 0).toNat = y1 := by rw [hbs, hy1]; rfl
    rw [if_neg (show ¬ b.length = 0 by omega), if_neg n0, hlb, if_neg h6, hN0, hid, e1]
  obtain ⟨N, hN⟩ : ∃ N, N = szS (y5 : Int) := ⟨_, rfl⟩
  rw [← hN] at hN0 hsz hgeN hszb hF
  rw [hF] at hE1
  have hw5 : wrap64 (y5 : Int) = (y5 : Int) := by unfold wrap64; omega
  have hw1 : wrap64 (y1 : Int) = (y1 : Int) := by unfold wrap64; omega
  have Hw5 := Lib.hid hw5
  have Hw1 := Lib.hid hw1
  have HE1 := Lib.hid hE1
  have HN0 := Lib.hid hN0
  have HP := Lib.hid hP
  have Hsz := Lib.hid hsz
  have Hid5 := Lib.hid hid
  have K2 := Lib.hid k2
  have K3 := Lib.hid k3
  have K4 := Lib.hid k4
  have K1 := Lib.hid k1
  have k5w := k5 _ h0
  have hn5 : (5 : Int) < (n : Int) := by omega
  have hn1' : (1 : Int) < (n : Int) := by omega
  have hn5n : 5 < n := by omega
  have hn1n : 1 < n := by omega
  clear hw5 hw1 hE1 hN0 hP hsz hid k2 k3 k4 k1 k5 kk hF hbx hx0 k0 hN hy1 hy5 e254 hbs hrl hlb
  by_cases hN00 : N = 0
  · subst hN00
    have HE : Hid (tkE b = 6 ∧ tkN b = 0) := Lib.hid (tkE_of1 (by rw [HE1.out, if_pos rfl]) (by omega))
    clear h
    go_enter Tryz.func5, Tryz.ntmps5
    have hw5 := Hw5.out
    go_wp2_with fail
    go_fit (Hsz.out _)
    rintro e w2 ⟨rfl, hbx⟩
    have hb2 := bnx h0 hbx
    replace hres := blk_old hres hbx (blk_lt hres)
    clear hbx h0 k0w k5w hw5
    go_wp2_with (first | (with_reducible refine stop_loadT 28 ?_) | (with_reducible refine stop_storeT 28 ?_))
    refine go_ (wpList_store_row rfl _ _ _ rfl w.heap.size #[.int .i64 0, .int .i64 0, .int .i64 0, .int .i64 0, .slice none 0 0] rfl rfl _ _ hres (by kernel_rfl) rfl (by kernel_rfl) ?_)
    have hres5 := setRow_heap _ _ _ (#[.int .i64 0, .int .i64 0, .int .i64 0, .int .i64 0, .slice none 0 0] : Array Value) _ _ hres
    have hb5 := below_setRow hb2 (Nat.le_refl _) (#[.int .i64 0, .int .i64 0, .int .i64 0, .int .i64 0, .slice none 0 0] : Array Value)
    generalize (w2.setRow w.heap.size #[.int .i64 0, .int .i64 0, .int .i64 0, .int .i64 0, .slice none 0 0]) = v5 at *
    have e0 := blk_cell (i := 0) (v := .int .i64 0) hres5 rfl
    have e1 := blk_cell (i := 1) (v := .int .i64 0) hres5 rfl
    have e2 := blk_cell (i := 2) (v := .int .i64 0) hres5 rfl
    have e3 := blk_cell (i := 3) (v := .int .i64 0) hres5 rfl
    have e4 := blk_cell (i := 4) (v := .slice none 0 0) hres5 rfl
    go_wp2
    exact bodyPost_ret (v := .tuple #[.agg #[.int .i64 0, .int .i64 0, .int .i64 0, .int .i64 0, .slice none 0 0], .int .i64 0, .int .i64 6]) (by simp [results, go_sem, e0, e1, e2, e3, e4]) rfl (tl_out (E := 6) (N := 0) HE.out.1 (by decide) HE.out.2 hb5)
  have hN8 := hgeN hN00
  have hN0' : ¬ (N : Int) = 0 := by omega
  have hN0q : ((N : Int) == 0) = false := by simp; exact hN00
  obtain ⟨a6, ha6⟩ : ∃ a : Nat, a = 6 + y1 := ⟨_, rfl⟩
  obtain ⟨a8, ha8⟩ : ∃ a : Nat, a = a6 + 2 := ⟨_, rfl⟩
  have hwa : IntKind.i64.wrap (6 + (y1 : Int)) = (a6 : Int) := by rw [IntWalk.i64_in _ (by omega)]; omega
  have hwb : IntKind.i64.wrap ((a6 : Int) + 2) = (a8 : Int) := by rw [IntWalk.i64_in _ (by omega)]; omega
  have Hwa := Lib.hid hwa
  have Hwb := Lib.hid hwb
  clear hwa hwb
  by_cases hfm : a8 = N
  case neg =>
    have HE : Hid (tkE b = 3 ∧ tkN b = 0) := Lib.hid (tkE_of1 (by rw [HE1.out, if_neg hN00, if_pos (by omega)]) (by omega))
    have hq : ((a8 : Int) != (N : Int)) = true := by simp; omega
    have hq2 : ¬ (a8 : Int) = (N : Int) := by omega
    clear h ha6 ha8
    go_enter Tryz.func5, Tryz.ntmps5
    have hw5 := Hw5.out
    go_wp2_with fail
    go_fit (Hsz.out _)
    rintro e w2 ⟨rfl, hbx⟩
    have hb2 := bnx h0 hbx
    replace hres := blk_old hres hbx (blk_lt hres)
    have k1w := K1.out w2 hb2
    have hw1 := Hw1.out
    have hwa := Hwa.out
    have hwb := Hwb.out
    clear hbx h0 k0w k5w hw5
    go_wp2_with (first | (with_reducible refine stop_loadT 28 ?_) | (with_reducible refine stop_storeT 28 ?_))
    refine go_ (wpList_store_row rfl _ _ _ rfl w.heap.size #[.int .i64 0, .int .i64 0, .int .i64 0, .int .i64 0, .slice none 0 0] rfl rfl _ _ hres (by kernel_rfl) rfl (by kernel_rfl) ?_)
    have hres5 := setRow_heap _ _ _ (#[.int .i64 0, .int .i64 0, .int .i64 0, .int .i64 0, .slice none 0 0] : Array Value) _ _ hres
    have hb5 := below_setRow hb2 (Nat.le_refl _) (#[.int .i64 0, .int .i64 0, .int .i64 0, .int .i64 0, .slice none 0 0] : Array Value)
    generalize (w2.setRow w.heap.size #[.int .i64 0, .int .i64 0, .int .i64 0, .int .i64 0, .slice none 0 0]) = v5 at *
    have e0 := blk_cell (i := 0) (v := .int .i64 0) hres5 rfl
    have e1 := blk_cell (i := 1) (v := .int .i64 0) hres5 rfl
    have e2 := blk_cell (i := 2) (v := .int .i64 0) hres5 rfl
    have e3 := blk_cell (i := 3) (v := .int .i64 0) hres5 rfl
    have e4 := blk_cell (i := 4) (v := .slice none 0 0) hres5 rfl
    go_wp2
    exact bodyPost_ret (v := .tuple #[.agg #[.int .i64 0, .int .i64 0, .int .i64 0, .int .i64 0, .slice none 0 0], .int .i64 0, .int .i64 3]) (by simp [results, go_sem, e0, e1, e2, e3, e4]) rfl (tl_out (E := 3) (N := 0) HE.out.1 (by decide) HE.out.2 hb5)
  have hq8 : ((a8 : Int) != (N : Int)) = false := by simp; omega
  have hq8' : (a8 : Int) = (N : Int) := by omega
  have Hq8 := Lib.hid hq8'
  clear hq8'
  by_cases hsh : n < N
  · have HE : Hid (tkE b = 2 ∧ tkN b = 0) := Lib.hid (tkE_of1 (by rw [HE1.out, if_neg hN00, if_neg (by omega), if_pos hsh]) (by omega))
    have hsh' : (n : Int) < (N : Int) := by omega
    clear h ha6 ha8
    go_enter Tryz.func5, Tryz.ntmps5
    have hw5 := Hw5.out
    go_wp2_with fail
    go_fit (Hsz.out _)
    rintro e w2 ⟨rfl, hbx⟩
    have hb2 := bnx h0 hbx
    replace hres := blk_old hres hbx (blk_lt hres)
    have k1w := K1.out w2 hb2
    have hw1 := Hw1.out
    have hwa := Hwa.out
    have hwb := Hwb.out
    clear hbx h0 k0w k5w hw5
    go_wp2_with (first | (with_reducible refine stop_loadT 28 ?_) | (with_reducible refine stop_storeT 28 ?_))
    refine go_ (wpList_store_row rfl _ _ _ rfl w.heap.size #[.int .i64 0, .int .i64 0, .int .i64 0, .int .i64 0, .slice none 0 0] rfl rfl _ _ hres (by kernel_rfl) rfl (by kernel_rfl) ?_)
    have hres5 := setRow_heap _ _ _ (#[.int .i64 0, .int .i64 0, .int .i64 0, .int .i64 0, .slice none 0 0] : Array Value) _ _ hres
    have hb5 := below_setRow hb2 (Nat.le_refl _) (#[.int .i64 0, .int .i64 0, .int .i64 0, .int .i64 0, .slice none 0 0] : Array Value)
    generalize (w2.setRow w.heap.size #[.int .i64 0, .int .i64 0, .int .i64 0, .int .i64 0, .slice none 0 0]) = v5 at *
    have e0 := blk_cell (i := 0) (v := .int .i64 0) hres5 rfl
    have e1 := blk_cell (i := 1) (v := .int .i64 0) hres5 rfl
    have e2 := blk_cell (i := 2) (v := .int .i64 0) hres5 rfl
    have e3 := blk_cell (i := 3) (v := .int .i64 0) hres5 rfl
    have e4 := blk_cell (i := 4) (v := .slice none 0 0) hres5 rfl
    go_wp2
    exact bodyPost_ret (v := .tuple #[.agg #[.int .i64 0, .int .i64 0, .int .i64 0, .int .i64 0, .slice none 0 0], .int .i64 0, .int .i64 2]) (by simp [results, go_sem, e0, e1, e2, e3, e4]) rfl (tl_out (E := 2) (N := 0) HE.out.1 (by decide) HE.out.2 hb5)
  have hsh' : ¬ (n : Int) < (N : Int) := by omega
  have HE2 : Hid (tkE1 b = if ¬ (b.drop (N - 2)).take 2 = sm2 (frm (y5 : Int)) ((b.drop 1).take (N - 3)) then 4 else 0) := Lib.hid (by rw [HE1.out, if_neg hN00, if_neg (by omega), if_neg hsh])
  obtain ⟨m6, hm6⟩ : ∃ m : Nat, m = N - 6 := ⟨_, rfl⟩
  obtain ⟨m8, hm8⟩ : ∃ m : Nat, m = N - 8 := ⟨_, rfl⟩
  obtain ⟨m2, hm2⟩ : ∃ m : Nat, m = N - 2 := ⟨_, rfl⟩
  have hwm6 : IntKind.i64.wrap ((N : Int) - 6) = (m6 : Int) := by rw [IntWalk.i64_in _ (by omega)]; omega
  have hwm8 : IntKind.i64.wrap ((m6 : Int) - 2) = (m8 : Int) := by rw [IntWalk.i64_in _ (by omega)]; omega
  have hwm2 : IntKind.i64.wrap ((N : Int) - 2) = (m2 : Int) := by rw [IntWalk.i64_in _ (by omega)]; omega
  have Hwm6 := Lib.hid hwm6
  have Hwm8 := Lib.hid hwm8
  have Hwm2 := Lib.hid hwm2
  obtain ⟨i0, hi⟩ := info_parts u8_info
  have hcutS : ∀ w, (Instr.slice 22 (.slice (some ⟨g, off, none⟩) n c) (some (.int .i64 1)) (some (.int .i64 (m2 : Int))) none).run Tryz.prog w = .ok (.slice (cutA (some ⟨g, off, none⟩) c 1 1) (N - 3) (c - 1)) w := fun w => by
    have := run_cut_lh (P := Tryz.prog) Tryz.underlying22 hi.1 hi.2.2.1 (some ⟨g, off, none⟩) n c 1 m2 (by omega) (by omega) w
    rwa [show m2 - 1 = N - 3 by omega] at this
  have HcutS := Lib.hid hcutS
  have HrS : Hid (Rd w w.heap.size 1 (cutA (some ⟨g, off, none⟩) c 1 1) (N - 3) (c - 1) (bv ((b.drop 1).take (N - 3)))) := Lib.hid (by
    have := (h.btake (k := m2) (by omega)).bdrop (k := 1) (by omega)
    rwa [show m2 - 1 = N - 3 by omega, List.drop_take, show m2 - 1 = N - 3 by omega] at this)
  have HrB : Hid (Rd w w.heap.size 1 (cutA (some ⟨g, off, none⟩) c 6 1) m8 m8 (bv (tkBody b))) := Lib.hid (by
    have := ((h.bdrop (k := 6) (by omega)).btake (k := m8) (by omega)).cap
    unfold tkBody
    rwa [HN0.out, ← hm8])
  have HrT : Hid (Rd w w.heap.size 1 (cutA (cutA (some ⟨g, off, none⟩) c 6 1) (c - 6) m8 1) 2 2 (bv ((b.drop (N - 2)).take 2))) := Lib.hid (by
    have := (((h.bdrop (k := 6) (by omega)).bdrop (k := m8) (by omega)).btake (k := 2) (by omega)).cap
    rwa [List.drop_drop, show 6 + m8 = N - 2 by omega] at this)
  have hm8n : m8 + 2 ≤ n - 6 := by omega
  clear h ha6 ha8 hm6 hm8 hm2 hwm6 hwm8 hwm2 hi hcutS hfm hgeN
  go_enter Tryz.func5, Tryz.ntmps5
  have hw5 := Hw5.out
  go_wp2_with fail
  go_fit (Hsz.out _)
  rintro e w2 ⟨rfl, hbx⟩
  have hb2 := bnx h0 hbx
  replace hres := blk_old hres hbx (blk_lt hres)
  have k1w := K1.out w2 hb2
  have hw1 := Hw1.out
  have hwa := Hwa.out
  have hwb := Hwb.out
  have hwm6 := Hwm6.out
  have hwm8 := Hwm8.out
  have hge := heap_alloc_new w2 (.cells #[.slice (some ⟨g, off, none⟩) n c] 39)
  have hbe : Below w2.heap.size w2 (w2.alloc (.cells #[.slice (some ⟨g, off, none⟩) n c] 39)) := (Below.refl _ _).alloc (Nat.le_refl _) _
  have hb3 := bnx hb2 hbe
  have hrl := blk_lt hres
  have hres3 := blk_old hres hbe hrl
  have hmL : c ≤ maxLen := by unfold maxLen; omega
  clear hbx h0 k0w k5w hw5 hbe hb2
  go_wp2_with fail
  obtain ⟨ge, hgg⟩ : ∃ g, g = w2.heap.size := ⟨_, rfl⟩
  rw [← hgg] at hge hrl ⊢
  generalize (w2.alloc (.cells #[.slice (some ⟨g, off, none⟩) n c] 39)) = w3 at *
  clear hgg hres k1w hw1 hwa hwb
  go_fit (cut_any ge (some ⟨g, off, none⟩) n c 6 w3 hge (by omega) hle hmL)
  rintro e w4 ⟨rfl, hg4, hgr⟩
  have hb4 := Below.grown hb3 hgr hb3.size (fun j hj => by injection hj with hj; omega)
  have hres4 := (hgr.block _ (blk_lt hres3) (by intro e; injection e with e; omega)).trans hres3
  clear hge hgr hb3 hres3
  go_wp2_with fail
  go_fit (cut_any ge _ (n - 6) (c - 6) m8 w4 hg4 (by omega) (by omega) (by omega))
  rintro e w5 ⟨rfl, hg5, hgr⟩
  have hb5 := Below.grown hb4 hgr hb4.size (fun j hj => by injection hj with hj; omega)
  have hres5 := (hgr.block _ (blk_lt hres4) (by intro e; injection e with e; omega)).trans hres4
  clear hg4 hgr hb4 hres4 hwm6 hwm8
  go_wp2_with fail
  go_fit (cut_any ge _ (n - 6 - m8) (c - 6 - m8) 2 w5 hg5 (by omega) (by omega) (by omega))
  rintro e w6 ⟨rfl, hg6, hgr⟩
  have hb6 := Below.grown hb5 hgr hb5.size (fun j hj => by injection hj with hj; omega)
  have hres6 := (hgr.block _ (blk_lt hres5) (by intro e; injection e with e; omega)).trans hres5
  have hwm2 := Hwm2.out
  have hcutS := HcutS.out
  clear hg5 hgr hb5 hres5 hg6
  go_wp2_with fail
  go_fit (tsum_any (y5 : Int) _ (N - 3) _ w.heap.size _ w6 (HrS.out.up hb6) hb6.size)
  rintro e w7 ⟨A7, c7, n7, rfl, own7, hbx⟩
  have hb7 := bnx hb6 hbx
  have hr7 := Rd.own own7
  have hn7 : n7 = 2 := by have := own_len own7; have e2 : (sm2 (frm (y5 : Int)) ((b.drop 1).take (N - 3))).length = 2 := rfl; omega
  subst hn7
  have hres7 := blk_old hres6 hbx (blk_lt hres6)
  clear hbx hb6 own7 hres6 hwm2 hcutS
  go_wp2_with fail
  go_fit (equal8_any _ 2 2 w.heap.size _ A7 2 c7 w7.heap.size _ w7 (HrT.out.up hb7) hb7.size hr7 (Nat.le_refl _))
  rintro e w8 ⟨rfl, hbx⟩
  have hb8 := bnx hb7 hbx
  have hres := blk_old hres7 hbx (blk_lt hres7)
  clear hbx hb7 hr7 hres7
  by_cases hsm : (b.drop (N - 2)).take 2 = sm2 (frm (y5 : Int)) ((b.drop 1).take (N - 3))
  case neg =>
    have HE : Hid (tkE b = 4 ∧ tkN b = 0) := Lib.hid (tkE_of1 (by rw [HE2.out, if_pos hsm]) (by omega))
    rw [decide_eq_false hsm]
    clear hsm
    go_wp2_with (first | (with_reducible refine stop_loadT 28 ?_) | (with_reducible refine stop_storeT 28 ?_))
    refine go_ (wpList_store_row rfl _ _ _ rfl w.heap.size #[.int .i64 0, .int .i64 0, .int .i64 0, .int .i64 0, .slice none 0 0] rfl rfl _ _ hres (by kernel_rfl) rfl (by kernel_rfl) ?_)
    have hres5 := setRow_heap _ _ _ (#[.int .i64 0, .int .i64 0, .int .i64 0, .int .i64 0, .slice none 0 0] : Array Value) _ _ hres
    have hb5 := below_setRow hb8 (Nat.le_refl _) (#[.int .i64 0, .int .i64 0, .int .i64 0, .int .i64 0, .slice none 0 0] : Array Value)
    generalize (w8.setRow w.heap.size #[.int .i64 0, .int .i64 0, .int .i64 0, .int .i64 0, .slice none 0 0]) = v5 at *
    have e0 := blk_cell (i := 0) (v := .int .i64 0) hres5 rfl
    have e1 := blk_cell (i := 1) (v := .int .i64 0) hres5 rfl
    have e2 := blk_cell (i := 2) (v := .int .i64 0) hres5 rfl
    have e3 := blk_cell (i := 3) (v := .int .i64 0) hres5 rfl
    have e4 := blk_cell (i := 4) (v := .slice none 0 0) hres5 rfl
    go_wp2
    exact bodyPost_ret (v := .tuple #[.agg #[.int .i64 0, .int .i64 0, .int .i64 0, .int .i64 0, .slice none 0 0], .int .i64 0, .int .i64 4]) (by simp [results, go_sem, e0, e1, e2, e3, e4]) rfl (tl_out (E := 4) (N := 0) HE.out.1 (by decide) HE.out.2 hb5)
  rw [decide_eq_true hsm]
  have hE10 : tkE1 b = 0 := by rw [HE2.out, if_neg (fun h => h hsm)]
  have hTE : tkE b = sTE (frm (y5 : Int)) (tkBody b) := by unfold tkE; rw [if_pos hE10, Hid5.out]
  have hTN : tkN b = N := by unfold tkN; rw [if_pos hE10, HN0.out]
  have HTE := Lib.hid hTE
  have HTN := Lib.hid hTN
  clear hsm hE10 hTE hTN
  go_wp2_with fail
  go_fit (take31_any (y5 : Int) _ m8 m8 _ w8 ((HrB.out.up hb8).more hb8.size) (by omega))
  rintro e w9 ⟨A9, n9, c9, rfl, own9, hbx⟩
  have hb9 := bnx hb8 hbx
  have hres8 := hres
  replace hres := blk_old hres hbx (blk_lt hres)
  have hr9 := Rd.own own9
  rw [← HTE.out]
  by_cases hz : tkE b = 0
  case neg =>
    obtain ⟨err, herr⟩ : ∃ err, err = tkE b := ⟨_, rfl⟩
    rw [← herr] at hz ⊢
    have HE : Hid (tkE b = err ∧ tkN b = N) := Lib.hid ⟨herr.symm, HTN.out⟩
    have hz' : ¬ (err : Int) = 0 := by omega
    have hzq : ((err : Int) != 0) = true := by simp; exact hz
    clear hbx own9 hr9 hb8 herr hres8
    go_wp2_with (first | (with_reducible refine stop_loadT 28 ?_) | (with_reducible refine stop_storeT 28 ?_))
    refine go_ (wpList_store_row rfl _ _ _ rfl w.heap.size #[.int .i64 0, .int .i64 0, .int .i64 0, .int .i64 0, .slice none 0 0] rfl rfl _ _ hres (by kernel_rfl) rfl (by kernel_rfl) ?_)
    have hres5 := setRow_heap _ _ _ (#[.int .i64 0, .int .i64 0, .int .i64 0, .int .i64 0, .slice none 0 0] : Array Value) _ _ hres
    have hb5 := below_setRow hb9 (Nat.le_refl _) (#[.int .i64 0, .int .i64 0, .int .i64 0, .int .i64 0, .slice none 0 0] : Array Value)
    generalize (w9.setRow w.heap.size #[.int .i64 0, .int .i64 0, .int .i64 0, .int .i64 0, .slice none 0 0]) = v5 at *
    have e0 := blk_cell (i := 0) (v := .int .i64 0) hres5 rfl
    have e1 := blk_cell (i := 1) (v := .int .i64 0) hres5 rfl
    have e2 := blk_cell (i := 2) (v := .int .i64 0) hres5 rfl
    have e3 := blk_cell (i := 3) (v := .int .i64 0) hres5 rfl
    have e4 := blk_cell (i := 4) (v := .slice none 0 0) hres5 rfl
    go_wp2
    exact bodyPost_ret (v := .tuple #[.agg #[.int .i64 0, .int .i64 0, .int .i64 0, .int .i64 0, .slice none 0 0], .int .i64 (N : Int), .int .i64 (err : Int)]) (by simp [results, go_sem, e0, e1, e2, e3, e4]) rfl (tl_out (E := err) (N := N) HE.out.1 hz HE.out.2 hb5)
  have HP2 : Hid (tkP b = ⟨(x2.toNat : Int), (x3.toNat : Int), (x4.toNat : Int), (y5 : Int), sTV (frm (y5 : Int)) (tkBody b)⟩) := Lib.hid (by rw [HP.out, if_pos hz])
  have Hz := Lib.hid hz
  rw [hz]
  have k2w := K2.out w9 hb9
  have k3w := K3.out w9 hb9
  have k4w := K4.out w9 hb9
  have hx2 := x2.toNat_lt
  have hx3 := x3.toNat_lt
  have hx4 := x4.toNat_lt
  have hw2 : IntKind.i64.wrap (x2.toNat : Int) = (x2.toNat : Int) := IntWalk.i64_in _ (by omega)
  have hw3 : IntKind.i64.wrap (x3.toNat : Int) = (x3.toNat : Int) := IntWalk.i64_in _ (by omega)
  have hw4 : IntKind.i64.wrap (x4.toNat : Int) = (x4.toNat : Int) := IntWalk.i64_in _ (by omega)
  have hs89 : w.heap.size < w8.heap.size := blk_lt hres8
  clear hbx hr9 hb8 hz hres8
  go_wp2_with fail
  refine Ord.region_ (fun w' => w'.cell? ⟨g, off + 2, none⟩ = some (.int .u8 (x2.toNat : Int)) ∧ w'.cell? ⟨g, off + 3, none⟩ = some (.int .u8 (x3.toNat : Int)) ∧ w'.cell? ⟨g, off + 4, none⟩ = some (.int .u8 (x4.toNat : Int))) false [] (by kernel_rfl) (by kernel_rfl) ⟨k2w, k3w, k4w⟩ ?_
  replace k2w : w9.drew.cell? _ = _ := k2w
  replace k3w : w9.drew.cell? _ = _ := k3w
  replace k4w : w9.drew.cell? _ = _ := k4w
  replace hb9 := hb9.drew
  replace hres : w9.drew.heap[w.heap.size]? = _ := hres
  replace own9 : w9.drew.ownsRow w8.heap.size 2 1 _ _ _ := own9
  generalize w9.drew = wd at *
  ((with_reducible refine Ord.e_p (v := ?_) ?_ ?_ ?_ ?_); rotate_left; (· exact rfl); (· kernel_rfl); (· intro w2; go_simp; try with_reducible rfl))
  (try simp only [Act.put, List.setIfInBounds_toArray, List.set_cons_zero, List.set_cons_succ])
  ((with_reducible refine Ord.e_p (v := ?_) ?_ ?_ ?_ ?_); rotate_left; (· exact rfl); (· kernel_rfl); (· intro w2; go_simp; try with_reducible rfl))
  (try simp only [Act.put, List.setIfInBounds_toArray, List.set_cons_zero, List.set_cons_succ])
  refine Ord.e_loadS (ad := ⟨g, off + 2, none⟩) Tryz.underlying5 rfl (fun w' hS => hS.1) ⟨k2w, k3w, k4w⟩ rfl (by kernel_rfl) ?_
  (try simp only [Act.put, List.setIfInBounds_toArray, List.set_cons_zero, List.set_cons_succ])
  refine Ord.e_p (v := .int .i64 (x2.toNat : Int)) rfl (by kernel_rfl) (fun w2 => by go_simp) ?_
  (try simp only [Act.put, List.setIfInBounds_toArray, List.set_cons_zero, List.set_cons_succ])
  ((with_reducible refine Ord.e_p (v := ?_) ?_ ?_ ?_ ?_); rotate_left; (· exact rfl); (· kernel_rfl); (· intro w2; go_simp; try with_reducible rfl))
  (try simp only [Act.put, List.setIfInBounds_toArray, List.set_cons_zero, List.set_cons_succ])
  ((with_reducible refine Ord.e_p (v := ?_) ?_ ?_ ?_ ?_); rotate_left; (· exact rfl); (· kernel_rfl); (· intro w2; go_simp; try with_reducible rfl))
  (try simp only [Act.put, List.setIfInBounds_toArray, List.set_cons_zero, List.set_cons_succ])
  refine Ord.e_loadS (ad := ⟨g, off + 3, none⟩) Tryz.underlying5 rfl (fun w' hS => hS.2.1) ⟨k2w, k3w, k4w⟩ rfl (by kernel_rfl) ?_
  (try simp only [Act.put, List.setIfInBounds_toArray, List.set_cons_zero, List.set_cons_succ])
  refine Ord.e_p (v := .int .i64 (x3.toNat : Int)) rfl (by kernel_rfl) (fun w2 => by go_simp) ?_
  (try simp only [Act.put, List.setIfInBounds_toArray, List.set_cons_zero, List.set_cons_succ])
  ((with_reducible refine Ord.e_p (v := ?_) ?_ ?_ ?_ ?_); rotate_left; (· exact rfl); (· kernel_rfl); (· intro w2; go_simp; try with_reducible rfl))
  (try simp only [Act.put, List.setIfInBounds_toArray, List.set_cons_zero, List.set_cons_succ])
  ((with_reducible refine Ord.e_p (v := ?_) ?_ ?_ ?_ ?_); rotate_left; (· exact rfl); (· kernel_rfl); (· intro w2; go_simp; try with_reducible rfl))
  (try simp only [Act.put, List.setIfInBounds_toArray, List.set_cons_zero, List.set_cons_succ])
  refine Ord.e_loadS (ad := ⟨g, off + 4, none⟩) Tryz.underlying5 rfl (fun w' hS => hS.2.2) ⟨k2w, k3w, k4w⟩ rfl (by kernel_rfl) ?_
  (try simp only [Act.put, List.setIfInBounds_toArray, List.set_cons_zero, List.set_cons_succ])
  refine Ord.e_p (v := .int .i64 (x4.toNat : Int)) rfl (by kernel_rfl) (fun w2 => by go_simp) ?_
  (try simp only [Act.put, List.setIfInBounds_toArray, List.set_cons_zero, List.set_cons_succ])
  ((with_reducible refine Ord.e_p (v := ?_) ?_ ?_ ?_ ?_); rotate_left; (· exact rfl); (· kernel_rfl); (· intro w2; go_simp; try with_reducible rfl))
  (try simp only [Act.put, List.setIfInBounds_toArray, List.set_cons_zero, List.set_cons_succ])
  ((with_reducible refine Ord.e_p (v := ?_) ?_ ?_ ?_ ?_); rotate_left; (· exact rfl); (· kernel_rfl); (· intro w2; go_simp; try with_reducible rfl))
  (try simp only [Act.put, List.setIfInBounds_toArray, List.set_cons_zero, List.set_cons_succ])
  ((with_reducible refine Ord.e_p (v := ?_) ?_ ?_ ?_ ?_); rotate_left; (· exact rfl); (· kernel_rfl); (· intro w2; go_simp; try with_reducible rfl))
  (try simp only [Act.put, List.setIfInBounds_toArray, List.set_cons_zero, List.set_cons_succ])
  ((with_reducible refine Ord.e_p (v := ?_) ?_ ?_ ?_ ?_); rotate_left; (· exact rfl); (· kernel_rfl); (· intro w2; go_simp; try with_reducible rfl))
  (try simp only [Act.put, List.setIfInBounds_toArray, List.set_cons_zero, List.set_cons_succ])
  ((with_reducible refine Ord.e_p (v := ?_) ?_ ?_ ?_ ?_); rotate_left; (· exact rfl); (· kernel_rfl); (· intro w2; go_simp; try with_reducible rfl))
  (try simp only [Act.put, List.setIfInBounds_toArray, List.set_cons_zero, List.set_cons_succ])
  refine Ord.e_x rfl (by kernel_rfl) ?_
  go_wp2_with (first | (with_reducible refine stop_loadT 28 ?_) | (with_reducible refine stop_storeT 28 ?_))
  refine go_ (wpList_store_row rfl _ _ _ rfl w.heap.size #[.int .i64 (x2.toNat : Int), .int .i64 (x3.toNat : Int), .int .i64 (x4.toNat : Int), .int .i64 (y5 : Int), .slice A9 n9 c9] rfl rfl _ _ hres (by kernel_rfl) rfl (by kernel_rfl) ?_)
  have hres5 := setRow_heap _ _ _ (#[.int .i64 (x2.toNat : Int), .int .i64 (x3.toNat : Int), .int .i64 (x4.toNat : Int), .int .i64 (y5 : Int), .slice A9 n9 c9] : Array Value) _ _ hres
  have hb5 := below_setRow hb9 (Nat.le_refl _) (#[.int .i64 (x2.toNat : Int), .int .i64 (x3.toNat : Int), .int .i64 (x4.toNat : Int), .int .i64 (y5 : Int), .slice A9 n9 c9] : Array Value)
  have q2 := (cell_setRow_other wd w.heap.size #[.int .i64 (x2.toNat : Int), .int .i64 (x3.toNat : Int), .int .i64 (x4.toNat : Int), .int .i64 (y5 : Int), .slice A9 n9 c9] ⟨g, off + 2, none⟩ (Nat.ne_of_lt had)).trans k2w
  have q3 := (cell_setRow_other wd w.heap.size #[.int .i64 (x2.toNat : Int), .int .i64 (x3.toNat : Int), .int .i64 (x4.toNat : Int), .int .i64 (y5 : Int), .slice A9 n9 c9] ⟨g, off + 3, none⟩ (Nat.ne_of_lt had)).trans k3w
  have q4 := (cell_setRow_other wd w.heap.size #[.int .i64 (x2.toNat : Int), .int .i64 (x3.toNat : Int), .int .i64 (x4.toNat : Int), .int .i64 (y5 : Int), .slice A9 n9 c9] ⟨g, off + 4, none⟩ (Nat.ne_of_lt had)).trans k4w
  have own5 := own_setRow own9 hs89 (#[.int .i64 (x2.toNat : Int), .int .i64 (x3.toNat : Int), .int .i64 (x4.toNat : Int), .int .i64 (y5 : Int), .slice A9 n9 c9] : Array Value)
  generalize (wd.setRow w.heap.size #[.int .i64 (x2.toNat : Int), .int .i64 (x3.toNat : Int), .int .i64 (x4.toNat : Int), .int .i64 (y5 : Int), .slice A9 n9 c9]) = v5 at *
  have e0 := blk_cell (i := 0) (v := .int .i64 (x2.toNat : Int)) hres5 rfl
  have e1 := blk_cell (i := 1) (v := .int .i64 (x3.toNat : Int)) hres5 rfl
  have e2 := blk_cell (i := 2) (v := .int .i64 (x4.toNat : Int)) hres5 rfl
  have e3 := blk_cell (i := 3) (v := .int .i64 (y5 : Int)) hres5 rfl
  have e4 := blk_cell (i := 4) (v := .slice A9 n9 c9) hres5 rfl
  clear k2w k3w k4w hb9 hres own9 hw2 hw3 hw4 hres5
  go_wp2_with fail
  refine Ord.Seg.go ⟨q2, q3, q4⟩ (fun h => by cases h) ?_
  (try simp only [Act.put, List.setIfInBounds_toArray, List.set_cons_zero, List.set_cons_succ])
  ((with_reducible refine Ord.e_p (v := ?_) ?_ ?_ ?_ ?_); rotate_left; (· exact rfl); (· kernel_rfl); (· intro w2; go_simp; try with_reducible rfl))
  (try simp only [Act.put, List.setIfInBounds_toArray, List.set_cons_zero, List.set_cons_succ])
  ((with_reducible refine Ord.e_p (v := ?_) ?_ ?_ ?_ ?_); rotate_left; (· exact rfl); (· kernel_rfl); (· intro w2; go_simp; try with_reducible rfl))
  (try simp only [Act.put, List.setIfInBounds_toArray, List.set_cons_zero, List.set_cons_succ])
  refine Ord.e_nil ?_
  go_wp2
  refine bodyPost_ret (v := .tuple #[.agg #[.int .i64 (x2.toNat : Int), .int .i64 (x3.toNat : Int), .int .i64 (x4.toNat : Int), .int .i64 (y5 : Int), .slice A9 n9 c9], .int .i64 (N : Int), .int .i64 0]) (by simp [results, go_sem, e0, e1, e2, e3, e4]) rfl ⟨A9, n9, c9, by rw [HP2.out, HTN.out, Hz.out]; rfl, by rw [HP2.out]; exact Rd.own own5, hb5⟩

end Go.Proofs.YtonejdjhdjckjaaGreat

/-
  the document's Same, knows, TlmPuts walked (printed by gen_sch6.py).
-/
set_option linter.unusedSimpArgs false
set_option linter.unusedVariables false
namespace Go.Proofs.YtonejdjhdjckjaaGreat
open Go.RowKit NumLaw
attribute [local go_sem] Addr.add_mid
attribute [-go_sem] run_eql_struct run_neq_struct

set_option maxRecDepth 10000 in
set_option maxHeartbeats 2000000 in
theorem psame_any (sq sy co id : Int) (A : Option Addr) (n c : Nat) (A' : Option Addr) (n' c' : Nat) (v : List Int) (w : World) (h : Rd w w.heap.size 1 A n c (v.map (Value.int .i64))) (h' : Rd w w.heap.size 1 A' n' c' (v.map (Value.int .i64))) :
    Calls Tryz.prog 7 #[.agg #[.int .i64 sq, .int .i64 sy, .int .i64 co, .int .i64 id, .slice A n c], .agg #[.int .i64 sq, .int .i64 sy, .int .i64 co, .int .i64 id, .slice A' n' c']] w fun e w' => e = .returned (.bool true) ∧ Below w.heap.size w w' := by
  have a0 := heap_alloc_new w (.cells #[.int .i64 sq, .int .i64 sy, .int .i64 co, .int .i64 id, .slice A n c] 28)
  have hba : Below w.heap.size w (w.alloc (.cells #[.int .i64 sq, .int .i64 sy, .int .i64 co, .int .i64 id, .slice A n c] 28)) := (Below.refl _ _).alloc (Nat.le_refl _) _
  have hbb : Below (w.alloc (.cells #[.int .i64 sq, .int .i64 sy, .int .i64 co, .int .i64 id, .slice A n c] 28)).heap.size (w.alloc (.cells #[.int .i64 sq, .int .i64 sy, .int .i64 co, .int .i64 id, .slice A n c] 28)) ((w.alloc (.cells #[.int .i64 sq, .int .i64 sy, .int .i64 co, .int .i64 id, .slice A n c] 28)).alloc (.cells #[.int .i64 sq, .int .i64 sy, .int .i64 co, .int .i64 id, .slice A' n' c'] 28)) := (Below.refl _ _).alloc (Nat.le_refl _) _
  have a1 := heap_alloc_new (w.alloc (.cells #[.int .i64 sq, .int .i64 sy, .int .i64 co, .int .i64 id, .slice A n c] 28)) (.cells #[.int .i64 sq, .int .i64 sy, .int .i64 co, .int .i64 id, .slice A' n' c'] 28)
  have a2 := blk_old a0 hbb (blk_lt a0)
  simp only [World.size_alloc] at a1
  have hb := bnx hba hbb
  have c0 := blk_cell (i := 0) (v := .int .i64 sq) a2 rfl
  have c1 := blk_cell (i := 1) (v := .int .i64 sy) a2 rfl
  have c2 := blk_cell (i := 2) (v := .int .i64 co) a2 rfl
  have c3 := blk_cell (i := 3) (v := .int .i64 id) a2 rfl
  have c4 := blk_cell (i := 4) (v := .slice A n c) a2 rfl
  have d0 := blk_cell (i := 0) (v := .int .i64 sq) a1 rfl
  have d1 := blk_cell (i := 1) (v := .int .i64 sy) a1 rfl
  have d2 := blk_cell (i := 2) (v := .int .i64 co) a1 rfl
  have d3 := blk_cell (i := 3) (v := .int .i64 id) a1 rfl
  have d4 := blk_cell (i := 4) (v := .slice A' n' c') a1 rfl
  have h1 := h.nx hb
  have h2 := h'.nx hb
  clear a0 a1 a2 hba hbb
  go_enter Tryz.func7, Tryz.ntmps7
  go_wp2_with fail
  go_fit (same_any A n c _ v A' n' c' _ v _ h1 (Nat.le_refl _) h2 (Nat.le_refl _))
  rintro e w2 ⟨rfl, hbx⟩
  rw [decide_eq_true rfl]
  have hbf := bnx hb hbx
  clear h1 h2 hb hbx c0 c1 c2 c3 c4 d0 d1 d2 d3 d4
  go_wp2
  go_ret
  exact ⟨by simp, hbf⟩
theorem kn_put : tlE ⟨7, 1, 2, 42, [513]⟩ = 0 := by
  have h1 : (frm 42).1.toList.isEmpty = false := by
    rcases frm_id 42 with ⟨_, _, h⟩ | ⟨h, _⟩
    · exact absurd h (by decide +kernel)
    · exact h
  have h2 : putSE (frm 42).2 [513] = 0 := by decide +kernel
  unfold tlE
  rw [if_pos (by decide)]
  show sPE (frm 42) [513] = 0
  unfold sPE
  rw [if_neg (by rw [h1]; exact Bool.false_ne_true)]
  exact h2
theorem kn_bytes : (tlB ⟨7, 1, 2, 42, [513]⟩).length = 10 ∧ (tlB ⟨7, 1, 2, 42, [513]⟩).take 8 = [254, 2, 7, 1, 2, 42, 1, 2] := by
  have h1 : (frm 42).1.toList.isEmpty = false := by
    rcases frm_id 42 with ⟨_, _, h⟩ | ⟨h, _⟩
    · exact absurd h (by decide +kernel)
    · exact h
  have h2 : putSB (frm 42).2 [513] = [1, 2] := by decide +kernel
  have h3 : sPB (frm 42) [513] = [1, 2] := by
    unfold sPB
    rw [if_neg (by rw [h1]; exact Bool.false_ne_true)]
    exact h2
  have hI : tlI ⟨7, 1, 2, 42, [513]⟩ = [2, 7, 1, 2, 42, 1, 2] := by
    show [u8i ((sPB (frm 42) [513]).length : Int), u8i 7, u8i 1, u8i 2, u8i 42] ++ sPB (frm 42) [513] = _
    rw [h3]
    decide
  have hB : tlB ⟨7, 1, 2, 42, [513]⟩ = 254 :: ([2, 7, 1, 2, 42, 1, 2] ++ sm2 (frm 42) (tlI ⟨7, 1, 2, 42, [513]⟩)) := by
    unfold tlB
    rw [if_pos kn_put, hI]
  rw [hB]
  exact ⟨rfl, rfl⟩
theorem kn_size : szS 0 = 17 := by decide +kernel
set_option maxRecDepth 10000 in
set_option maxHeartbeats 4000000 in
theorem knows32 (w : World) : Calls Tryz.prog 4 #[] w fun e w' => e = .returned (.bool true) ∧ Below w.heap.size w w' := by
  have own1 := own_new w w.heap.size 2 [.int .i64 513] (Nat.le_refl _) (by simp [maxLen])
  have hr1 : Rd (w.alloc (.cells #[.int .i64 513] 2)) (w.alloc (.cells #[.int .i64 513] 2)).heap.size 1 (some ⟨w.heap.size, 0, none⟩) 1 1 (([513] : List Int).map (Value.int .i64)) := Rd.own own1
  have hb1 : Below w.heap.size w (w.alloc (.cells #[.int .i64 513] 2)) := (Below.refl _ _).alloc (Nat.le_refl _) _
  have hput := tlput_any 7 1 2 42 (some ⟨w.heap.size, 0, none⟩) 1 1 [513] _ hr1 ⟨by decide, by decide, by decide, by decide, by decide⟩
  rw [kn_put] at hput
  obtain ⟨q1, q2⟩ := kn_bytes
  generalize tlB ⟨7, 1, 2, 42, [513]⟩ = oB at *
  have Q1 := Lib.hid q1
  have Q2 := Lib.hid q2
  have Hput := Lib.hid hput
  have hs := fun w => tsize_any 0 w
  rw [kn_size] at hs
  have Hs := Lib.hid hs
  obtain ⟨i0, hi⟩ := info_parts u8_info
  have Hi := Lib.hid hi
  clear q1 q2 hput own1 hr1 hs hi
  go_enter Tryz.func4, Tryz.ntmps4
  go_wp2_with fail
  go_fit Hput.out
  rintro e w2 ⟨A2, n2, c2, rfl, own2, hbx⟩
  have hb2 := bnx hb1 hbx
  have hl2 := own_len own2
  obtain rfl : n2 = 10 := by rw [← hl2]; exact Q1.out
  have hr2 := Rd.own own2
  have hle2 := hr2.le
  have hmx2 := hr2.max
  unfold maxLen at hmx2
  have hcut : ∀ w, (Instr.slice 22 (.slice A2 10 c2) none (some (.int .i64 8)) none).run Tryz.prog w = .ok (.slice A2 8 c2) w := run_cut_h (P := Tryz.prog) Tryz.underlying22 Hi.out.1 A2 10 c2 8 (by omega)
  have Hcut := Lib.hid hcut
  have hr8 := hr2.btake (k := 8) (by omega)
  rw [Q2.out] at hr8
  clear hbx own2 hl2 hcut hb1 hr2
  go_wp2_with fail
  refine Ord.region_ (fun w' => Below w2.heap.size w2 w') false [27] (by kernel_rfl) (by kernel_rfl) (Below.refl _ _).drew ?_
  have hb3 : Below w2.heap.size w2 w2.drew := (Below.refl _ _).drew
  generalize w2.drew = w3 at *
  refine Ord.e_x rfl (by kernel_rfl) ?_
  go_wp2_with fail
  go_fit (Hs.out w3)
  rintro e w4 ⟨rfl, hbx⟩
  have hb4 := bnx hb3 hbx
  clear hbx hb3
  have hb3 := hb4
  clear hb4
  go_wp2_with fail
  refine Ord.Seg.go hb3 (fun h => by cases h) ?_
  (try simp only [Act.put, List.setIfInBounds_toArray, List.set_cons_zero, List.set_cons_succ])
  refine Ord.e_p (v := .bool true) rfl (by kernel_rfl) (fun w2 => by go_simp) ?_
  (try simp only [Act.put, List.setIfInBounds_toArray, List.set_cons_zero, List.set_cons_succ])
  ((with_reducible refine Ord.e_p (v := ?_) ?_ ?_ ?_ ?_); rotate_left; (· exact rfl); (· kernel_rfl); (· intro w2; go_simp; try with_reducible rfl))
  (try simp only [Act.put, List.setIfInBounds_toArray, List.set_cons_zero, List.set_cons_succ])
  ((with_reducible refine Ord.e_p (v := ?_) ?_ ?_ ?_ ?_); rotate_left; (· exact rfl); (· kernel_rfl); (· intro w2; go_simp; try with_reducible rfl))
  (try simp only [Act.put, List.setIfInBounds_toArray, List.set_cons_zero, List.set_cons_succ])
  refine Ord.e_x rfl (by kernel_rfl) ?_
  go_wp2_with fail
  go_fit (num32_any _ _)
  rintro e w5 ⟨rfl, rfl⟩
  go_wp2_with fail
  refine Ord.Seg.go hb3 (fun h => by cases h) ?_
  (try simp only [Act.put, List.setIfInBounds_toArray, List.set_cons_zero, List.set_cons_succ])
  refine Ord.e_p (v := .bool true) rfl (by kernel_rfl) (fun w2 => by go_simp) ?_
  (try simp only [Act.put, List.setIfInBounds_toArray, List.set_cons_zero, List.set_cons_succ])
  ((with_reducible refine Ord.e_p (v := ?_) ?_ ?_ ?_ ?_); rotate_left; (· exact rfl); (· kernel_rfl); (· intro w2; go_simp; try with_reducible rfl))
  (try simp only [Act.put, List.setIfInBounds_toArray, List.set_cons_zero, List.set_cons_succ])
  ((with_reducible refine Ord.e_p (v := ?_) ?_ ?_ ?_ ?_); rotate_left; (· exact rfl); (· kernel_rfl); (· intro w2; go_simp; try with_reducible rfl))
  (try simp only [Act.put, List.setIfInBounds_toArray, List.set_cons_zero, List.set_cons_succ])
  ((with_reducible refine Ord.e_p (v := ?_) ?_ ?_ ?_ ?_); rotate_left; (· exact rfl); (· kernel_rfl); (· intro w2; go_simp; try with_reducible rfl))
  (try simp only [Act.put, List.setIfInBounds_toArray, List.set_cons_zero, List.set_cons_succ])
  ((with_reducible refine Ord.e_p (v := ?_) ?_ ?_ ?_ ?_); rotate_left; (· exact rfl); (· kernel_rfl); (· intro w2; go_simp; try with_reducible rfl))
  (try simp only [Act.put, List.setIfInBounds_toArray, List.set_cons_zero, List.set_cons_succ])
  refine Ord.e_p (v := .bool true) rfl (by kernel_rfl) (fun w2 => by go_simp) ?_
  (try simp only [Act.put, List.setIfInBounds_toArray, List.set_cons_zero, List.set_cons_succ])
  ((with_reducible refine Ord.e_p (v := ?_) ?_ ?_ ?_ ?_); rotate_left; (· exact rfl); (· kernel_rfl); (· intro w2; go_simp; try with_reducible rfl))
  (try simp only [Act.put, List.setIfInBounds_toArray, List.set_cons_zero, List.set_cons_succ])
  ((with_reducible refine Ord.e_p (v := ?_) ?_ ?_ ?_ ?_); rotate_left; (· exact rfl); (· kernel_rfl); (· intro w2; go_simp; try with_reducible rfl))
  (try simp only [Act.put, List.setIfInBounds_toArray, List.set_cons_zero, List.set_cons_succ])
  ((with_reducible refine Ord.e_p (v := ?_) ?_ ?_ ?_ ?_); rotate_left; (· exact rfl); (· kernel_rfl); (· intro w2; go_simp; try with_reducible rfl))
  (try simp only [Act.put, List.setIfInBounds_toArray, List.set_cons_zero, List.set_cons_succ])
  refine Ord.e_p (v := .slice A2 8 c2) rfl (by kernel_rfl) (fun w2 => by have hcut := Hcut.out w2; go_simp) ?_
  (try simp only [Act.put, List.setIfInBounds_toArray, List.set_cons_zero, List.set_cons_succ])
  refine Ord.e_strS Tryz.underlying22 Tryz.underlying5 Tryz.underlying9 (fun w' hS => hr8.up (show Below _ w2 w' from hS)) hb3 hb3.size rfl (by kernel_rfl) ?_
  (try simp only [Act.put, List.setIfInBounds_toArray, List.set_cons_zero, List.set_cons_succ])
  refine Ord.e_x rfl (by kernel_rfl) ?_
  go_wp2
  refine Ord.Seg.go (hb3.alloc hb3.size _) (fun h => by cases h) ?_
  (try simp only [Act.put, List.setIfInBounds_toArray, List.set_cons_zero, List.set_cons_succ])
  have hr9 : Rd (w4.alloc (.cells #[.int .u8 254, .int .u8 2, .int .u8 7, .int .u8 1, .int .u8 2, .int .u8 42, .int .u8 1, .int .u8 2] 5)) (w4.heap.size + 1) 1 (some ⟨w4.heap.size, 0, none⟩) 8 8 (bv [254, 2, 7, 1, 2, 42, 1, 2]) := rd_const w4 5 [254, 2, 7, 1, 2, 42, 1, 2] (0, 0) (by simp [maxLen])
  replace hb3 := hb3.alloc hb3.size (.cells #[.int .u8 254, .int .u8 2, .int .u8 7, .int .u8 1, .int .u8 2, .int .u8 42, .int .u8 1, .int .u8 2] 5)
  have hr9' := hr9.more (B' := (w4.alloc (.cells #[.int .u8 254, .int .u8 2, .int .u8 7, .int .u8 1, .int .u8 2, .int .u8 42, .int .u8 1, .int .u8 2] 5)).heap.size) (by simp only [World.size_alloc]; exact Nat.le_refl _)
  clear hr9
  refine Ord.e_str Tryz.underlying22 Tryz.underlying5 Tryz.underlying9 hr9' rfl (by kernel_rfl) (by kernel_rfl) ?_
  (try simp only [Act.put, List.setIfInBounds_toArray, List.set_cons_zero, List.set_cons_succ])
  refine Ord.e_p (v := .bool true) rfl (by kernel_rfl) (fun w2 => by go_simp) ?_
  (try simp only [Act.put, List.setIfInBounds_toArray, List.set_cons_zero, List.set_cons_succ])
  ((with_reducible refine Ord.e_p (v := ?_) ?_ ?_ ?_ ?_); rotate_left; (· exact rfl); (· kernel_rfl); (· intro w2; go_simp; try with_reducible rfl))
  (try simp only [Act.put, List.setIfInBounds_toArray, List.set_cons_zero, List.set_cons_succ])
  ((with_reducible refine Ord.e_p (v := ?_) ?_ ?_ ?_ ?_); rotate_left; (· exact rfl); (· kernel_rfl); (· intro w2; go_simp; try with_reducible rfl))
  (try simp only [Act.put, List.setIfInBounds_toArray, List.set_cons_zero, List.set_cons_succ])
  refine Ord.e_nil ?_
  have hbf := bnx hb2 hb3
  clear hr9' hb3 hb2 hr8
  go_wp2
  go_ret
  exact ⟨rfl, hbf⟩
end Go.Proofs.YtonejdjhdjckjaaGreat
