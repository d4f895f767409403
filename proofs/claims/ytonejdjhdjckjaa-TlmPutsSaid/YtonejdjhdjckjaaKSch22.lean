/-
  SchemaPuts and SchemaBack walked (printed by gen_sch6.py).
-/
import Derived.Test.YtonejdjhdjckjaaKGO
import Derived.Test.YtonejdjhdjckjaaKGI
set_option linter.unusedSimpArgs false
set_option linter.unusedVariables false
namespace Go.Proofs.Ytonejdjhdjckjaa
open Go.RowKit NumLaw
attribute [local go_sem] Addr.add_mid
attribute [-go_sem] run_eql_struct run_neq_struct

theorem num31_any (n : Int) (w : World) : Calls Try.prog 30 #[.int .i64 n] w fun e w' => e = .returned (.int .i64 n) ∧ w = w' := by
  go_enter Try.func30, Try.ntmps30
  go_wp2
  go_ret
  exact ⟨rfl, rfl⟩
theorem sPB_not {p : FmT} {v : List Int} (h : ¬ sPE p v = 0) : sPB p v = [] := by
  unfold sPE at h
  unfold sPB
  split
  · rfl
  · rename_i hn
    rw [if_neg hn] at h
    unfold putSE at h
    unfold putSB
    split
    · rename_i hv
      rw [if_pos hv] at h
      unfold shP
      rw [if_neg h]
    · rfl
theorem sTV_not {p : FmT} {b : List UInt8} (h : ¬ sTE p b = 0) : sTV p b = [] := by
  unfold sTE at h
  unfold sTV
  split
  · rfl
  · rename_i hn
    rw [if_neg hn] at h
    unfold takSV
    rw [if_neg h]
theorem s_there {p : FmT} {v : List Int} (hq : PtQ p.2) (h : sPE p v = 0) : sTE p (sPB p v) = 0 ∧ sTV p (sPB p v) = v ∧ (sPB p v).length = wdS p.2 ∧ v.length = cntS p.2 := by
  unfold sPE at h
  unfold sTE sTV sPB
  split at h
  · cases h
  · rename_i hn
    rw [if_neg hn, if_neg hn, if_neg hn]
    exact sch_there hq h
theorem scat_mem : ∀ (L : List (Nat × Int)) (o : List Int) (x : Int), x ∈ scat o L → x ∈ o ∨ x ∈ L.map Prod.snd
  | [], _, _, h => .inl h
  | p :: L, o, x, h => by
    have h1 : x ∈ scat (o.set p.1 p.2) L := h
    rcases scat_mem L _ x h1 with h2 | h2
    · rcases List.mem_or_eq_of_mem_set h2 with h3 | h3
      · exact .inl h3
      · exact .inr (by rw [h3]; exact List.mem_cons_self)
    · exact .inr (List.mem_cons_of_mem _ h2)
theorem s_back {p : FmT} {b : List UInt8} (hq : PtQ p.2) (h : sTE p b = 0) : sPE p (sTV p b) = 0 ∧ sPB p (sTV p b) = b ∧ ∀ x ∈ sTV p b, -9223372036854775808 ≤ x ∧ x ≤ 9223372036854775807 := by
  unfold sTE at h
  unfold sPE sPB sTV
  split at h
  · cases h
  · rename_i hn
    rw [if_neg hn, if_neg hn, if_neg hn]
    obtain ⟨h1, h2, _⟩ := sch_back h
    refine ⟨h1, h2, fun x hx => ?_⟩
    unfold takSV at hx
    rw [if_pos h] at hx
    rcases scat_mem _ _ _ hx with h3 | h3
    · rw [List.mem_replicate] at h3
      rw [h3.2]
      decide
    · obtain ⟨z, hz, rfl⟩ := List.mem_map.1 h3
      have h4 : z.2 ∈ takeV ((wireS p.2).map fldOf) b := (List.of_mem_zip (a := z.1) (b := z.2) hz).2
      have hin : inAll ((wireS p.2).map fldOf) (takeV ((wireS p.2).map fldOf) b) = true := by
        unfold takSE shTE at h
        split at h
        · split at h
          · cases h
          · split at h
            · cases h
            · split at h
              · rename_i h4; exact h4
              · cases h
        · cases h
      exact inAll_bounds (fun f hf => (fld_fb hq f hf).2) (takeV_len _ _) hin _ h4
set_option maxRecDepth 20000 in
set_option maxHeartbeats 8000000 in
theorem schemaputs_any (id : Int) (A : Option Addr) (n c : Nat) (v : List Int) (A2 : Option Addr) (n2 c2 : Nat) (b : List UInt8) (w : World) (hi : -9223372036854775808 ≤ id ∧ id ≤ 9223372036854775807) (h : Rd w w.heap.size 1 A n c (v.map (Value.int .i64))) (hwf : ∀ z ∈ v, (Lit.int .i64 z).wf = true) (h2 : Rd w w.heap.size 1 A2 n2 c2 (bv b)) :
    Calls Try.prog 5 #[.int .i64 id, .slice A n c, .slice A2 n2 c2] w fun e w' => e = .returned (.bool true) ∧ Below w.heap.size w w' := by
  have hvb : ∀ x ∈ v, -9223372036854775808 ≤ x ∧ x ≤ 9223372036854775807 := fun x hx => bounds_i64 (hwf x hx)
  clear hi hwf
  have hmx := h.max
  have hle := h.le
  have hmx2 := h2.max
  have hle2 := h2.le
  unfold maxLen at hmx hmx2
  rcases (by omega : 300 < n ∨ (¬ 300 < n ∧ 600 < n2) ∨ (¬ 300 < n ∧ ¬ 600 < n2)) with g1 | ⟨g1, g2⟩ | ⟨g1, g2⟩
  · have g1' : (300 : Int) < (n : Int) := by omega
    go_enter Try.func5, Try.ntmps5
    go_wp2_with fail
    go_fit (knows31 _)
    rintro e w1 ⟨rfl, hb⟩
    go_wp2
    go_ret
    exact ⟨rfl, hb⟩
  · have g1' : ¬ (300 : Int) < (n : Int) := by omega
    have g2' : (600 : Int) < (n2 : Int) := by omega
    go_enter Try.func5, Try.ntmps5
    go_wp2_with fail
    go_fit (knows31 _)
    rintro e w1 ⟨rfl, hb⟩
    go_wp2
    go_ret
    exact ⟨rfl, hb⟩
  have g1' : ¬ (300 : Int) < (n : Int) := by omega
  have g2' : ¬ (600 : Int) < (n2 : Int) := by omega
  have Hp1 := Lib.hid (fun A n c w h => put31_any id A n c v w h hvb)
  have Hp2 := Lib.hid (fun A n c w h => qput31_any id A n c v w h)
  have Ht1 := Lib.hid (fun A n c b w h hn => take31_any id A n c b w h hn)
  have Ht2 := Lib.hid (fun A n c b w h => qtake31_any id A n c b w h)
  generalize frm id = p at *
  generalize sPE p v = oE at *
  generalize sPB p v = oP at *
  go_enter Try.func5, Try.ntmps5
  go_wp2_with fail
  go_fit (knows31 _)
  rintro e w1 ⟨rfl, hb1⟩
  replace h := h.nx hb1
  replace h2 := h2.nx hb1
  go_wp2_with fail
  go_fit (Hp1.out A n c w1 h)
  rintro e w2 ⟨Ap, np, kp, rfl, own, hbx⟩
  have hrp := Rd.own own
  have hb2 := bnx hb1 hbx
  replace h := h.nx hbx
  replace h2 := h2.nx hbx
  clear own hb1 hbx
  go_wp2_with fail
  go_fit (Hp2.out A n c w2 h)
  rintro e w3 ⟨Aq, nq, kq, rfl, own, hbx⟩
  have hrq := Rd.own own
  have hb3 := bnx hb2 hbx
  replace hrp := hrp.nx hbx
  replace h2 := h2.nx hbx
  clear own hb2 hbx h
  go_wp2_with fail
  go_fit (Ht1.out A2 n2 c2 b w3 h2 (by omega))
  rintro e w4 ⟨Ar, nr, kr, rfl, own, hbx⟩
  have hrr := Rd.own own
  have hb4 := bnx hb3 hbx
  replace hrp := hrp.nx hbx
  replace hrq := hrq.nx hbx
  replace h2 := h2.nx hbx
  clear own hb3 hbx
  go_wp2_with fail
  go_fit (Ht2.out A2 n2 c2 b w4 h2)
  rintro e w5 ⟨As, ns, ks, rfl, own, hbx⟩
  have hrs := Rd.own own
  have hb5 := bnx hb4 hbx
  replace hrp := hrp.nx hbx
  replace hrq := hrq.nx hbx
  replace hrr := hrr.nx hbx
  clear own hb4 hbx h2
  generalize sTE p b = oG at *
  generalize sTV p b = oT at *
  have v1 := run_str w5 36 9 5 Try.underlying36 Try.underlying5 Try.underlying9 hrp
  have v2 := run_str w5 36 9 5 Try.underlying36 Try.underlying5 Try.underlying9 hrq
  clear Hp1 Hp2 Ht1 Ht2
  go_wp2_with fail
  go_fit (num31_any _ _)
  rintro e w6 ⟨rfl, rfl⟩
  go_wp2_with fail
  go_fit (num31_any _ _)
  rintro e w6 ⟨rfl, rfl⟩
  go_wp2_with fail
  go_fit (same_any Ar nr kr w5.heap.size oT As ns ks w5.heap.size oT w5 hrr (Nat.le_refl _) hrs (Nat.le_refl _))
  rintro e w6 ⟨rfl, hb6⟩
  rw [decide_eq_true rfl]
  have hb7 := bnx hb5 hb6
  clear hrp hrq hrr hrs v1 v2 hb5 hb6
  go_wp2_with fail
  go_fit (num31_any _ _)
  rintro e w7 ⟨rfl, rfl⟩
  go_wp2_with fail
  go_fit (num31_any _ _)
  rintro e w7 ⟨rfl, rfl⟩
  go_wp2
  go_ret
  exact ⟨by simp, hb7⟩
set_option maxRecDepth 20000 in
set_option maxHeartbeats 8000000 in
theorem schemaback_any (id : Int) (A : Option Addr) (n c : Nat) (v : List Int) (A2 : Option Addr) (n2 c2 : Nat) (b : List UInt8) (w : World) (hi : -9223372036854775808 ≤ id ∧ id ≤ 9223372036854775807) (h : Rd w w.heap.size 1 A n c (v.map (Value.int .i64))) (hwf : ∀ z ∈ v, (Lit.int .i64 z).wf = true) (h2 : Rd w w.heap.size 1 A2 n2 c2 (bv b)) :
    Calls Try.prog 6 #[.int .i64 id, .slice A n c, .slice A2 n2 c2] w fun e w' => e = .returned (.bool true) ∧ Below w.heap.size w w' := by
  have hvb : ∀ x ∈ v, -9223372036854775808 ≤ x ∧ x ≤ 9223372036854775807 := fun x hx => bounds_i64 (hwf x hx)
  clear hi hwf
  have hmx := h.max
  have hle := h.le
  have hmx2 := h2.max
  have hle2 := h2.le
  unfold maxLen at hmx hmx2
  rcases (by omega : 300 < n ∨ (¬ 300 < n ∧ 600 < n2) ∨ (¬ 300 < n ∧ ¬ 600 < n2)) with g1 | ⟨g1, g2⟩ | ⟨g1, g2⟩
  · have g1' : (300 : Int) < (n : Int) := by omega
    go_enter Try.func6, Try.ntmps6
    go_wp2_with fail
    go_fit (knows31 _)
    rintro e w1 ⟨rfl, hb⟩
    go_wp2
    go_ret
    exact ⟨rfl, hb⟩
  · have g1' : ¬ (300 : Int) < (n : Int) := by omega
    have g2' : (600 : Int) < (n2 : Int) := by omega
    go_enter Try.func6, Try.ntmps6
    go_wp2_with fail
    go_fit (knows31 _)
    rintro e w1 ⟨rfl, hb⟩
    go_wp2
    go_ret
    exact ⟨rfl, hb⟩
  have g1' : ¬ (300 : Int) < (n : Int) := by omega
  have g2' : ¬ (600 : Int) < (n2 : Int) := by omega
  have Hp1 := Lib.hid (fun A n c w h => put31_any id A n c v w h hvb)
  have Hp2 := Lib.hid (fun A n c w h => qput31_any id A n c v w h)
  have Ht1 := Lib.hid (fun A n c b w h hn => take31_any id A n c b w h hn)
  have Ht2 := Lib.hid (fun A n c b w h => qtake31_any id A n c b w h)
  have Hp3 := Lib.hid (fun A n c v w h hvb => put31_any id A n c v w h hvb)
  have Hwd := Lib.hid (fun w => width_any id w)
  have Hcn := Lib.hid (fun w => count_any id w)
  have hq := (frm_n id).1
  have hC := frm_cnt id
  have hW := wd_bd (frm id).2 (frm_n id) (frm id).2.length
  rw [List.take_length] at hW
  generalize frm id = p at *
  have Hthere := Lib.hid (@s_there p v hq)
  have Hback := Lib.hid (@s_back p b hq)
  have hlv : v.length = n := by have := h.len; simpa using this
  have Hlv := Lib.hid hlv
  clear Hp2 Ht2 hq hlv
  go_enter Try.func6, Try.ntmps6
  go_wp2_with fail
  go_fit (knows31 _)
  rintro e w1 ⟨rfl, hb1⟩
  replace h := h.nx hb1
  replace h2 := h2.nx hb1
  go_wp2_with fail
  go_fit (Hp1.out A n c w1 h)
  rintro e w2 ⟨Ap, np, kp, rfl, own, hbx⟩
  have hrp := Rd.own own
  have hlp := own_len own
  have hb2 := bnx hb1 hbx
  replace h := h.nx hbx
  replace h2 := h2.nx hbx
  clear own hb1 hbx Hp1
  by_cases he : sPE p v = 0
  · obtain ⟨q1, q2, q3, q4⟩ := Hthere.out he
    have htake := fun w h hn => Ht1.out Ap np kp (sPB p v) w h hn
    rw [q1, q2] at htake
    have Htake := Lib.hid htake
    rw [he]
    rw [hlp] at q3
    rw [Hlv.out] at q4
    have hnp : np ≤ 1000000000 := by omega
    clear q1 q2 htake hlp
    have Hwd2 : Hid (∀ w, Calls Try.prog 22 #[.int .i64 id] w fun e w' => e = .returned (.int .i64 (np : Int)) ∧ Below w.heap.size w w') := Lib.hid (fun w => by rw [q3]; exact Hwd.out w)
    have Hcn2 : Hid (∀ w, Calls Try.prog 20 #[.int .i64 id] w fun e w' => e = .returned (.int .i64 (n : Int)) ∧ Below w.heap.size w w') := Lib.hid (fun w => by rw [q4]; exact Hcn.out w)
    clear q3 q4 Hwd Hcn
    go_wp2_with fail
    go_fit (num31_any _ _)
    rintro e w3 ⟨rfl, rfl⟩
    go_wp2_with fail
    go_fit (Htake.out w2 hrp hnp)
    rintro e w4 ⟨Aq, kq, nq, rfl, own, hbx⟩
    have hrq := Rd.own own
    have hb4 := bnx hb2 hbx
    replace h := h.nx hbx
    replace h2 := h2.nx hbx
    clear own hb2 hbx hrp
    go_wp2_with fail
    go_fit (num31_any _ _)
    rintro e w5 ⟨rfl, rfl⟩
    go_wp2_with fail
    go_fit (same_any A n c w4.heap.size v Aq kq nq w4.heap.size v w4 h (Nat.le_refl _) hrq (Nat.le_refl _))
    rintro e w5 ⟨rfl, hbx⟩
    rw [decide_eq_true rfl]
    have hb5 := bnx hb4 hbx
    replace h2 := h2.nx hbx
    clear hb4 hbx hrq h
    go_wp2_with fail
    go_fit (Hwd2.out w5)
    rintro e w6 ⟨rfl, hbx⟩
    have hb6 := bnx hb5 hbx
    replace h2 := h2.nx hbx
    clear hb5 hbx
    go_wp2_with fail
    go_fit (Hcn2.out w6)
    rintro e wt ⟨rfl, hbx⟩
    have hbt := bnx hb6 hbx
    replace h2 := h2.nx hbx
    clear hb6 hbx Hwd2 Hcn2 Htake
    go_wp2_with fail
    go_fit (Ht1.out A2 n2 c2 b wt h2 (by omega))
    rintro e wu ⟨Au, ku, nu, rfl, hru, hbu⟩
    have hbu' := bnx hbt hbu
    have hru' := Rd.own hru
    replace h2 := h2.nx hbu
    clear hbu hbt
    have hnu : (sTV p b).length = ku := by have := hru.1; simpa using this
    by_cases hg : sTE p b = 0
    · obtain ⟨q1, q2, q3⟩ := Hback.out hg
      have hput2 := Hp3.out Au ku nu (sTV p b) wu hru' q3
      rw [q1, q2] at hput2
      have Hput2 := Lib.hid hput2
      rw [hg]
      clear q1 q2 q3 hput2 hnu hru hru'
      go_wp2_with fail
      go_fit (num31_any _ _)
      rintro e wv ⟨rfl, rfl⟩
      go_wp2_with fail
      go_fit Hput2.out
      rintro e wv ⟨Av, nv, kv, rfl, hownv, hbv⟩
      have hbv' := bnx hbu' hbv
      have v1 := run_str wv 36 9 5 Try.underlying36 Try.underlying5 Try.underlying9 (Rd.own hownv)
      have v2 := run_str wv 36 9 5 Try.underlying36 Try.underlying5 Try.underlying9 (h2.nx hbv)
      clear hownv hbv
      go_wp2_with fail
      go_fit (num31_any _ _)
      rintro e wx ⟨rfl, rfl⟩
      go_wp2
      go_ret
      exact ⟨by simp, hbv'⟩
    · obtain rfl : ku = 0 := by rw [sTV_not hg] at hnu; exact hnu.symm
      have Hg := Lib.hid hg
      generalize sTE p b = oG at *
      have hg' : ¬ (oG : Int) = 0 := by omega
      clear hru hru' hnu hg
      go_wp2_with fail
      go_fit (num31_any _ _)
      rintro e wv ⟨rfl, rfl⟩
      go_wp2_with fail
      go_fit (num31_any _ _)
      rintro e wv ⟨rfl, rfl⟩
      go_wp2
      go_ret
      exact ⟨rfl, hbu'⟩
  · obtain rfl : np = 0 := by rw [sPB_not he] at hlp; exact hlp.symm
    clear hlp hrp h Hthere
    generalize sPE p v = oE at *
    have he' : ¬ (oE : Int) = 0 := by omega
    go_wp2_with fail
    go_fit (num31_any _ _)
    rintro e w3 ⟨rfl, rfl⟩
    obtain ⟨wt, rfl⟩ : ∃ wt, wt = w2 := ⟨_, rfl⟩
    have hbt := hb2
    clear hb2
    go_wp2_with fail
    go_fit (Ht1.out A2 n2 c2 b wt h2 (by omega))
    rintro e wu ⟨Au, ku, nu, rfl, hru, hbu⟩
    have hbu' := bnx hbt hbu
    have hru' := Rd.own hru
    replace h2 := h2.nx hbu
    clear hbu hbt
    have hnu : (sTV p b).length = ku := by have := hru.1; simpa using this
    by_cases hg : sTE p b = 0
    · obtain ⟨q1, q2, q3⟩ := Hback.out hg
      have hput2 := Hp3.out Au ku nu (sTV p b) wu hru' q3
      rw [q1, q2] at hput2
      have Hput2 := Lib.hid hput2
      rw [hg]
      clear q1 q2 q3 hput2 hnu hru hru'
      go_wp2_with fail
      go_fit (num31_any _ _)
      rintro e wv ⟨rfl, rfl⟩
      go_wp2_with fail
      go_fit Hput2.out
      rintro e wv ⟨Av, nv, kv, rfl, hownv, hbv⟩
      have hbv' := bnx hbu' hbv
      have v1 := run_str wv 36 9 5 Try.underlying36 Try.underlying5 Try.underlying9 (Rd.own hownv)
      have v2 := run_str wv 36 9 5 Try.underlying36 Try.underlying5 Try.underlying9 (h2.nx hbv)
      clear hownv hbv
      go_wp2_with fail
      go_fit (num31_any _ _)
      rintro e wx ⟨rfl, rfl⟩
      go_wp2
      go_ret
      exact ⟨by simp, hbv'⟩
    · obtain rfl : ku = 0 := by rw [sTV_not hg] at hnu; exact hnu.symm
      have Hg := Lib.hid hg
      generalize sTE p b = oG at *
      have hg' : ¬ (oG : Int) = 0 := by omega
      clear hru hru' hnu hg
      go_wp2_with fail
      go_fit (num31_any _ _)
      rintro e wv ⟨rfl, rfl⟩
      go_wp2_with fail
      go_fit (num31_any _ _)
      rintro e wv ⟨rfl, rfl⟩
      go_wp2
      go_ret
      exact ⟨rfl, hbu'⟩

end Go.Proofs.Ytonejdjhdjckjaa
