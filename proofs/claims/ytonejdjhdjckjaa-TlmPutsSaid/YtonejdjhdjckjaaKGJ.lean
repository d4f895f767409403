/-
  Several texts in one: Sch9 Sch10.
-/
import Derived.Test.YtonejdjhdjckjaaKGI
/-
  the document's Order walked (printed by gen_sch6.py).
-/
set_option linter.unusedSimpArgs false
set_option linter.unusedVariables false
namespace Go.Proofs.Ytonejdjhdjckjaa
open Go.RowKit NumLaw
attribute [local go_sem] Addr.add_mid
attribute [-go_sem] run_eql_struct run_neq_struct

def ptD : PtT := ⟨⟨#[]⟩, 0, false, 0⟩
def szK (L : List PtT) (k : Nat) : Int := (L.getD k ptD).sz
def ordS (L : List PtT) : List Nat := stb (szK L) (List.range L.length)
def ivR (L : List Nat) : List (List Value) := L.map fun k : Nat => [Value.int .i64 (k : Int)]
theorem ord_len (L : List PtT) : (ordS L).length = L.length := by unfold ordS; rw [stb_len, List.length_range]
theorem ord_mem (L : List PtT) : ∀ k ∈ ordS L, k < L.length := fun k hk => List.mem_range.1 ((stb_mem (szK L) _).1 hk)
theorem ord_map (L : List PtT) : ((List.range L.length).map fun k => L.getD k ptD) = L := by
  refine List.ext_getElem (by simp) fun i h1 h2 => ?_
  simp [List.getD_eq_getElem?_getD, List.getElem?_eq_getElem h2]
theorem ord_wire (L : List PtT) : ((ordS L).map fun k => L.getD k ptD) = stb PtT.sz L := by
  have := stb_map PtT.sz (fun k : Nat => L.getD k ptD) (List.range L.length)
  rw [ord_map] at this
  exact this
theorem szK_at {L : List PtT} {k : Nat} {x : PtT} (h : L[k]? = some x) : szK L k = x.sz := by unfold szK; rw [List.getD_eq_getElem?_getD, h]; rfl
theorem iv_flat (L : List Nat) : (ivR L).flatten = L.map fun k : Nat => Value.int .i64 (k : Int) := by unfold ivR; induction L <;> simp_all
theorem iv_one (L : List Nat) : ∀ u ∈ (ivR L).flatten, u.oneCell' = true := fun u hu => by
  rw [iv_flat] at hu
  obtain ⟨k, _, rfl⟩ := List.mem_map.1 hu
  rfl
theorem iv_row (L : List Nat) : ∀ r ∈ ivR L, r.length = 1 := fun r hr => by obtain ⟨k, _, rfl⟩ := List.mem_map.1 hr; rfl
theorem own_none {w : World} {base : Nat} {e : TypeId} {size n c : Nat} {xs : List Value} (h : w.ownsRow base e size (.slice none n c) n xs) : n = 0 ∧ c = 0 := by
  rcases h.2 with ⟨hv, h0⟩ | ⟨g, cap, cur, hv, _⟩
  · injection hv with _ e2 e3; exact ⟨e2, e3⟩
  · injection hv with e1; cases e1
set_option maxRecDepth 10000 in
set_option maxHeartbeats 8000000 in
theorem order31_own (A : Option Addr) (n c : Nat) (L : List PtT) (w : World) (h : RdP w w.heap.size A n c L) (hn : n ≤ 1000) :
    Calls Try.prog 48 #[.slice A n c] w fun e w' => ∃ (A' : Option Addr) (c' : Nat), e = .returned (.slice A' n c') ∧ RdN w' w'.heap.size A' n c' (ordS L) ∧ w'.ownsRow w.heap.size 3 1 (.slice A' n c') n (ivR (ordS L)).flatten ∧ Below w.heap.size w w' := by
  have hll := h.len
  have hmx := h.2.2.2.1
  have hle := h.2.2.1
  unfold maxLen at hmx
  obtain ⟨i1, hi1⟩ := info_parts int_info31
  have Hi1 := Lib.hid hi1
  have Hll := Lib.hid hll
  clear hll hi1
  go_enter Try.func48, Try.ntmps48
  go_wp2_with fail
  go_loopw [3, 4] (fun o i wr => ∃ (k c3 : Nat) (A3 : Option Addr), k ≤ n ∧ k ≤ c3 ∧ c3 ≤ 9223372036854775807 ∧ i = .int .i64 k ∧ o = .slice A3 k c3 ∧ Below w.heap.size w wr ∧ Hid (wr.ownsRow w.heap.size 3 1 (.slice A3 k c3) k (ivR (stb (szK L) (List.range k))).flatten)) (fun _ i _ => n - (intOf i).toNat)
  case atStart => exact ⟨0, 0, none, by omega, by omega, by omega, rfl, rfl, Below.refl _ _, Lib.hid (World.ownsRow_nil _ _ _ _)⟩
  case round =>
    obtain ⟨k, c3, A3, hk, hc3, hmx3, rfl, rfl, hb, Hown⟩ := hrel
    by_cases hlt : k < n
    · have hlt' : (k : Int) < (n : Int) := by omega
      obtain ⟨O, hO⟩ : ∃ O, O = stb (szK L) (List.range k) := ⟨_, rfl⟩
      have hol : O.length = k := by rw [hO, stb_len, List.length_range]
      have hom : ∀ y ∈ O, y < k := fun y hy => by rw [hO] at hy; exact List.mem_range.1 ((stb_mem (szK L) _).1 hy)
      rw [← hO] at Hown
      have hrd : RdN wr wr.heap.size A3 k c3 O := RdR.own (ls := ivR O) Hown.out (by unfold ivR; rw [List.length_map]; exact hol) (iv_row O)
      have HO := Lib.hid hO
      have Hol := Lib.hid hol
      have Hom := Lib.hid hom
      have Hrd := Lib.hid hrd
      have hP : RdP wr wr.heap.size A n c L := RdR.more (RdR.up h hb) hb.size
      have HP := Lib.hid hP
      obtain ⟨w1, hw1⟩ : ∃ w1, w1 = wr := ⟨_, rfl⟩
      subst hw1
      clear hO hol hom hrd hP
      go_wp2_with fail
      go_loopw [5] (fun t wr => ∃ (q : Nat) (p s : List Nat), q ≤ k ∧ t = .int .i64 q ∧ Hid (p.length = q) ∧ Hid (O = p ++ s ∧ ∀ y ∈ s, szK L y < szK L k) ∧ Below w1.heap.size w1 wr) (fun t _ => (intOf t).toNat)
      case atStart => exact ⟨k, O, [], by omega, rfl, Hol, Lib.hid ⟨by simp, by simp⟩, Below.refl _ _⟩
      case round =>
        obtain ⟨q, p, s, hq, rfl, Hp, Hs, hS⟩ := hrel
        by_cases hq0 : q = 0
        · have hst := stb_at (szK L) (by rw [← HO.out]; exact Hs.out.1) Hs.out.2 (.inl (List.eq_nil_of_length_eq_zero (by rw [Hp.out, hq0])))
          have Hst := Lib.hid hst
          have hdt : decide ((0 : Int) < (q : Int)) = false := decide_eq_false (by omega)
          have hdt2 : decide (0 < q) = false := decide_eq_false (by omega)
          clear hst hq0
          go_wp2_with fail
          refine Ord.region_ (fun w' => Below w1.heap.size w1 w') false [] (by kernel_rfl) (by kernel_rfl) hS.drew ?_
          replace hS := hS.drew
          generalize wr.drew = wd at *
          ((with_reducible refine Ord.e_p (v := ?_) ?_ ?_ ?_ ?_); rotate_left; (· exact rfl); (· kernel_rfl); (· intro w2; go_simp; try with_reducible rfl))
          (try simp only [Act.put, List.setIfInBounds_toArray, List.set_cons_zero, List.set_cons_succ])
          ((with_reducible refine Ord.e_p (v := ?_) ?_ ?_ ?_ ?_); rotate_left; (· exact rfl); (· kernel_rfl); (· intro w2; go_simp; try with_reducible rfl))
          (try simp only [Act.put, List.setIfInBounds_toArray, List.set_cons_zero, List.set_cons_succ])
          ((with_reducible refine Ord.e_p (v := ?_) ?_ ?_ ?_ ?_); rotate_left; (· exact rfl); (· kernel_rfl); (· intro w2; go_simp; try with_reducible rfl))
          (try simp only [Act.put, List.setIfInBounds_toArray, List.set_cons_zero, List.set_cons_succ])
          ((with_reducible refine Ord.e_u ?_ ?_); (· kernel_rfl))
          (try simp only [Act.put, List.setIfInBounds_toArray, List.set_cons_zero, List.set_cons_succ])
          ((with_reducible refine Ord.e_u ?_ ?_); (· kernel_rfl))
          (try simp only [Act.put, List.setIfInBounds_toArray, List.set_cons_zero, List.set_cons_succ])
          ((with_reducible refine Ord.e_u ?_ ?_); (· kernel_rfl))
          (try simp only [Act.put, List.setIfInBounds_toArray, List.set_cons_zero, List.set_cons_succ])
          ((with_reducible refine Ord.e_u ?_ ?_); (· kernel_rfl))
          (try simp only [Act.put, List.setIfInBounds_toArray, List.set_cons_zero, List.set_cons_succ])
          ((with_reducible refine Ord.e_u ?_ ?_); (· kernel_rfl))
          (try simp only [Act.put, List.setIfInBounds_toArray, List.set_cons_zero, List.set_cons_succ])
          ((with_reducible refine Ord.e_u ?_ ?_); (· kernel_rfl))
          (try simp only [Act.put, List.setIfInBounds_toArray, List.set_cons_zero, List.set_cons_succ])
          ((with_reducible refine Ord.e_u ?_ ?_); (· kernel_rfl))
          (try simp only [Act.put, List.setIfInBounds_toArray, List.set_cons_zero, List.set_cons_succ])
          ((with_reducible refine Ord.e_u ?_ ?_); (· kernel_rfl))
          (try simp only [Act.put, List.setIfInBounds_toArray, List.set_cons_zero, List.set_cons_succ])
          ((with_reducible refine Ord.e_u ?_ ?_); (· kernel_rfl))
          (try simp only [Act.put, List.setIfInBounds_toArray, List.set_cons_zero, List.set_cons_succ])
          ((with_reducible refine Ord.e_u ?_ ?_); (· kernel_rfl))
          (try simp only [Act.put, List.setIfInBounds_toArray, List.set_cons_zero, List.set_cons_succ])
          ((with_reducible refine Ord.e_u ?_ ?_); (· kernel_rfl))
          (try simp only [Act.put, List.setIfInBounds_toArray, List.set_cons_zero, List.set_cons_succ])
          ((with_reducible refine Ord.e_u ?_ ?_); (· kernel_rfl))
          (try simp only [Act.put, List.setIfInBounds_toArray, List.set_cons_zero, List.set_cons_succ])
          ((with_reducible refine Ord.e_u ?_ ?_); (· kernel_rfl))
          (try simp only [Act.put, List.setIfInBounds_toArray, List.set_cons_zero, List.set_cons_succ])
          ((with_reducible refine Ord.e_u ?_ ?_); (· kernel_rfl))
          (try simp only [Act.put, List.setIfInBounds_toArray, List.set_cons_zero, List.set_cons_succ])
          ((with_reducible refine Ord.e_u ?_ ?_); (· kernel_rfl))
          (try simp only [Act.put, List.setIfInBounds_toArray, List.set_cons_zero, List.set_cons_succ])
          ((with_reducible refine Ord.e_p (v := ?_) ?_ ?_ ?_ ?_); rotate_left; (· exact rfl); (· kernel_rfl); (· intro w2; go_simp; try with_reducible rfl))
          (try simp only [Act.put, List.setIfInBounds_toArray, List.set_cons_zero, List.set_cons_succ])
          refine Ord.e_nil ?_
          clear hdt hdt2
          have own3 := own_up Hown.out hS (Nat.le_refl _)
          have hbd := bnx hb hS
          have hrd3 : Rd wd wd.heap.size 1 A3 k c3 (ivR O).flatten := Rd.own own3
          have hps : (ivR p).flatten = ((ivR O).flatten).take (q * 1) := by rw [iv_flat, iv_flat, Hs.out.1, List.map_append, Nat.mul_one, ← Hp.out, ← List.length_map (f := fun k : Nat => Value.int .i64 (k : Int)), List.take_left]
          have hss : (ivR s).flatten = ((ivR O).flatten).drop (q * 1) := by rw [iv_flat, iv_flat, Hs.out.1, List.map_append, Nat.mul_one, ← Hp.out, ← List.length_map (f := fun k : Nat => Value.int .i64 (k : Int)), List.drop_left]
          have hdr := hrd3.drop' hq
          have htk := hrd3.take hq
          rw [← hss] at hdr
          rw [← hps] at htk
          have hno := fun (e : A3 = none) => own_none (e ▸ own3)
          have hc1 := fun w => run_cut_l (P := Try.prog) Try.underlying60 Hi1.out.1 Hi1.out.2.2.1 A3 k c3 q hq w
          have hc2 := fun w => run_cut_hm (P := Try.prog) Try.underlying60 Hi1.out.1 A3 k c3 q (by omega) w
          have Hdr := Lib.hid hdr
          have Htk := Lib.hid htk
          have Hno := Lib.hid hno
          have hkq1 : q ≤ k := hq
          clear hno hdr htk hps hss hrd3 own3 hS hb Hown Hrd HP
          go_wp2_with (at_builtin; refine stop_ ?_)
          have hba : Below wd.heap.size wd (wd.alloc (.cells #[] 3)) := (Below.refl _ _).alloc (Nat.le_refl _) _
          have owe := own_empty wd wd.heap.size 3 (Nat.le_refl _) 1
          have hdr2 := (Hdr.out.up hba)
          have hsz2 := hba.size
          generalize (wd.alloc (.cells #[] 3)) = w2 at *
          refine go_ (wpList_appG (base := wd.heap.size) (n := 0) Try.underlying60 Hi1.out rfl (by omega) owe rfl hdr2 rfl (iv_one s) (k := k - q) (by omega) (List.nil_append _) (by unfold maxLen; omega) (by omega) hsz2 ?_)
          intro A5 c5 w5 own5 hgr hob
          have hb5 : Below wd.heap.size wd w5 := Below.grown hba hgr hba.size (fun j hj => (own_blk owe hj).1)
          clear hgr hob owe hdr2 hba Hdr
          go_wp2_with (at_builtin; refine stop_ ?_)
          have hb56 : Below w5.heap.size w5 (w5.alloc (.cells #[.int .i64 (k : Int)] 3)) := (Below.refl _ _).alloc (Nat.le_refl _) _
          have k0 : (w5.alloc (.cells #[.int .i64 (k : Int)] 3)).cell? ⟨w5.heap.size, 0, none⟩ = some (.int .i64 (k : Int)) := blk_cell (heap_alloc_new w5 _) rfl
          have hb6 := bnx hb5 hb56
          have hsw6 : w.heap.size ≤ (w5.alloc (.cells #[.int .i64 (k : Int)] 3)).heap.size := Nat.le_trans hbd.size hb6.size
          have own6 := own_up own5 hb56 (Nat.le_refl _)
          have htk6 := Htk.out.up hb6
          generalize (w5.alloc (.cells #[.int .i64 (k : Int)] 3)) = w6 at *
          refine go_ (wpList_append_grows w6 rfl _ _ _ rfl 3 i1 (.int .i64 0) 1 8 Try.underlying60 Hi1.out.1 Hi1.out.2.1 Hi1.out.2.2.1 Hi1.out.2.2.2 rfl (by omega) A3 q q (ivR p).flatten rfl (fun e => by have := (Hno.out e).1; omega) htk6.len (fun b hb j u hj => by
            have hq1 : 0 < q := by
              rcases Nat.eq_zero_or_pos q with h0 | h0
              · have h1 := htk6.len
                rw [h0] at h1
                have h2 : (ivR p).flatten = [] := List.eq_nil_of_length_eq_zero (by rw [h1])
                rw [h2] at hj
                simp at hj
              · exact h0
            obtain ⟨ad, e, _, hc⟩ := htk6.at_ hq1
            rw [hb] at e
            injection e with e
            subst e
            exact hc j u hj) ⟨w5.heap.size, 0, none⟩ 1 1 [.int .i64 (k : Int)] rfl rfl (fun j u hj => by
            cases j with
            | zero => injection hj with hj; subst hj; simpa [Addr.add] using k0
            | succ j => simp at hj) (fun u hu => by rw [List.mem_singleton.1 hu]; rfl) (by omega) (by unfold maxLen; omega) (by omega) ?_)
          intro v7 w7 own7 hgr
          obtain ⟨A7, c7, rfl⟩ := own_sl own7
          have hb67 : Below w6.heap.size w6 w7 := Below.grown (Below.refl _ _) hgr (Nat.le_refl _) (fun j hj => by cases hj)
          have hb7 := bnx hb6 hb67
          have hrd7 := Rd.own (own_up own6 hb67 (Nat.le_refl _))
          clear hgr own5 own6 hb5 hb56 hb6 k0 htk6
          go_wp2_with (at_builtin; refine stop_ ?_)
          refine go_ (wpList_appG (base := w6.heap.size) (n := q + 1) Try.underlying60 Hi1.out rfl (by omega) own7 rfl hrd7 rfl (iv_one s) (k := k + 1) (by omega) (ys := (ivR (stb (szK L) (List.range (k + 1)))).flatten) (by rw [List.range_succ, Hst.out]; simp [ivR]) (by unfold maxLen; omega) (by omega) hb67.size ?_)
          intro A8 c8 w8 own8 hgr hob
          have hb78 : Below w6.heap.size w6 w8 := Below.grown hb67 hgr hb67.size (fun j hj => (own_blk own7 hj).1)
          have hb8 : Below w.heap.size w w8 := Below.grown (bnx hbd hb7) hgr (bnx hbd hb7).size (fun j hj => Nat.le_trans hsw6 (own_blk own7 hj).1)
          have hrd8 := Rd.own own8
          have hle8 := hrd8.le
          have hmx8 := hrd8.max
          unfold maxLen at hmx8
          have Hown8 := Lib.hid (own_mono own8 (base' := w.heap.size) hsw6)
          clear hgr hob own7 hrd7 own8 hrd8 hb78 hb67 hb7 hbd Htk Hno Hst Hs Hp
          go_wp2
          go_roundw
          case rel => exact ⟨k + 1, c8, A8, by omega, hle8, hmx8, by go_num, rfl, hb8, Hown8⟩
          case measure => simp [intOf]; omega
        · obtain ⟨j, hj⟩ : ∃ j, q = j + 1 := ⟨q - 1, by omega⟩
          have Hj := Lib.hid hj
          obtain ⟨y, hy⟩ : ∃ y, p[j]? = some y := ⟨_, List.getElem?_eq_getElem (by rw [Hp.out]; omega)⟩
          have hpy : p = p.take j ++ [y] := by
            have := take_succ hy
            rwa [List.take_of_length_le (by rw [Hp.out]; omega)] at this
          have hyO : O[j]? = some y := by rw [Hs.out.1, List.getElem?_append_left (by rw [Hp.out]; omega)]; exact hy
          have hyk : y < k := Hom.out y (List.mem_of_getElem? hyO)
          obtain ⟨p', hp'⟩ : ∃ p', p' = p.take j := ⟨_, rfl⟩
          rw [← hp'] at hpy
          have hpl' : p'.length = j := by have := Hp.out; rw [hpy, List.length_append] at this; simp at this; omega
          have hjk : j < k := by omega
          obtain ⟨g3, o3, y', rfl, hg3, hy', hc3y⟩ := RdN.at_ Hrd.out hjk
          obtain rfl : y = y' := by rw [hyO] at hy'; injection hy'
          obtain ⟨g, off, X, rfl, hg, hX, hrX⟩ := RdP.at_ HP.out hlt
          obtain ⟨g', off', Y, hgg, hg', hY, hrY⟩ := RdP.at_ HP.out (show y < n by omega)
          injection hgg with hgg
          injection hgg with e1 e2 _
          subst e1
          subst e2
          have Hro := Lib.hid (show ∀ w', Below w1.heap.size w1 w' → w'.cell? ⟨g3, o3 + j, none⟩ = some (.int .i64 (y : Int)) from fun w' hb' => (hb'.cell (p := ⟨g3, o3 + j, none⟩) hg3).trans hc3y)
          have Hrx := Lib.hid (show ∀ w', Below w1.heap.size w1 w' → w'.cell? ⟨g, off + k * 4 + 1, none⟩ = some (.int .i64 (szK L k)) from fun w' hb' => (hb'.cell (p := ⟨g, off + k * 4 + 1, none⟩) hg).trans (by rw [szK_at hX]; exact hrX 1 _ rfl))
          have Hry := Lib.hid (show ∀ w', Below w1.heap.size w1 w' → w'.cell? ⟨g, off + y * 4 + 1, none⟩ = some (.int .i64 (szK L y)) from fun w' hb' => (hb'.cell (p := ⟨g, off + y * 4 + 1, none⟩) hg).trans (by rw [szK_at hY]; exact hrY 1 _ rfl))
          have Hpp := Lib.hid (And.intro hpy hpl')
          have hqn : (q : Int) < (n : Int) + 1 := by omega
          have hjk' : (j : Int) < (k : Int) := by omega
          have hyn : (y : Int) < (n : Int) := by omega
          have hyn2 : y < n := by omega
          have hdt : decide ((0 : Int) < (q : Int)) = true := decide_eq_true (by omega)
          have hdt2 : decide (0 < q) = true := decide_eq_true (by omega)
          have hw0 : IntKind.i64.wrap ((q : Int) - 1) = (j : Int) := by have := Hj.out; rw [IntWalk.i64_in _ (by omega)]; omega
          obtain ⟨zx, hzx⟩ : ∃ z, z = szK L k := ⟨_, rfl⟩
          obtain ⟨zy, hzy⟩ : ∃ z, z = szK L y := ⟨_, rfl⟩
          rw [← hzx] at Hrx
          rw [← hzy] at Hry
          have Hz := Lib.hid (And.intro hzx hzy)
          clear hj hy hpy hyO hp' hpl' hy' hc3y hX hY hrX hrY hg' hg hg3 hq0 hzx hzy
          go_wp2_with fail
          refine Ord.region_ (fun w' => Below w1.heap.size w1 w') false [] (by kernel_rfl) (by kernel_rfl) hS.drew ?_
          replace hS := hS.drew
          generalize wr.drew = wd at *
          ((with_reducible refine Ord.e_p (v := ?_) ?_ ?_ ?_ ?_); rotate_left; (· exact rfl); (· kernel_rfl); (· intro w2; go_simp; try with_reducible rfl))
          (try simp only [Act.put, List.setIfInBounds_toArray, List.set_cons_zero, List.set_cons_succ])
          ((with_reducible refine Ord.e_p (v := ?_) ?_ ?_ ?_ ?_); rotate_left; (· exact rfl); (· kernel_rfl); (· intro w2; go_simp; try with_reducible rfl))
          (try simp only [Act.put, List.setIfInBounds_toArray, List.set_cons_zero, List.set_cons_succ])
          ((with_reducible refine Ord.e_p (v := ?_) ?_ ?_ ?_ ?_); rotate_left; (· exact rfl); (· kernel_rfl); (· intro w2; go_simp; try with_reducible rfl))
          (try simp only [Act.put, List.setIfInBounds_toArray, List.set_cons_zero, List.set_cons_succ])
          ((with_reducible refine Ord.e_p (v := ?_) ?_ ?_ ?_ ?_); rotate_left; (· exact rfl); (· kernel_rfl); (· intro w2; go_simp; try with_reducible rfl))
          (try simp only [Act.put, List.setIfInBounds_toArray, List.set_cons_zero, List.set_cons_succ])
          ((with_reducible refine Ord.e_p (v := ?_) ?_ ?_ ?_ ?_); rotate_left; (· exact rfl); (· kernel_rfl); (· intro w2; go_simp; try with_reducible rfl))
          (try simp only [Act.put, List.setIfInBounds_toArray, List.set_cons_zero, List.set_cons_succ])
          ((with_reducible refine Ord.e_p (v := ?_) ?_ ?_ ?_ ?_); rotate_left; (· exact rfl); (· kernel_rfl); (· intro w2; go_simp; try with_reducible rfl))
          (try simp only [Act.put, List.setIfInBounds_toArray, List.set_cons_zero, List.set_cons_succ])
          refine Ord.e_p (v := .int .i64 (j : Int)) rfl (by kernel_rfl) (fun w2 => by go_simp) ?_
          (try simp only [Act.put, List.setIfInBounds_toArray, List.set_cons_zero, List.set_cons_succ])
          ((with_reducible refine Ord.e_p (v := ?_) ?_ ?_ ?_ ?_); rotate_left; (· exact rfl); (· kernel_rfl); (· intro w2; go_simp; try with_reducible rfl))
          (try simp only [Act.put, List.setIfInBounds_toArray, List.set_cons_zero, List.set_cons_succ])
          refine Ord.e_loadS (ad := ⟨g3, o3 + j, none⟩) Try.underlying3 rfl (fun w' hS => Hro.out w' hS) hS rfl (by kernel_rfl) ?_
          (try simp only [Act.put, List.setIfInBounds_toArray, List.set_cons_zero, List.set_cons_succ])
          ((with_reducible refine Ord.e_p (v := ?_) ?_ ?_ ?_ ?_); rotate_left; (· exact rfl); (· kernel_rfl); (· intro w2; go_simp; try with_reducible rfl))
          (try simp only [Act.put, List.setIfInBounds_toArray, List.set_cons_zero, List.set_cons_succ])
          ((with_reducible refine Ord.e_p (v := ?_) ?_ ?_ ?_ ?_); rotate_left; (· exact rfl); (· kernel_rfl); (· intro w2; go_simp; try with_reducible rfl))
          (try simp only [Act.put, List.setIfInBounds_toArray, List.set_cons_zero, List.set_cons_succ])
          refine Ord.e_loadS (ad := ⟨g, off + y * 4 + 1, none⟩) Try.underlying3 rfl (fun w' hS => Hry.out w' hS) hS rfl (by kernel_rfl) ?_
          (try simp only [Act.put, List.setIfInBounds_toArray, List.set_cons_zero, List.set_cons_succ])
          ((with_reducible refine Ord.e_p (v := ?_) ?_ ?_ ?_ ?_); rotate_left; (· exact rfl); (· kernel_rfl); (· intro w2; go_simp; try with_reducible rfl))
          (try simp only [Act.put, List.setIfInBounds_toArray, List.set_cons_zero, List.set_cons_succ])
          ((with_reducible refine Ord.e_p (v := ?_) ?_ ?_ ?_ ?_); rotate_left; (· exact rfl); (· kernel_rfl); (· intro w2; go_simp; try with_reducible rfl))
          (try simp only [Act.put, List.setIfInBounds_toArray, List.set_cons_zero, List.set_cons_succ])
          ((with_reducible refine Ord.e_p (v := ?_) ?_ ?_ ?_ ?_); rotate_left; (· exact rfl); (· kernel_rfl); (· intro w2; go_simp; try with_reducible rfl))
          (try simp only [Act.put, List.setIfInBounds_toArray, List.set_cons_zero, List.set_cons_succ])
          ((with_reducible refine Ord.e_p (v := ?_) ?_ ?_ ?_ ?_); rotate_left; (· exact rfl); (· kernel_rfl); (· intro w2; go_simp; try with_reducible rfl))
          (try simp only [Act.put, List.setIfInBounds_toArray, List.set_cons_zero, List.set_cons_succ])
          refine Ord.e_loadS (ad := ⟨g, off + k * 4 + 1, none⟩) Try.underlying3 rfl (fun w' hS => Hrx.out w' hS) hS rfl (by kernel_rfl) ?_
          (try simp only [Act.put, List.setIfInBounds_toArray, List.set_cons_zero, List.set_cons_succ])
          by_cases hyx : zy < zx
          · refine Ord.e_p (v := .bool true) rfl (by kernel_rfl) (fun w2 => by go_simp) ?_
            (try simp only [Act.put, List.setIfInBounds_toArray, List.set_cons_zero, List.set_cons_succ])
            ((with_reducible refine Ord.e_p (v := ?_) ?_ ?_ ?_ ?_); rotate_left; (· exact rfl); (· kernel_rfl); (· intro w2; go_simp; try with_reducible rfl))
            (try simp only [Act.put, List.setIfInBounds_toArray, List.set_cons_zero, List.set_cons_succ])
            refine Ord.e_nil ?_
            have Hs2 := Lib.hid (show O = p' ++ (y :: s) ∧ ∀ z ∈ (y :: s), szK L z < szK L k from ⟨by rw [Hs.out.1, Hpp.out.1]; simp, fun z hz => by
              rcases List.mem_cons.1 hz with rfl | hz
              · rw [← Hz.out.1, ← Hz.out.2]; exact hyx
              · exact Hs.out.2 z hz⟩)
            go_wp2
            go_roundw
            case rel => exact ⟨j, p', y :: s, by have := Hj.out; omega, by go_num, Lib.hid Hpp.out.2, Hs2, hS⟩
            case measure => simp [intOf]; have := Hj.out; omega
          · refine Ord.e_p (v := .bool false) rfl (by kernel_rfl) (fun w2 => by go_simp) ?_
            (try simp only [Act.put, List.setIfInBounds_toArray, List.set_cons_zero, List.set_cons_succ])
            ((with_reducible refine Ord.e_p (v := ?_) ?_ ?_ ?_ ?_); rotate_left; (· exact rfl); (· kernel_rfl); (· intro w2; go_simp; try with_reducible rfl))
            (try simp only [Act.put, List.setIfInBounds_toArray, List.set_cons_zero, List.set_cons_succ])
            refine Ord.e_nil ?_
            have hst := stb_at (szK L) (by rw [← HO.out]; exact Hs.out.1) Hs.out.2 (.inr ⟨p', y, Hpp.out.1, by rw [← Hz.out.1, ← Hz.out.2]; exact hyx⟩)
            have Hst := Lib.hid hst
            obtain ⟨A3, hA3⟩ : ∃ A3 : Option Addr, A3 = some ⟨g3, o3, none⟩ := ⟨_, rfl⟩
            rw [← hA3] at Hrd Hown ⊢
            clear hst hw0 hdt hdt2 hyx Hro Hrx Hry hA3 hyn hyn2 hjk hjk' hyk hqn
            have own3 := own_up Hown.out hS (Nat.le_refl _)
            have hbd := bnx hb hS
            have hrd3 : Rd wd wd.heap.size 1 A3 k c3 (ivR O).flatten := Rd.own own3
            have hps : (ivR p).flatten = ((ivR O).flatten).take (q * 1) := by rw [iv_flat, iv_flat, Hs.out.1, List.map_append, Nat.mul_one, ← Hp.out, ← List.length_map (f := fun k : Nat => Value.int .i64 (k : Int)), List.take_left]
            have hss : (ivR s).flatten = ((ivR O).flatten).drop (q * 1) := by rw [iv_flat, iv_flat, Hs.out.1, List.map_append, Nat.mul_one, ← Hp.out, ← List.length_map (f := fun k : Nat => Value.int .i64 (k : Int)), List.drop_left]
            have hdr := hrd3.drop' hq
            have htk := hrd3.take hq
            rw [← hss] at hdr
            rw [← hps] at htk
            have hno := fun (e : A3 = none) => own_none (e ▸ own3)
            have hc1 := fun w => run_cut_l (P := Try.prog) Try.underlying60 Hi1.out.1 Hi1.out.2.2.1 A3 k c3 q hq w
            have hc2 := fun w => run_cut_hm (P := Try.prog) Try.underlying60 Hi1.out.1 A3 k c3 q (by omega) w
            have Hdr := Lib.hid hdr
            have Htk := Lib.hid htk
            have Hno := Lib.hid hno
            have hkq1 : q ≤ k := hq
            clear hno hdr htk hps hss hrd3 own3 hS hb Hown Hrd HP
            go_wp2_with (at_builtin; refine stop_ ?_)
            have hba : Below wd.heap.size wd (wd.alloc (.cells #[] 3)) := (Below.refl _ _).alloc (Nat.le_refl _) _
            have owe := own_empty wd wd.heap.size 3 (Nat.le_refl _) 1
            have hdr2 := (Hdr.out.up hba)
            have hsz2 := hba.size
            generalize (wd.alloc (.cells #[] 3)) = w2 at *
            refine go_ (wpList_appG (base := wd.heap.size) (n := 0) Try.underlying60 Hi1.out rfl (by omega) owe rfl hdr2 rfl (iv_one s) (k := k - q) (by omega) (List.nil_append _) (by unfold maxLen; omega) (by omega) hsz2 ?_)
            intro A5 c5 w5 own5 hgr hob
            have hb5 : Below wd.heap.size wd w5 := Below.grown hba hgr hba.size (fun j hj => (own_blk owe hj).1)
            clear hgr hob owe hdr2 hba Hdr
            go_wp2_with (at_builtin; refine stop_ ?_)
            have hb56 : Below w5.heap.size w5 (w5.alloc (.cells #[.int .i64 (k : Int)] 3)) := (Below.refl _ _).alloc (Nat.le_refl _) _
            have k0 : (w5.alloc (.cells #[.int .i64 (k : Int)] 3)).cell? ⟨w5.heap.size, 0, none⟩ = some (.int .i64 (k : Int)) := blk_cell (heap_alloc_new w5 _) rfl
            have hb6 := bnx hb5 hb56
            have hsw6 : w.heap.size ≤ (w5.alloc (.cells #[.int .i64 (k : Int)] 3)).heap.size := Nat.le_trans hbd.size hb6.size
            have own6 := own_up own5 hb56 (Nat.le_refl _)
            have htk6 := Htk.out.up hb6
            generalize (w5.alloc (.cells #[.int .i64 (k : Int)] 3)) = w6 at *
            refine go_ (wpList_append_grows w6 rfl _ _ _ rfl 3 i1 (.int .i64 0) 1 8 Try.underlying60 Hi1.out.1 Hi1.out.2.1 Hi1.out.2.2.1 Hi1.out.2.2.2 rfl (by omega) A3 q q (ivR p).flatten rfl (fun e => by have := (Hno.out e).1; omega) htk6.len (fun b hb j u hj => by
              have hq1 : 0 < q := by
                rcases Nat.eq_zero_or_pos q with h0 | h0
                · have h1 := htk6.len
                  rw [h0] at h1
                  have h2 : (ivR p).flatten = [] := List.eq_nil_of_length_eq_zero (by rw [h1])
                  rw [h2] at hj
                  simp at hj
                · exact h0
              obtain ⟨ad, e, _, hc⟩ := htk6.at_ hq1
              rw [hb] at e
              injection e with e
              subst e
              exact hc j u hj) ⟨w5.heap.size, 0, none⟩ 1 1 [.int .i64 (k : Int)] rfl rfl (fun j u hj => by
              cases j with
              | zero => injection hj with hj; subst hj; simpa [Addr.add] using k0
              | succ j => simp at hj) (fun u hu => by rw [List.mem_singleton.1 hu]; rfl) (by omega) (by unfold maxLen; omega) (by omega) ?_)
            intro v7 w7 own7 hgr
            obtain ⟨A7, c7, rfl⟩ := own_sl own7
            have hb67 : Below w6.heap.size w6 w7 := Below.grown (Below.refl _ _) hgr (Nat.le_refl _) (fun j hj => by cases hj)
            have hb7 := bnx hb6 hb67
            have hrd7 := Rd.own (own_up own6 hb67 (Nat.le_refl _))
            clear hgr own5 own6 hb5 hb56 hb6 k0 htk6
            go_wp2_with (at_builtin; refine stop_ ?_)
            refine go_ (wpList_appG (base := w6.heap.size) (n := q + 1) Try.underlying60 Hi1.out rfl (by omega) own7 rfl hrd7 rfl (iv_one s) (k := k + 1) (by omega) (ys := (ivR (stb (szK L) (List.range (k + 1)))).flatten) (by rw [List.range_succ, Hst.out]; simp [ivR]) (by unfold maxLen; omega) (by omega) hb67.size ?_)
            intro A8 c8 w8 own8 hgr hob
            have hb78 : Below w6.heap.size w6 w8 := Below.grown hb67 hgr hb67.size (fun j hj => (own_blk own7 hj).1)
            have hb8 : Below w.heap.size w w8 := Below.grown (bnx hbd hb7) hgr (bnx hbd hb7).size (fun j hj => Nat.le_trans hsw6 (own_blk own7 hj).1)
            have hrd8 := Rd.own own8
            have hle8 := hrd8.le
            have hmx8 := hrd8.max
            unfold maxLen at hmx8
            have Hown8 := Lib.hid (own_mono own8 (base' := w.heap.size) hsw6)
            clear hgr hob own7 hrd7 own8 hrd8 hb78 hb67 hb7 hbd Htk Hno Hst Hs Hp
            go_wp2
            go_roundw
            case rel => exact ⟨k + 1, c8, A8, by omega, hle8, hmx8, by go_num, rfl, hb8, Hown8⟩
            case measure => simp [intOf]; omega
    · obtain rfl : k = n := by omega
      have hst : stb (szK L) (List.range k) = ordS L := by unfold ordS; rw [Hll.out]
      rw [hst] at Hown
      have hrp : RdN wr wr.heap.size A3 k c3 (ordS L) := RdR.own (ls := ivR (ordS L)) Hown.out (by unfold ivR; rw [List.length_map, ord_len]; exact Hll.out) (iv_row _)
      have hown := Hown.out
      clear Hown hst
      go_wp2
      go_ret
      exact ⟨A3, c3, rfl, hrp, hown, hb⟩
theorem order31_any (A : Option Addr) (n c : Nat) (L : List PtT) (w : World) (h : RdP w w.heap.size A n c L) (hn : n ≤ 1000) :
    Calls Try.prog 48 #[.slice A n c] w fun e w' => ∃ (A' : Option Addr) (c' : Nat), e = .returned (.slice A' n c') ∧ RdN w' w'.heap.size A' n c' (ordS L) ∧ Below w.heap.size w w' :=
  (order31_own A n c L w h hn).mono fun e w' ⟨A', c', h1, h2, _, h4⟩ => ⟨A', c', h1, h2, h4⟩

end Go.Proofs.Ytonejdjhdjckjaa

/-
  the document's Wire, numbers, Count, Width walked (printed by gen_sch6.py).
-/
set_option linter.unusedSimpArgs false
set_option linter.unusedVariables false
namespace Go.Proofs.Ytonejdjhdjckjaa
open Go.RowKit NumLaw
attribute [local go_sem] Addr.add_mid
attribute [-go_sem] run_eql_struct run_neq_struct

set_option maxRecDepth 10000 in
set_option maxHeartbeats 4000000 in
theorem qwire31_any (A : Option Addr) (n c : Nat) (L : List PtT) (w : World) (h : RdP w w.heap.size A n c L) (hn : n ≤ 1000) :
    Calls Try.prog 19 #[.slice A n c] w fun e w' => ∃ (A' : Option Addr) (c' : Nat), e = .returned (.slice A' n c') ∧ RdP w' w'.heap.size A' n c' (stb PtT.sz L) ∧ Below w.heap.size w w' := by
  have hmx := h.2.2.2.1
  have hle := h.2.2.1
  unfold maxLen at hmx
  obtain ⟨i1, hi1⟩ := info_parts pt_info
  have Hi1 := Lib.hid hi1
  have Hll := Lib.hid h.len
  have Hon := Lib.hid (ord_len L)
  have Hom := Lib.hid (ord_mem L)
  have How := Lib.hid (ord_wire L)
  have Hor := Lib.hid (fun w => order31_any A n c L w)
  generalize ordS L = O at *
  clear hi1
  go_enter Try.func19, Try.ntmps19
  go_wp2_with fail
  go_fit (Hor.out w h hn)
  rintro e w1 ⟨A1, c1, rfl, hO, hb1⟩
  have h1 : RdP w1 w1.heap.size A n c L := RdR.more (RdR.up h hb1) hb1.size
  have hmxO := hO.2.2.2.1
  have hleO := hO.2.2.1
  unfold maxLen at hmxO
  clear h Hor
  go_wp2_with fail
  go_loopw [3, 5] (fun o i wr => ∃ (k c3 : Nat) (A3 : Option Addr), k ≤ n ∧ i = .int .i64 k ∧ o = .slice A3 k c3 ∧ Below w1.heap.size w1 wr ∧ wr.ownsRow w1.heap.size 28 4 (.slice A3 k c3) k (((O.take k).map fun j => L.getD j ptD).map ptC).flatten) (fun _ i _ => n - (intOf i).toNat)
  case atStart => exact ⟨0, 0, none, by omega, rfl, rfl, Below.refl _ _, World.ownsRow_nil _ _ _ _⟩
  case round =>
    obtain ⟨k, c3, A3, hk, rfl, rfl, hb, own3⟩ := hrel
    by_cases hlt : k < n
    · have hlt' : (k : Int) < (n : Int) := by omega
      obtain ⟨ga, oa, y, rfl, hga, hy, hya⟩ := RdN.at_ hO hlt
      have hyn0 : y < L.length := Hom.out y (List.mem_of_getElem? hy)
      have hyn : y < n := by have := Hll.out; omega
      obtain ⟨g, off, x, rfl, hg, hx, hr⟩ := RdP.at_ h1 hyn
      have kO := (hb.cell (p := ⟨ga, oa + k, none⟩) hga).trans hya
      have k0 := (hb.cell (p := ⟨g, off + y * 4 + 0, none⟩) hg).trans (hr 0 _ rfl)
      have k1 := (hb.cell (p := ⟨g, off + y * 4 + 1, none⟩) hg).trans (hr 1 _ rfl)
      have k2 := (hb.cell (p := ⟨g, off + y * 4 + 2, none⟩) hg).trans (hr 2 _ rfl)
      have k3 := (hb.cell (p := ⟨g, off + y * 4 + 3, none⟩) hg).trans (hr 3 _ rfl)
      rw [Nat.add_zero] at k0
      have hts : (O.take (k + 1)).map (fun j => L.getD j ptD) = (O.take k).map (fun j => L.getD j ptD) ++ [x] := by
        rw [take_succ hy, List.map_append]
        simp [List.getD_eq_getElem?_getD, hx]
      obtain ⟨s, z1, g1, m1⟩ := x
      dsimp only at k0 k1 k2 k3
      have hyn' : (y : Int) < (n : Int) := by omega
      have hbn : Below wr.heap.size wr (wr.alloc (.cells #[.string s, .int .i64 z1, .bool g1, .int .i64 m1] 28)) := (Below.refl _ _).alloc (Nat.le_refl _) _
      have hrd : Rd _ _ 4 _ 1 1 (ptC ⟨s, z1, g1, m1⟩) := RdR.rd (RdR.lit (size := 4) (e := 28) wr [ptC ⟨s, z1, g1, m1⟩] #[.string s, .int .i64 z1, .bool g1, .int .i64 m1] rfl (by intro r hr; rw [List.mem_singleton.1 hr]; rfl) (by simp [maxLen]) 1 rfl) (by omega)
      have hb4 := bnx hb hbn
      have own4 := own_up own3 hbn (Nat.le_refl _)
      have Hfl := Lib.hid (show (((O.take k).map fun j => L.getD j ptD).map ptC).flatten ++ ptC ⟨s, z1, g1, m1⟩ = (((O.take (k + 1)).map fun j => L.getD j ptD).map ptC).flatten by rw [hts]; exact pt_flat _ _)
      clear hb own3 hbn hr hx hy hya hts hyn0
      go_wp2_with (at_builtin; refine stop_ ?_)
      generalize (wr.alloc (.cells #[.string s, .int .i64 z1, .bool g1, .int .i64 m1] 28)) = w4 at *
      refine go_ (wpList_appG (base := w1.heap.size) (n := k) Try.underlying22 Hi1.out rfl (by omega) own4 rfl hrd rfl (ptC_one _) (k := k + 1) rfl Hfl.out (by unfold maxLen; omega) (by omega) hb4.size ?_)
      clear k0 k1 k2 k3 kO
      intro A5 c5 w5 own5 hgr hob
      have hb5 := Below.grown hb4 hgr hb4.size (fun j hj => (own_blk own4 hj).1)
      clear hgr hob own4 hrd hb4
      go_wp2
      go_roundw
      case rel => exact ⟨k + 1, c5, A5, by omega, by go_num, rfl, hb5, own5⟩
      case measure => simp [intOf]; omega
    · obtain rfl : k = n := by omega
      have htk : ((O.take k).map fun j => L.getD j ptD) = stb PtT.sz L := by rw [List.take_of_length_le (by rw [Hon.out, Hll.out]; exact Nat.le_refl _), How.out]
      rw [htk] at own3
      have hrp := RdP.own own3 (by rw [stb_len, Hll.out])
      have hbf := bnx hb1 hb
      clear own3 htk hO
      go_wp2
      go_ret
      exact ⟨A3, c3, rfl, hrp, hbf⟩
theorem qnumbers_any (p : PtT) (w : World) : Calls Try.prog 51 #[.agg (ptC p).toArray] w fun e w' => e = .returned (.int .i64 (mx1 p.mn : Int)) ∧ Below w.heap.size w w' := by
  obtain ⟨s, z, g, m⟩ := p
  have hb := (Below.refl w.heap.size w).alloc (Nat.le_refl _) (.cells #[.string s, .int .i64 z, .bool g, .int .i64 m] 28)
  have a0 := heap_alloc_new w (.cells #[.string s, .int .i64 z, .bool g, .int .i64 m] 28)
  have k0 := blk_cell (i := 3) (v := .int .i64 m) a0 rfl
  have hm := mx1_int m
  show Calls _ _ #[.agg #[.string s, .int .i64 z, .bool g, .int .i64 m]] _ _
  have Hm := Lib.hid hm
  clear hm
  by_cases hc : m < 1
  · have hv : (mx1 m : Int) = 1 := by rw [← Hm.out, if_pos (show 1 > m from hc)]
    have Hv := Lib.hid hv
    clear hv
    go_enter Try.func51, Try.ntmps51
    go_wp2
    go_ret
    exact ⟨by show _ = Ending.returned (.int .i64 (mx1 m : Int)); rw [Hv.out]; rfl, hb⟩
  · have hv : (mx1 m : Int) = m := by rw [← Hm.out, if_neg (show ¬ 1 > m from hc)]
    have Hv := Lib.hid hv
    clear hv
    go_enter Try.func51, Try.ntmps51
    go_wp2
    go_ret
    exact ⟨by show _ = Ending.returned (.int .i64 (mx1 m : Int)); rw [Hv.out]; rfl, hb⟩
set_option maxRecDepth 10000 in
set_option maxHeartbeats 4000000 in
theorem qcount_any (id : Int) (w : World) : Calls Try.prog 21 #[.int .i64 id] w fun e w' => e = .returned (.int .i64 (cntS (frm id).2 : Int)) ∧ Below w.heap.size w w' := by
  have hp := qparts_any id w
  have hq := frm_n id
  generalize (frm id).2 = L at *
  have Hp := Lib.hid hp
  have Hq := Lib.hid hq
  have Hbd := Lib.hid (fun k => cnt_bd L hq k)
  have Hsn := Lib.hid (fun (l : List PtT) (p : PtT) => cntS_snoc p l)
  clear hp hq
  go_enter Try.func21, Try.ntmps21
  go_wp2_with fail
  go_fit Hp.out
  rintro e w1 ⟨A, n, c, rfl, h, hb1⟩
  have Hll := Lib.hid h.len
  have hn : n ≤ 100 := by rw [← h.len]; exact Hq.out.2.1
  have hmx := h.2.2.2.1
  have hle := h.2.2.1
  unfold maxLen at hmx
  go_wp2_with fail
  go_loopw [3, 5] (fun a i wr => ∃ k s : Nat, k ≤ n ∧ i = .int .i64 k ∧ a = .int .i64 (s : Int) ∧ Hid (s = cntS (L.take k)) ∧ s ≤ 8000 * 1000 ∧ Below w1.heap.size w1 wr) (fun _ i _ => n - (intOf i).toNat)
  case atStart => exact ⟨0, 0, by omega, rfl, rfl, Lib.hid rfl, by omega, Below.refl _ _⟩
  case round =>
    obtain ⟨k, s, hk, rfl, rfl, Hs, hs8, hb⟩ := hrel
    by_cases hlt : k < n
    · have hlt' : (k : Int) < (n : Int) := by omega
      obtain ⟨g, off, x, rfl, hg, hx, hr⟩ := RdP.at_ h hlt
      have hxL := List.mem_of_getElem? hx
      have hz := Hq.out.1 x hxL
      have hm := Hq.out.2.2 x hxL
      have hfx := fun w => qnumbers_any x w
      have hsm := Hsn.out (L.take k) x
      rw [← take_succ hx, ← Hs.out] at hsm
      have hbd := Hbd.out (k + 1)
      have k0 := (hb.cell (p := ⟨g, off + k * 4 + 0, none⟩) hg).trans (hr 0 _ rfl)
      have k1 := (hb.cell (p := ⟨g, off + k * 4 + 1, none⟩) hg).trans (hr 1 _ rfl)
      have k2 := (hb.cell (p := ⟨g, off + k * 4 + 2, none⟩) hg).trans (hr 2 _ rfl)
      have k3 := (hb.cell (p := ⟨g, off + k * 4 + 3, none⟩) hg).trans (hr 3 _ rfl)
      rw [Nat.add_zero] at k0
      obtain ⟨s1, z1, g1, m1⟩ := x
      dsimp only at k0 k1 k2 k3 hfx hsm
      obtain ⟨d, hd⟩ : ∃ d : Nat, d = mx1 m1 := ⟨_, rfl⟩
      rw [← hd] at hfx hsm
      rw [hsm] at hbd
      have Hsm := Lib.hid hsm.symm
      have hfx2 : ∀ w, Calls Try.prog 51 #[.agg #[.string s1, .int .i64 z1, .bool g1, .int .i64 m1]] w fun e w' => e = .returned (.int .i64 (d : Int)) ∧ Below w.heap.size w w' := hfx
      have Hfx := Lib.hid hfx2
      have hw3 : IntKind.i64.wrap ((s : Int) + (d : Int)) = (s : Int) + (d : Int) := IntWalk.i64_in _ (by omega)
      clear hx hr hfx hfx2 hsm hd hz hm hxL
      go_wp2_with fail
      go_fit (Hfx.out _)
      rintro e w2 ⟨rfl, hbx⟩
      have hb5 := bnx hb hbx
      clear k0 k1 k2 k3 hbx hb
      go_wp2
      go_roundw
      case rel => exact ⟨k + 1, s + d, by omega, by go_num, by go_num, Hsm, by omega, hb5⟩
      case measure => simp [intOf]; omega
    · obtain rfl : k = n := by omega
      have he : s = cntS L := by rw [Hs.out, List.take_of_length_le (by rw [Hll.out]; exact Nat.le_refl _)]
      have He := Lib.hid he
      have hbf := bnx hb1 hb
      clear he
      go_wp2
      go_ret
      exact ⟨by rw [← He.out]; rfl, hbf⟩
set_option maxRecDepth 10000 in
set_option maxHeartbeats 4000000 in
theorem qwidth_any (id : Int) (w : World) : Calls Try.prog 23 #[.int .i64 id] w fun e w' => e = .returned (.int .i64 (wdS (frm id).2 : Int)) ∧ Below w.heap.size w w' := by
  have hp := qparts_any id w
  have hq := frm_n id
  generalize (frm id).2 = L at *
  have Hp := Lib.hid hp
  have Hq := Lib.hid hq
  have Hbd := Lib.hid (fun k => wd_bd L hq k)
  have Hsn := Lib.hid (fun (l : List PtT) (p : PtT) => wdS_snoc p l)
  clear hp hq
  go_enter Try.func23, Try.ntmps23
  go_wp2_with fail
  go_fit Hp.out
  rintro e w1 ⟨A, n, c, rfl, h, hb1⟩
  have Hll := Lib.hid h.len
  have hn : n ≤ 100 := by rw [← h.len]; exact Hq.out.2.1
  have hmx := h.2.2.2.1
  have hle := h.2.2.1
  unfold maxLen at hmx
  go_wp2_with fail
  go_loopw [3, 5] (fun a i wr => ∃ k s : Nat, k ≤ n ∧ i = .int .i64 k ∧ a = .int .i64 (s : Int) ∧ Hid (s = wdS (L.take k)) ∧ s ≤ 8000 * 1000 ∧ Below w1.heap.size w1 wr) (fun _ i _ => n - (intOf i).toNat)
  case atStart => exact ⟨0, 0, by omega, rfl, rfl, Lib.hid rfl, by omega, Below.refl _ _⟩
  case round =>
    obtain ⟨k, s, hk, rfl, rfl, Hs, hs8, hb⟩ := hrel
    by_cases hlt : k < n
    · have hlt' : (k : Int) < (n : Int) := by omega
      obtain ⟨g, off, x, rfl, hg, hx, hr⟩ := RdP.at_ h hlt
      have hxL := List.mem_of_getElem? hx
      have hz := Hq.out.1 x hxL
      have hm := Hq.out.2.2 x hxL
      have hfx := fun w => qnumbers_any x w
      have hsm := Hsn.out (L.take k) x
      rw [← take_succ hx, ← Hs.out] at hsm
      have hbd := Hbd.out (k + 1)
      obtain ⟨s1, z1, g1, m1⟩ := x
      have hz : szQ z1 := hz
      have hm : mx1 m1 ≤ 100 := hm
      dsimp only at hsm
      obtain ⟨zn, hzn⟩ : ∃ zn : Nat, z1 = zn := ⟨z1.toNat, by rcases hz with rfl | rfl | rfl | rfl <;> rfl⟩
      have hz8 : zn ≤ 8 := by rcases hz with h | h | h | h <;> omega
      subst hzn
      rw [show ((zn : Int)).toNat = zn from rfl] at hsm
      obtain ⟨mm, hmm⟩ : ∃ v, v = mx1 m1 := ⟨_, rfl⟩
      have hfx2 : ∀ w, Calls Try.prog 51 #[.agg (ptC ⟨s1, (zn : Int), g1, m1⟩).toArray] w fun e w' => e = .returned (.int .i64 (mm : Int)) ∧ Below w.heap.size w w' := fun w => by rw [hmm]; exact hfx w
      have Hfx := Lib.hid hfx2
      rw [← hmm] at hm hsm
      have hmul : zn * mm ≤ 800 := Nat.le_trans (Nat.mul_le_mul hz8 hm) (by omega)
      rw [hsm] at hbd
      have hww : IntKind.i64.wrap ((zn : Int) * (mm : Int)) = ((zn * mm : Nat) : Int) := by
        rw [← Int.natCast_mul]
        generalize zn * mm = d at *
        exact IntWalk.i64_in _ (by omega)
      obtain ⟨d, hd⟩ : ∃ d : Nat, d = zn * mm := ⟨_, rfl⟩
      rw [← hd] at hsm hmul hww hbd
      have hw3 : IntKind.i64.wrap ((s : Int) + (d : Int)) = (s : Int) + (d : Int) := IntWalk.i64_in _ (by omega)
      have Hww := Lib.hid hww
      have Hw3 := Lib.hid hw3
      have Hsm := Lib.hid hsm.symm
      have Hr := Lib.hid (show ∀ wq, Below w1.heap.size w1 wq → wq.rangeAt g (off + k * 4) (ptC ⟨s1, (zn : Int), g1, m1⟩) from fun wq hbq j v hv => (hbq.cell (p := ⟨g, off + k * 4 + j, none⟩) hg).trans (hr j v hv))
      have Hz1 := Lib.hid (show ∀ wq, Below w1.heap.size w1 wq → wq.cell? ⟨g, off + k * 4 + 1, none⟩ = some (.int .i64 (zn : Int)) from fun wq hbq => Hr.out wq hbq 1 _ rfl)
      have hd8 : s + d ≤ 8000 * 1000 := by omega
      clear hx hr hfx hfx2 hsm hd hmm hww hw3 hz hz8 hm hmul hxL hbd
      go_wp2_with fail
      refine Ord.region_ (fun w' => Below w1.heap.size w1 w') false [] (by kernel_rfl) (by kernel_rfl) hb.drew ?_
      replace hb := hb.drew
      generalize wr.drew = wd at *
      ((with_reducible refine Ord.e_p (v := ?_) ?_ ?_ ?_ ?_); rotate_left; (· exact rfl); (· kernel_rfl); (· intro w2; go_simp; try with_reducible rfl))
      (try simp only [Act.put, List.setIfInBounds_toArray, List.set_cons_zero, List.set_cons_succ])
      ((with_reducible refine Ord.e_p (v := ?_) ?_ ?_ ?_ ?_); rotate_left; (· exact rfl); (· kernel_rfl); (· intro w2; go_simp; try with_reducible rfl))
      (try simp only [Act.put, List.setIfInBounds_toArray, List.set_cons_zero, List.set_cons_succ])
      ((with_reducible refine Ord.e_p (v := ?_) ?_ ?_ ?_ ?_); rotate_left; (· exact rfl); (· kernel_rfl); (· intro w2; go_simp; try with_reducible rfl))
      (try simp only [Act.put, List.setIfInBounds_toArray, List.set_cons_zero, List.set_cons_succ])
      ((with_reducible refine Ord.e_p (v := ?_) ?_ ?_ ?_ ?_); rotate_left; (· exact rfl); (· kernel_rfl); (· intro w2; go_simp; try with_reducible rfl))
      (try simp only [Act.put, List.setIfInBounds_toArray, List.set_cons_zero, List.set_cons_succ])
      ((with_reducible refine Ord.e_p (v := ?_) ?_ ?_ ?_ ?_); rotate_left; (· exact rfl); (· kernel_rfl); (· intro w2; go_simp; try with_reducible rfl))
      (try simp only [Act.put, List.setIfInBounds_toArray, List.set_cons_zero, List.set_cons_succ])
      refine Ord.e_loadS (ad := ⟨g, off + k * 4 + 1, none⟩) Try.underlying3 rfl (fun w' hS => Hz1.out w' hS) hb rfl (by kernel_rfl) ?_
      (try simp only [Act.put, List.setIfInBounds_toArray, List.set_cons_zero, List.set_cons_succ])
      ((with_reducible refine Ord.e_p (v := ?_) ?_ ?_ ?_ ?_); rotate_left; (· exact rfl); (· kernel_rfl); (· intro w2; go_simp; try with_reducible rfl))
      (try simp only [Act.put, List.setIfInBounds_toArray, List.set_cons_zero, List.set_cons_succ])
      ((with_reducible refine Ord.e_p (v := ?_) ?_ ?_ ?_ ?_); rotate_left; (· exact rfl); (· kernel_rfl); (· intro w2; go_simp; try with_reducible rfl))
      (try simp only [Act.put, List.setIfInBounds_toArray, List.set_cons_zero, List.set_cons_succ])
      ((with_reducible refine Ord.e_p (v := ?_) ?_ ?_ ?_ ?_); rotate_left; (· exact rfl); (· kernel_rfl); (· intro w2; go_simp; try with_reducible rfl))
      (try simp only [Act.put, List.setIfInBounds_toArray, List.set_cons_zero, List.set_cons_succ])
      refine Ord.e_rowS (cs := ptC ⟨s1, (zn : Int), g1, m1⟩) (b := g) (o := off + k * 4) Try.underlying28 rfl (by kernel_rfl) rfl (by simp [ptC]) (fun w' hS => Hr.out w' hS) hb (by kernel_rfl) ?_
      (try simp only [Act.put, List.setIfInBounds_toArray, List.set_cons_zero, List.set_cons_succ])
      refine Ord.e_x rfl (by kernel_rfl) ?_
      go_wp2_with fail
      go_fit (Hfx.out wd)
      rintro e w2 ⟨rfl, hbx⟩
      replace hb := bnx hb hbx
      go_wp2_with fail
      refine Ord.Seg.go hb (fun h => by cases h) ?_
      (try simp only [Act.put, List.setIfInBounds_toArray, List.set_cons_zero, List.set_cons_succ])
      refine Ord.e_p (v := .int .i64 ((d : Nat) : Int)) rfl (by kernel_rfl) (fun w2 => by have hww := Hww.out; go_simp) ?_
      (try simp only [Act.put, List.setIfInBounds_toArray, List.set_cons_zero, List.set_cons_succ])
      refine Ord.e_p (v := .int .i64 ((s : Int) + (d : Int))) rfl (by kernel_rfl) (fun w2 => by have hw3 := Hw3.out; go_simp) ?_
      (try simp only [Act.put, List.setIfInBounds_toArray, List.set_cons_zero, List.set_cons_succ])
      ((with_reducible refine Ord.e_p (v := ?_) ?_ ?_ ?_ ?_); rotate_left; (· exact rfl); (· kernel_rfl); (· intro w2; go_simp; try with_reducible rfl))
      (try simp only [Act.put, List.setIfInBounds_toArray, List.set_cons_zero, List.set_cons_succ])
      refine Ord.e_nil ?_
      go_wp2
      go_roundw
      case rel => exact ⟨k + 1, s + d, by omega, by go_num, by go_num, Hsm, hd8, hb⟩
      case measure => simp [intOf]; omega
    · obtain rfl : k = n := by omega
      have he : s = wdS L := by rw [Hs.out, List.take_of_length_le (by rw [Hll.out]; exact Nat.le_refl _)]
      have He := Lib.hid he
      have hbf := bnx hb1 hb
      clear he
      go_wp2
      go_ret
      exact ⟨by rw [← He.out]; rfl, hbf⟩

end Go.Proofs.Ytonejdjhdjckjaa
