/-
  The law OctetBack walked.
-/
import Derived.Test.YtglfhdkknhdphaaOctKnows
import Derived.Test.YtglfhdkknhdphaaOctOps
set_option linter.unusedSimpArgs false
set_option linter.unusedVariables false
namespace Go.Proofs.Ytglfhdkknhdphaa
open Go.RowKit NumLaw
attribute [local go_sem] Addr.add_mid

/- the plain law -/
def opFits (o : OpV) : Bool := if o.kind = 0 then fU o.n o.u else if o.kind = 1 then fI o.n o.i else true
def opBytes (o : OpV) : List UInt8 := if o.kind = 0 then bytesN o.n.toNat o.u else if o.kind = 1 then bytesN o.n.toNat (un o.i) else o.b
def Put (ops : List OpV) (k : Nat) (l : List UInt8) : Prop := l = (ops.take k).flatMap opBytes ∧ ∀ o ∈ ops.take k, opFits o = true
theorem put_step {ops : List OpV} {k : Nat} {l : List UInt8} {bad : Bool} {o : OpV} (h : bad = false → Put ops k l) (hx : ops[k]? = some o) {fits : Bool} {add : List UInt8} (hf : opFits o = fits) (ha : opBytes o = add) :
    (bad || !fits) = false → Put ops (k + 1) (wtB bad fits l add) := by
  subst hf ha
  intro hb
  simp only [Bool.or_eq_false_iff, Bool.not_eq_false'] at hb
  obtain ⟨rfl, hf⟩ := hb
  obtain ⟨h1, h2⟩ := h rfl
  have ht : ops.take (k + 1) = ops.take k ++ [o] := by rw [List.take_add_one, hx]; rfl
  refine ⟨?_, ?_⟩
  · rw [ht, List.flatMap_append, ← h1]
    simp [wtB, hf]
  · rw [ht]
    intro o' ho'
    rcases List.mem_append.1 ho' with h | h
    · exact h2 o' h
    · rw [List.mem_singleton.1 h]; exact hf
theorem wtB_le8' (bad : Bool) {fits : Bool} {l add : List UInt8} (h : fits = true → add.length ≤ 100) : (wtB bad fits l add).length ≤ l.length + 100 := by
  unfold wtB
  split
  · simp
  · rename_i h1
    have := h (by cases fits <;> simp at h1 ⊢)
    simp; omega
theorem fU_len (n : Int) (u : Nat) (h : fU n u = true) : (bytesN n.toNat u).length ≤ 100 := by
  unfold fU at h
  have := of_decide_eq_true h
  rw [bytesN_len]
  omega
theorem fI_len (n i : Int) (h : fI n i = true) : (bytesN n.toNat (un i)).length ≤ 100 := by
  unfold fI at h
  have := of_decide_eq_true h
  rw [bytesN_len]
  omega
theorem rd_front {n : Int} {a rest : List UInt8} (h : n = a.length) : rdF n (a ++ rest) false = false ∧ rdB n (a ++ rest) false = a ∧ rdL n (a ++ rest) false = rest := by
  subst h
  have h1 : rdF (a.length : Int) (a ++ rest) false = false := by
    unfold rdF
    simp
    omega
  refine ⟨h1, ?_, ?_⟩
  · unfold rdB; rw [h1]; simp
  · unfold rdL; rw [h1]; simp
theorem nU_in {n : Int} (h1 : 1 ≤ n) (h8 : n ≤ 8) : nU n = n := by unfold nU; rw [if_neg (by omega)]
theorem back_U {n : Int} {u : Nat} {rest : List UInt8} (h : fU n u = true) : rdF (nU n) (bytesN n.toNat u ++ rest) false = false ∧ num (rdB (nU n) (bytesN n.toNat u ++ rest) false) = u ∧ rdL (nU n) (bytesN n.toNat u ++ rest) false = rest := by
  unfold fU at h
  obtain ⟨h1, h2, h3⟩ := of_decide_eq_true h
  rw [nU_in h1 h2]
  obtain ⟨e1, e2, e3⟩ := rd_front (n := n) (a := bytesN n.toNat u) (rest := rest) (by rw [bytesN_len]; omega)
  refine ⟨e1, ?_, e3⟩
  rw [e2, num_bytesN, Nat.mod_eq_of_lt h3]
theorem sgn_un (k : Nat) (i : Int) (h1 : 1 ≤ k) (h8 : k ≤ 8) (hlo : -(128 * 256 ^ (k - 1)) ≤ i) (hhi : i < 128 * 256 ^ (k - 1)) : sgn k (un i % 256 ^ k) = i := by
  unfold sgn un
  rcases (by omega : k = 1 ∨ k = 2 ∨ k = 3 ∨ k = 4 ∨ k = 5 ∨ k = 6 ∨ k = 7 ∨ k = 8) with rfl | rfl | rfl | rfl | rfl | rfl | rfl | rfl
  all_goals
    simp at hlo hhi ⊢
    split <;> omega
theorem back_I {n i : Int} {rest : List UInt8} (h : fI n i = true) : rdF (nU n) (bytesN n.toNat (un i) ++ rest) false = false ∧ iV n (bytesN n.toNat (un i) ++ rest) false = i ∧ rdL (nU n) (bytesN n.toNat (un i) ++ rest) false = rest := by
  unfold fI at h
  obtain ⟨h1, h2, h3, h4⟩ := of_decide_eq_true h
  rw [nU_in h1 h2]
  obtain ⟨e1, e2, e3⟩ := rd_front (n := n) (a := bytesN n.toNat (un i)) (rest := rest) (by rw [bytesN_len]; omega)
  refine ⟨e1, ?_, e3⟩
  unfold iV
  rw [if_neg (by omega), e1, e2, num_bytesN]
  simp only [Bool.false_eq_true, if_false]
  exact sgn_un n.toNat i (by omega) (by omega) h3 h4
theorem drop_bytes {ops : List OpV} {k : Nat} {o : OpV} (hx : ops[k]? = some o) : (ops.drop k).flatMap opBytes = opBytes o ++ (ops.drop (k + 1)).flatMap opBytes := by
  obtain ⟨hk, he⟩ := List.getElem?_eq_some_iff.1 hx
  rw [List.drop_eq_getElem_cons hk, he, List.flatMap_cons]
theorem below_foot {B : Nat} {w0 w w' : World} {g : Nat} {v : Value} {l : List UInt8} {bad : Bool} (hb : Below B w0 w) (h : Wtr w g v l bad) (ha : Aw (Foot g v) w w') (hg : B ≤ g) : Below B w0 w' := by
  refine ⟨ha.os.trans hb.os, ha.tape.trans hb.tape, ha.output.trans hb.output, Nat.le_trans hb.size ha.size, fun k hk => (ha.block k (Nat.lt_of_lt_of_le (Nat.lt_of_lt_of_le hk hg) (Nat.le_of_lt h.lt)) (fun hf => ?_)).trans (hb.block k hk)⟩
  have := (h.foot hf).1
  omega

set_option maxRecDepth 10000 in
set_option maxHeartbeats 4000000 in
theorem back_go (Ao : Option Addr) (no co : Nat) (ops : List OpV) (w : World) (ho : RdOps w w.heap.size Ao no co ops) (hf : fewN ops = true) :
    Calls Try.prog 5 #[.slice Ao no co] w fun e w' => e = .returned (.bool true) ∧ Below w.heap.size w w' := by
  have Hf := Lib.hid hf
  have hno : no ≤ 60 := by have := (fewN_all hf).1; rw [ho.1] at this; exact this
  have hco := ho.2.1
  clear hf
  go_enter Try.func5, Try.ntmps5
  go_wp2_with fail
  go_fit (few_any Ao no co w.heap.size ops w ho)
  rintro e w1 ⟨rfl, rfl⟩
  rw [Hf.out]
  go_wp2_with fail
  go_fit (knows04 w)
  rintro e w1 ⟨rfl, hb1⟩
  go_wp2_with fail
  go_fit (wMake_any w1)
  rintro e w2 ⟨rfl, hw2, hb12⟩
  have hb2 := bnx hb1 hb12
  have hlow := hb1.size
  generalize w1.heap.size = g at *
  clear hb1 hb12
  go_wp2_with fail
  go_loopw [4] (fun i wr => ∃ (k : Nat) (v : Value) (lw : List UInt8) (bad : Bool), k ≤ no ∧ i = .int .i64 k ∧ Wtr wr g v lw bad ∧ Below w.heap.size w wr ∧ lw.length ≤ k * 100 ∧ (bad = false → Put ops k lw)) (fun i _ => no - (intOf i).toNat)
  case atStart => exact ⟨0, .slice none 0 0, [], false, by omega, rfl, hw2, hb2, by simp, fun _ => ⟨rfl, fun o h => by simp at h⟩⟩
  case round =>
    clear hw2 hb2 w2
    obtain ⟨k, v, lw, bad, hk, rfl, hw, hb, hlw, hput⟩ := hrel
    have Hput := Lib.hid hput
    clear hput
    by_cases hlt : k < no
    · obtain ⟨go, off, o, rfl, hgo, hx, h1, h2, h3, h4, ⟨Ab, nb, cb, h5, h6⟩, hn0, hu0, hi0⟩ := ho.at_ hlt
      have hob : o.b.length ≤ 100 := (fewN_all Hf.out).2 o (List.mem_of_getElem? hx)
      have hnb : nb ≤ 100 := by
        rw [← h6.blen]
        exact hob
      have r1 := (hb.cell (p := ⟨go, off + k * 5, none⟩) hgo).trans h1
      by_cases hk0 : o.kind = 0
      · rw [hk0] at r1
        have ef : opFits o = fU o.n o.u := by unfold opFits; rw [if_pos hk0]
        have ea : opBytes o = bytesN o.n.toNat o.u := by unfold opBytes; rw [if_pos hk0]
        have Hs := Lib.hid (put_step Hput.out hx ef ea)
        have hle := wtB_le8' bad (fits := fU o.n o.u) (l := lw) (add := bytesN o.n.toNat o.u) (fU_len o.n o.u)
        clear ef ea hk0
        go_wp2_with fail
        refine Ord.region_ (fun w2 => Below w.heap.size w w2) false [] (by kernel_rfl) (by kernel_rfl) hb.drew ?_
        replace hb := hb.drew
        replace hw := hw.keep ((Aw.refl (fun _ => False) _).drew) (fun _ _ h => h)
        clear r1
        generalize wr.drew = w3 at *
        repeat (first | (refine Ord.e_p (v := ?_) rfl (by rfl) ?_ ?_; rotate_left; · (intro w2; go_simp; try with_reducible rfl)) | (refine Ord.e_u (by rfl) ?_)); (try simp only [Act.put, List.setIfInBounds_toArray, List.set_cons_zero, List.set_cons_succ])
        refine Ord.e_loadS Try.underlying3 rfl (fun w2 hS => ((show Below _ w w2 from hS).cell hgo).trans h2) hb rfl (by rfl) ?_
        (try simp only [Act.put, List.setIfInBounds_toArray, List.set_cons_zero, List.set_cons_succ])
        repeat (first | (refine Ord.e_p (v := ?_) rfl (by rfl) ?_ ?_; rotate_left; · (intro w2; go_simp; try with_reducible rfl)) | (refine Ord.e_u (by rfl) ?_)); (try simp only [Act.put, List.setIfInBounds_toArray, List.set_cons_zero, List.set_cons_succ])
        refine Ord.e_loadS Try.underlying30 rfl (fun w2 hS => ((show Below _ w w2 from hS).cell hgo).trans h3) hb rfl (by rfl) ?_
        (try simp only [Act.put, List.setIfInBounds_toArray, List.set_cons_zero, List.set_cons_succ])
        repeat (first | (refine Ord.e_p (v := ?_) rfl (by rfl) ?_ ?_; rotate_left; · (intro w2; go_simp; try with_reducible rfl)) | (refine Ord.e_u (by rfl) ?_)); (try simp only [Act.put, List.setIfInBounds_toArray, List.set_cons_zero, List.set_cons_succ])
        refine Ord.e_x rfl (by rfl) ?_
        go_wp2_with fail
        go_fit (wU_any g v lw bad o.n o.u w3 hw hu0 (by omega))
        rintro e w4 ⟨rfl, v4, hw4, ha4, _⟩
        have hb4 := below_foot hb hw ha4 hlow
        go_wp2_with fail
        refine Ord.Seg.go hb4 (fun h => by cases h) ?_
        (try simp only [Act.put, List.setIfInBounds_toArray, List.set_cons_zero, List.set_cons_succ])
        refine Ord.e_nil ?_
        go_wp2
        go_roundw
        case rel => exact ⟨k + 1, v4, _, _, by omega, by go_num, hw4, hb4, by omega, Hs.out⟩
        case measure => simp [intOf]; omega
      · by_cases hk1 : o.kind = 1
        · rw [hk1] at r1
          have ef : opFits o = fI o.n o.i := by unfold opFits; rw [if_neg hk0, if_pos hk1]
          have ea : opBytes o = bytesN o.n.toNat (un o.i) := by unfold opBytes; rw [if_neg hk0, if_pos hk1]
          have Hs := Lib.hid (put_step Hput.out hx ef ea)
          have hle := wtB_le8' bad (fits := fI o.n o.i) (l := lw) (add := bytesN o.n.toNat (un o.i)) (fI_len o.n o.i)
          clear ef ea hk0 hk1
          go_wp2_with fail
          refine Ord.region_ (fun w2 => Below w.heap.size w w2) false [] (by kernel_rfl) (by kernel_rfl) hb.drew ?_
          replace hb := hb.drew
          replace hw := hw.keep ((Aw.refl (fun _ => False) _).drew) (fun _ _ h => h)
          clear r1
          generalize wr.drew = w3 at *
          repeat (first | (refine Ord.e_p (v := ?_) rfl (by rfl) ?_ ?_; rotate_left; · (intro w2; go_simp; try with_reducible rfl)) | (refine Ord.e_u (by rfl) ?_)); (try simp only [Act.put, List.setIfInBounds_toArray, List.set_cons_zero, List.set_cons_succ])
          refine Ord.e_loadS Try.underlying3 rfl (fun w2 hS => ((show Below _ w w2 from hS).cell hgo).trans h2) hb rfl (by rfl) ?_
          (try simp only [Act.put, List.setIfInBounds_toArray, List.set_cons_zero, List.set_cons_succ])
          repeat (first | (refine Ord.e_p (v := ?_) rfl (by rfl) ?_ ?_; rotate_left; · (intro w2; go_simp; try with_reducible rfl)) | (refine Ord.e_u (by rfl) ?_)); (try simp only [Act.put, List.setIfInBounds_toArray, List.set_cons_zero, List.set_cons_succ])
          refine Ord.e_loadS Try.underlying2 rfl (fun w2 hS => ((show Below _ w w2 from hS).cell hgo).trans h4) hb rfl (by rfl) ?_
          (try simp only [Act.put, List.setIfInBounds_toArray, List.set_cons_zero, List.set_cons_succ])
          repeat (first | (refine Ord.e_p (v := ?_) rfl (by rfl) ?_ ?_; rotate_left; · (intro w2; go_simp; try with_reducible rfl)) | (refine Ord.e_u (by rfl) ?_)); (try simp only [Act.put, List.setIfInBounds_toArray, List.set_cons_zero, List.set_cons_succ])
          refine Ord.e_x rfl (by rfl) ?_
          go_wp2_with fail
          go_fit (wI_any g v lw bad o.n o.i w3 hw hi0 (by omega))
          rintro e w4 ⟨rfl, v4, hw4, ha4, _⟩
          have hb4 := below_foot hb hw ha4 hlow
          go_wp2_with fail
          refine Ord.Seg.go hb4 (fun h => by cases h) ?_
          (try simp only [Act.put, List.setIfInBounds_toArray, List.set_cons_zero, List.set_cons_succ])
          refine Ord.e_nil ?_
          go_wp2
          go_roundw
          case rel => exact ⟨k + 1, v4, _, _, by omega, by go_num, hw4, hb4, by omega, Hs.out⟩
          case measure => simp [intOf]; omega
        · have ef : opFits o = true := by unfold opFits; rw [if_neg hk0, if_neg hk1]
          have ea : opBytes o = o.b := by unfold opBytes; rw [if_neg hk0, if_neg hk1]
          have Hs := Lib.hid (put_step Hput.out hx ef ea)
          rw [Bool.not_true, Bool.or_false] at Hs
          have hle := wtB_le8' bad (fits := true) (l := lw) (add := o.b) (fun _ => hob)
          have r5 := (hb.cell (p := ⟨go, off + k * 5 + 4, none⟩) hgo).trans h5
          clear ef ea
          go_wp2_with fail
          go_fit (wRaw_any g v lw bad Ab nb cb w.heap.size o.b wr hw (h6.up hb) (by omega))
          rintro e w4 ⟨rfl, v4, hw4, ha4, _⟩
          have hb4 := below_foot hb hw ha4 hlow
          go_wp2
          go_roundw
          case rel => exact ⟨k + 1, v4, _, _, by omega, by go_num, hw4, hb4, by omega, Hs.out⟩
          case measure => simp [intOf]; omega
    · have hkn : k = no := by omega
      subst hkn
      have hF := wFail_any g _ v true bad wr hw.1
      rw [Bool.true_and, Bool.not_not] at hF
      cases bad with
      | true =>
        have hl0 : lw = [] := hw.2.2 rfl
        subst hl0
        go_wp2_with fail
        go_fit hF
        rintro e w4 ⟨rfl, rfl⟩
        go_wp2_with fail
        go_fit (wBytes_any g v [] true wr hw (by simp))
        rintro e w5 ⟨A5, c5, n5, rfl, hown5, hb5⟩
        have hn5 : n5 = 0 := by have := own_len hown5; simpa using this.symm
        subst hn5
        go_wp2
        go_ret
        exact ⟨rfl, bnx hb hb5⟩
      | false =>
        have Hp := Lib.hid (Hput.out rfl)
        clear Hput
        go_wp2_with fail
        go_fit hF
        rintro e w4 ⟨rfl, rfl⟩
        go_wp2_with fail
        go_fit (wBytes_any g v lw false wr hw (by omega))
        rintro e w5 ⟨A5, c5, n5, rfl, hown5, hb5⟩
        have hn5 := own_len hown5
        go_wp2_with fail
        go_fit (rNew_any A5 n5 c5 _ lw w5 (Rd.own hown5) (Nat.le_refl _) (by omega))
        rintro e w6 ⟨g2, rfl, hr6, hg2, hb56⟩
        have hb6 := bnx (bnx hb hb5) hb56
        have hlo2 := (bnx hb hb5).size
        generalize w5.heap.size = lo at *
        clear hb5 hb56 hown5 hF hw hb
        go_wp2_with fail
        go_loopw [6] (fun i wr => ∃ (j : Nat) (lr : List UInt8), j ≤ k ∧ i = .int .i64 j ∧ Rdr lo wr g2 lr false ∧ Below w.heap.size w wr ∧ Hid (lr = (ops.drop j).flatMap opBytes) ∧ lr.length ≤ 1000000) (fun i _ => k - (intOf i).toNat)
        case atStart =>
          refine ⟨0, lw, by omega, rfl, hr6, hb6, Lib.hid ?_, by omega⟩
          have := Hp.out.1
          rw [this, List.drop_zero, List.take_of_length_le (by rw [ho.1]; exact Nat.le_refl _)]
        case round =>
          clear hr6 hb6 w6 w5
          have Hfit : Hid (∀ o ∈ ops, opFits o = true) := Lib.hid (by
            have := Hp.out.2
            rwa [List.take_of_length_le (by rw [ho.1]; exact Nat.le_refl _)] at this)
          clear Hp
          obtain ⟨j, lr, hj, rfl, hr, hb, hlr, hlen⟩ := hrel
          by_cases hltj : j < k
          · obtain ⟨go, off, o, rfl, hgo, hx, h1, h2, h3, h4, ⟨Ab, nb, cb, h5, h6⟩, hn0, hu0, hi0⟩ := ho.at_ hltj
            have hof := Lib.hid (Hfit.out o (List.mem_of_getElem? hx))
            obtain ⟨rest, hrest⟩ : ∃ rest, rest = (ops.drop (j + 1)).flatMap opBytes := ⟨_, rfl⟩
            have hlr' : Hid (lr = opBytes o ++ rest) := Lib.hid (by rw [hlr.out, drop_bytes hx, hrest])
            have Hrest := Lib.hid hrest
            clear hlr hrest
            have hlen' : rest.length ≤ 1000000 := by have := congrArg List.length hlr'.out; rw [List.length_append] at this; omega
            have r1 := (hb.cell (p := ⟨go, off + j * 5, none⟩) hgo).trans h1
            by_cases hk0 : o.kind = 0
            · rw [hk0] at r1
              have ef : fU o.n o.u = true := by have := hof.out; unfold opFits at this; rwa [if_pos hk0] at this
              have ea : lr = bytesN o.n.toNat o.u ++ rest := by rw [hlr'.out]; unfold opBytes; rw [if_pos hk0]
              obtain ⟨q1, q2, q3⟩ := back_U (rest := rest) ef
              rw [← ea] at q1 q2 q3
              have Q1 := Lib.hid q1
              have Q2 := Lib.hid q2
              have Q3 := Lib.hid q3
              clear ef ea hk0 q1 q2 q3 hof hlr'
              go_wp2_with fail
              refine Ord.region_ (fun w2 => Below w.heap.size w w2) false [] (by kernel_rfl) (by kernel_rfl) hb.drew ?_
              replace hb := hb.drew
              replace hr := hr.keep (row := none) (w' := wr.drew) ⟨rfl, rfl, rfl, Nat.le_refl _, fun _ _ _ => rfl⟩ (fun _ h => by cases h)
              clear r1
              generalize wr.drew = w3 at *
              repeat (first | (refine Ord.e_p (v := ?_) rfl (by rfl) ?_ ?_; rotate_left; · (intro w2; go_simp; try with_reducible rfl)) | (refine Ord.e_u (by rfl) ?_)); (try simp only [Act.put, List.setIfInBounds_toArray, List.set_cons_zero, List.set_cons_succ])
              refine Ord.e_loadS Try.underlying3 rfl (fun w2 hS => ((show Below _ w w2 from hS).cell hgo).trans h2) hb rfl (by rfl) ?_
              (try simp only [Act.put, List.setIfInBounds_toArray, List.set_cons_zero, List.set_cons_succ])
              repeat (first | (refine Ord.e_p (v := ?_) rfl (by rfl) ?_ ?_; rotate_left; · (intro w2; go_simp; try with_reducible rfl)) | (refine Ord.e_u (by rfl) ?_)); (try simp only [Act.put, List.setIfInBounds_toArray, List.set_cons_zero, List.set_cons_succ])
              refine Ord.e_x rfl (by rfl) ?_
              go_wp2_with fail
              go_fit (rU_any lo g2 lr false o.n w3 hr)
              rintro e w4 ⟨rfl, hr4, hg4⟩
              rw [Q1.out, Q3.out] at hr4
              rw [Q2.out]
              have hb4 : Below w.heap.size w w4 := hb.grown hg4 hb.size (fun k hk => by injection hk with hk; omega)
              go_wp2_with fail
              refine Ord.Seg.go hb4 (fun h => by cases h) ?_
              (try simp only [Act.put, List.setIfInBounds_toArray, List.set_cons_zero, List.set_cons_succ])
              repeat (first | (refine Ord.e_p (v := ?_) rfl (by rfl) ?_ ?_; rotate_left; · (intro w2; go_simp; try with_reducible rfl)) | (refine Ord.e_u (by rfl) ?_)); (try simp only [Act.put, List.setIfInBounds_toArray, List.set_cons_zero, List.set_cons_succ])
              refine Ord.e_loadS Try.underlying30 rfl (fun w2 hS => ((show Below _ w w2 from hS).cell hgo).trans h3) hb4 rfl (by rfl) ?_
              (try simp only [Act.put, List.setIfInBounds_toArray, List.set_cons_zero, List.set_cons_succ])
              repeat (first | (refine Ord.e_p (v := ?_) rfl (by rfl) ?_ ?_; rotate_left; · (intro w2; go_simp; try with_reducible rfl)) | (refine Ord.e_u (by rfl) ?_)); (try simp only [Act.put, List.setIfInBounds_toArray, List.set_cons_zero, List.set_cons_succ])
              refine Ord.e_nil ?_
              go_wp2_with fail
              go_fit (rFail_any lo g2 rest false w4 hr4)
              rintro e w5 ⟨rfl, rfl⟩
              go_wp2
              go_roundw
              case rel => exact ⟨j + 1, rest, by omega, by go_num, hr4, hb4, Hrest, hlen'⟩
              case measure => simp [intOf]; omega
            · by_cases hk1 : o.kind = 1
              · rw [hk1] at r1
                have ef : fI o.n o.i = true := by have := hof.out; unfold opFits at this; rwa [if_neg hk0, if_pos hk1] at this
                have ea : lr = bytesN o.n.toNat (un o.i) ++ rest := by rw [hlr'.out]; unfold opBytes; rw [if_neg hk0, if_pos hk1]
                obtain ⟨q1, q2, q3⟩ := back_I (rest := rest) ef
                rw [← ea] at q1 q2 q3
                have Q1 := Lib.hid q1
                have Q2 := Lib.hid q2
                have Q3 := Lib.hid q3
                clear ef ea hk0 hk1 q1 q2 q3 hof hlr'
                go_wp2_with fail
                refine Ord.region_ (fun w2 => Below w.heap.size w w2) false [] (by kernel_rfl) (by kernel_rfl) hb.drew ?_
                replace hb := hb.drew
                replace hr := hr.keep (row := none) (w' := wr.drew) ⟨rfl, rfl, rfl, Nat.le_refl _, fun _ _ _ => rfl⟩ (fun _ h => by cases h)
                clear r1
                generalize wr.drew = w3 at *
                repeat (first | (refine Ord.e_p (v := ?_) rfl (by rfl) ?_ ?_; rotate_left; · (intro w2; go_simp; try with_reducible rfl)) | (refine Ord.e_u (by rfl) ?_)); (try simp only [Act.put, List.setIfInBounds_toArray, List.set_cons_zero, List.set_cons_succ])
                refine Ord.e_loadS Try.underlying3 rfl (fun w2 hS => ((show Below _ w w2 from hS).cell hgo).trans h2) hb rfl (by rfl) ?_
                (try simp only [Act.put, List.setIfInBounds_toArray, List.set_cons_zero, List.set_cons_succ])
                repeat (first | (refine Ord.e_p (v := ?_) rfl (by rfl) ?_ ?_; rotate_left; · (intro w2; go_simp; try with_reducible rfl)) | (refine Ord.e_u (by rfl) ?_)); (try simp only [Act.put, List.setIfInBounds_toArray, List.set_cons_zero, List.set_cons_succ])
                refine Ord.e_x rfl (by rfl) ?_
                go_wp2_with fail
                go_fit (rI_any lo g2 lr false o.n w3 hr)
                rintro e w4 ⟨rfl, hr4, hg4⟩
                rw [Q1.out, Q3.out] at hr4
                rw [Q2.out]
                have hb4 : Below w.heap.size w w4 := hb.grown hg4 hb.size (fun k hk => by injection hk with hk; omega)
                go_wp2_with fail
                refine Ord.Seg.go hb4 (fun h => by cases h) ?_
                (try simp only [Act.put, List.setIfInBounds_toArray, List.set_cons_zero, List.set_cons_succ])
                repeat (first | (refine Ord.e_p (v := ?_) rfl (by rfl) ?_ ?_; rotate_left; · (intro w2; go_simp; try with_reducible rfl)) | (refine Ord.e_u (by rfl) ?_)); (try simp only [Act.put, List.setIfInBounds_toArray, List.set_cons_zero, List.set_cons_succ])
                refine Ord.e_loadS Try.underlying2 rfl (fun w2 hS => ((show Below _ w w2 from hS).cell hgo).trans h4) hb4 rfl (by rfl) ?_
                (try simp only [Act.put, List.setIfInBounds_toArray, List.set_cons_zero, List.set_cons_succ])
                repeat (first | (refine Ord.e_p (v := ?_) rfl (by rfl) ?_ ?_; rotate_left; · (intro w2; go_simp; try with_reducible rfl)) | (refine Ord.e_u (by rfl) ?_)); (try simp only [Act.put, List.setIfInBounds_toArray, List.set_cons_zero, List.set_cons_succ])
                refine Ord.e_nil ?_
                go_wp2_with fail
                go_fit (rFail_any lo g2 rest false w4 hr4)
                rintro e w5 ⟨rfl, rfl⟩
                go_wp2
                go_roundw
                case rel => exact ⟨j + 1, rest, by omega, by go_num, hr4, hb4, Hrest, hlen'⟩
                case measure => simp [intOf]; omega
              · have ea : lr = o.b ++ rest := by rw [hlr'.out]; unfold opBytes; rw [if_neg hk0, if_neg hk1]
                have hnb := h6.blen
                obtain ⟨q1, q2, q3⟩ := rd_front (n := (nb : Int)) (a := o.b) (rest := rest) (by omega)
                rw [← ea] at q1 q2 q3
                have Q1 := Lib.hid q1
                have Q2 := Lib.hid q2
                have Q3 := Lib.hid q3
                clear ea q1 q2 q3 hof hlr'
                go_wp2_with fail
                refine Ord.region_ (fun w2 => Below w.heap.size w w2) true [90, 91] (by kernel_rfl) (by kernel_rfl) hb.drew ?_
                replace hb := hb.drew
                replace hr := hr.keep (row := none) (w' := wr.drew) ⟨rfl, rfl, rfl, Nat.le_refl _, fun _ _ _ => rfl⟩ (fun _ h => by cases h)
                clear r1
                generalize wr.drew = w3 at *
                repeat (first | (refine Ord.e_p (v := ?_) rfl (by rfl) ?_ ?_; rotate_left; · (intro w2; go_simp; try with_reducible rfl)) | (refine Ord.e_u (by rfl) ?_)); (try simp only [Act.put, List.setIfInBounds_toArray, List.set_cons_zero, List.set_cons_succ])
                refine Ord.e_loadS Try.underlying22 rfl (fun w2 hS => ((show Below _ w w2 from hS).cell hgo).trans h5) hb rfl (by rfl) ?_
                (try simp only [Act.put, List.setIfInBounds_toArray, List.set_cons_zero, List.set_cons_succ])
                repeat (first | (refine Ord.e_p (v := ?_) rfl (by rfl) ?_ ?_; rotate_left; · (intro w2; go_simp; try with_reducible rfl)) | (refine Ord.e_u (by rfl) ?_)); (try simp only [Act.put, List.setIfInBounds_toArray, List.set_cons_zero, List.set_cons_succ])
                refine Ord.e_x rfl (by rfl) ?_
                go_wp2_with fail
                go_fit (rRaw_any lo g2 lr false nb w3 hr (by omega))
                rintro e w4 ⟨A4, n4, c4, rfl, hown4, hr4, hg4⟩
                rw [Q1.out, Q3.out] at hr4
                rw [Q2.out] at hown4
                have hb4 : Below w.heap.size w w4 := hb.grown hg4 hb.size (fun k hk => by injection hk with hk; omega)
                go_wp2_with fail
                refine Ord.Seg.go hb4 (fun h => by cases h) ?_
                (try simp only [Act.put, List.setIfInBounds_toArray, List.set_cons_zero, List.set_cons_succ])
                refine Ord.e_str Try.underlying22 Try.underlying5 Try.underlying9 (Rd.own hown4) rfl (by rfl) (by rfl) ?_
                (try simp only [Act.put, List.setIfInBounds_toArray, List.set_cons_zero, List.set_cons_succ])
                repeat (first | (refine Ord.e_p (v := ?_) rfl (by rfl) ?_ ?_; rotate_left; · (intro w2; go_simp; try with_reducible rfl)) | (refine Ord.e_u (by rfl) ?_)); (try simp only [Act.put, List.setIfInBounds_toArray, List.set_cons_zero, List.set_cons_succ])
                refine Ord.e_loadS Try.underlying22 rfl (fun w2 hS => ((show Below _ w w2 from hS).cell hgo).trans h5) hb4 rfl (by rfl) ?_
                (try simp only [Act.put, List.setIfInBounds_toArray, List.set_cons_zero, List.set_cons_succ])
                refine Ord.e_strS Try.underlying22 Try.underlying5 Try.underlying9 (fun w2 hS => h6.up (show Below _ w w2 from hS)) hb4 hb4.size rfl (by rfl) ?_
                (try simp only [Act.put, List.setIfInBounds_toArray, List.set_cons_zero, List.set_cons_succ])
                repeat (first | (refine Ord.e_p (v := ?_) rfl (by rfl) ?_ ?_; rotate_left; · (intro w2; go_simp; try with_reducible rfl)) | (refine Ord.e_u (by rfl) ?_)); (try simp only [Act.put, List.setIfInBounds_toArray, List.set_cons_zero, List.set_cons_succ])
                refine Ord.e_nil ?_
                go_wp2_with fail
                go_fit (rFail_any lo g2 rest false w4 hr4)
                rintro e w5 ⟨rfl, rfl⟩
                go_wp2
                go_roundw
                case rel => exact ⟨j + 1, rest, by omega, by go_num, hr4, hb4, Hrest, hlen'⟩
                case measure => simp [intOf]; omega
          · have hjk : j = k := by omega
            have hl0 : lr = [] := by rw [hlr.out, List.drop_eq_nil_of_le (by rw [ho.1]; omega)]; rfl
            subst hl0
            go_wp2_with fail
            go_fit (rLeft_any lo g2 [] false wr hr)
            rintro e w5 ⟨rfl, rfl⟩
            go_wp2
            go_ret
            exact ⟨rfl, hb⟩

set_option maxHeartbeats 400000 in
theorem back_any (Ao : Option Addr) (no co : Nat) (ops : List OpV) (w : World) (ho : RdOps w w.heap.size Ao no co ops) :
    Calls Try.prog 5 #[.slice Ao no co] w fun e w' => e = .returned (.bool true) ∧ Below w.heap.size w w' := by
  cases hf : fewN ops with
  | true => exact back_go Ao no co ops w ho hf
  | false =>
    go_enter Try.func5, Try.ntmps5
    go_wp2_with fail
    go_fit (few_any Ao no co w.heap.size ops w ho)
    rintro e w1 ⟨rfl, rfl⟩
    rw [hf]
    go_wp2_with fail
    go_fit (knows04 w)
    rintro e w1 ⟨rfl, hb1⟩
    go_wp2
    go_ret
    exact ⟨rfl, hb1⟩

end Go.Proofs.Ytglfhdkknhdphaa
