/-
  rec.changed: the iterator that tells the places of numbers that are others.
-/
import Derived.Test.YtplgcfjcdjlnbaaRec1
import Derived.Test.YtplgcfjcdjlnbaaRecEq
import Derived.Test.YtplgcfjcdjlnbaaOrdY
import Derived.Test.YtplgcfjcdjlnbaaRangeR
import Derived.Test.YtplgcfjcdjlnbaaOctIter
import Derived.Test.YtplgcfjcdjlnbaaListIn
set_option linter.unusedSimpArgs false
set_option linter.unusedVariables false
namespace Go.Proofs.Ytplgcfjcdjlnbaa
open Go.RowKit Go.Shelf NumLaw
attribute [local go_sem] Oper.semAt_some Addr.add_mid
attribute [-go_sem] run_eql_struct

/-- The changes: place and by how much. -/
def chP : Nat → List (Int × Int) → List (Nat × Int)
  | _, [] => []
  | i, p :: l => if p.1 = p.2 then chP (i + 1) l else (i, p.2 - p.1) :: chP (i + 1) l
theorem chP_snoc : ∀ (a : List (Int × Int)) (i : Nat) (p : Int × Int), chP i (a ++ [p]) = chP i a ++ (if p.1 = p.2 then [] else [(i + a.length, p.2 - p.1)])
  | [], i, p => by
    show (if p.1 = p.2 then [] else _) = _
    split <;> simp [chP]
  | q :: a, i, p => by
    have ih := chP_snoc a (i + 1) p
    show (if q.1 = q.2 then chP (i + 1) (a ++ [p]) else (i, q.2 - q.1) :: chP (i + 1) (a ++ [p])) = (if q.1 = q.2 then chP (i + 1) a else (i, q.2 - q.1) :: chP (i + 1) a) ++ _
    rw [ih, List.length_cons, show i + 1 + a.length = i + (a.length + 1) by omega]
    split <;> simp
theorem chP_same : ∀ (V : List Int) (i : Nat), chP i (V.zip V) = []
  | [], _ => rfl
  | x :: V, i => by
    show (if x = x then chP (i + 1) (V.zip V) else _) = []
    rw [if_pos rfl]
    exact chP_same V (i + 1)
theorem chP_snd : ∀ (l : List (Int × Int)) (i : Nat), (chP i l).map (·.2) = chL l
  | [], _ => rfl
  | p :: l, i => by
    have ih := chP_snd l (i + 1)
    show (if p.1 = p.2 then chP (i + 1) l else (i, p.2 - p.1) :: chP (i + 1) l).map (·.2) = if p.1 = p.2 then chL l else (p.2 - p.1) :: chL l
    split
    · exact ih
    · rw [List.map_cons, ih]
theorem zip_get {V V' : List Int} {k : Nat} {x y : Int} (hx : V[k]? = some x) (hy : V'[k]? = some y) : (V.zip V')[k]? = some (x, y) := List.getElem?_zip_eq_some.2 ⟨hx, hy⟩
theorem chP_take {V V' : List Int} {k : Nat} {x y : Int} (hx : V[k]? = some x) (hy : V'[k]? = some y) :
    chP 0 ((V.zip V').take (k + 1)) = chP 0 ((V.zip V').take k) ++ (if x = y then [] else [(k, y - x)]) := by
  have hz := zip_get hx hy
  have hk : k < (V.zip V').length := (List.getElem?_eq_some_iff.1 hz).1
  rw [take_succ hz, chP_snoc, List.length_take, Nat.zero_add, Nat.min_eq_left (by omega)]
theorem chP_pre (l : List (Int × Int)) (k : Nat) : chP 0 (l.take k) <+: chP 0 l := by
  have : ∀ (b a : List (Int × Int)) , chP 0 a <+: chP 0 (a ++ b) := by
    intro b
    induction b with
    | nil => intro a; rw [List.append_nil]; exact List.prefix_refl _
    | cons p b ih =>
      intro a
      have h1 := ih (a ++ [p])
      rw [List.append_assoc] at h1
      refine List.IsPrefix.trans ?_ h1
      rw [chP_snoc]
      exact List.prefix_append _ _
  have h := this (l.drop k) (l.take k)
  rwa [List.take_append_drop] at h
theorem v12_guard : Try.prog.eqGuardType Try.prog.depth 23 = false := by kernel_rfl
theorem changed_any (a b : List Value) (w : World) :
    Calls Try.prog 72 #[.agg a.toArray, .agg b.toArray] w fun e w' => e = .returned (.func (.func 106) #[] #[.pointer (some ⟨w.heap.size, 0, none⟩), .pointer (some ⟨w.heap.size + 1, 0, none⟩)]) ∧ w' = (w.alloc (.cells a.toArray 25)).alloc (.cells b.toArray 25) := by
  go_enter Try.func72, Try.ntmps72
  go_wp2
  go_ret
  exact ⟨by simp, by first | rfl | simp⟩
theorem wideList_load_mid {n : Nat} {P : Program} {ops : Array Oper} {rest : List Oper} {a : Act} {w : World} {Q : Exit → Act → World → Prop} {d : Option Tmp} {t ty : TypeId} {x : Operand} {pos : String} {af : Array Edge}
    (b o : Nat) (hx : a.eval x = .pointer (some ⟨b, o, none⟩)) (cs : List Value) (ds : TypeDesc) (hc : w.rangeAt b o cs)
    (hu : P.underlying t = some ds) (hd : ds.isRow = true) (hi : (P.info? t).map (·.size) = some cs.length)
    (h : wpListIn Fence.wide n P ops Q rest (a.put d (.agg cs.toArray)) w) : wpListIn Fence.wide n P ops Q (⟨d, .load t x, ty, pos, af, none⟩ :: rest) a w := by
  unfold wpListIn
  rw [if_pos (show Region.wanted _ _ = true from rfl)]
  refine ⟨fun f _ => trivial, ?_⟩
  have := wp_load_mid (P := P) (op := ⟨d, .load t x, ty, pos, af, none⟩) (a := a) (w := w) (K := wpListIn Fence.wide n P ops Q rest) (Q := Ord.QF) t x rfl b o hx cs ds hc hu hd hi h
  exact OrdY.upon_imp (fun _ _ h => h) _ (OrdY.upon_y this)
def CE (x : Nat × Int) (vs : Array Value) (_ : World) : Prop := vs = #[.int .i64 (x.1 : Int), .int .i64 x.2]
set_option maxRecDepth 10000 in
set_option maxHeartbeats 4000000 in
theorem changed_seq (g1 g2 t t' : Nat) (V V' : List Int) (m : Nat) (hV : V.length = 12) (hV' : V'.length = 12) (h32 : ∀ x ∈ V, in32 x) (h32' : ∀ x ∈ V', in32 x) :
    SeqR Try.prog m 106 #[.pointer (some ⟨g1, 0, none⟩), .pointer (some ⟨g2, 0, none⟩)] CE (fun k => k = g1 ∨ k = g2) (fun _ => False) (chP 0 (V.zip V'))
      (fun W => RcB W g1 t V ∧ RcB W g2 t' V') := by
  rintro l0 J Jx W ⟨h1, h2⟩ hJ hJx hY h0
  have hro : Fence.wide.round = none := rfl
  have HV := Lib.hid hV
  have HV' := Lib.hid hV'
  have H32 := Lib.hid h32
  have H32' := Lib.hid h32'
  have R1 := Lib.hid h1.row
  have R2 := Lib.hid h2.row
  have hq := v12_eql V V' hV hV'
  have hgd := v12_guard
  refine callsIn_of_wp Try.func106 rfl trivial ?_ hro
  simp only [Try.ntmps106, List.size_toArray, List.length_cons, List.length_nil, Nat.reduceAdd, Nat.reduceSub, Array.replicate_succ, Array.replicate_zero, List.push_toArray, List.append_toArray, List.nil_append, List.cons_append]
  by_cases hVV : V = V'
  · subst hVV
    rw [chP_same] at hY ⊢
    have hd : decide (V = V) = true := decide_eq_true rfl
    rw [hd] at hq
    clear hV hV' h32 h32' hd
    gi_wp2_with (with_reducible refine stop_loadI 23 ?_)
    refine go_ (wideList_load_mid g1 1 rfl _ _ R1.out Try.underlying23 rfl (by rw [List.length_map, HV.out]; kernel_rfl) ?_)
    gi_wp2_with (with_reducible refine stop_loadI 23 ?_)
    refine go_ (wideList_load_mid g2 1 rfl _ _ R2.out Try.underlying23 rfl (by rw [List.length_map, HV'.out]; kernel_rfl) ?_)
    gi_wp2
    refine bodyPost_ret (results_none rfl _ _ _) rfl ?_
    exact ⟨⟨_, rfl⟩, .inl h0⟩
  have hd : decide (V = V') = false := decide_eq_false hVV
  rw [hd] at hq
  clear hV hV' h32 h32' hd hVV
  gi_wp2_with (with_reducible refine stop_loadI 23 ?_)
  refine go_ (wideList_load_mid g1 1 rfl _ _ R1.out Try.underlying23 rfl (by rw [List.length_map, HV.out]; kernel_rfl) ?_)
  gi_wp2_with (with_reducible refine stop_loadI 23 ?_)
  refine go_ (wideList_load_mid g2 1 rfl _ _ R2.out Try.underlying23 rfl (by rw [List.length_map, HV'.out]; kernel_rfl) ?_)
  gi_wp2_with fail
  clear hq hgd
  gi_loopw [11] (fun i wr => ∃ k : Nat, k ≤ 12 ∧ i = .int .i64 k ∧ J (chP 0 ((V.zip V').take k)) wr ∧ RcB wr g1 t V ∧ RcB wr g2 t' V') (fun i wr => 12 - (intOf i).toNat)
  case atStart => exact ⟨0, by omega, rfl, by simpa [chP] using h0, h1, h2⟩
  case round =>
    clear h1 h2 h0 R1 R2 W
    obtain ⟨k, hk, rfl, hj, h1, h2⟩ := hrel
    by_cases hlt : k < 12
    · obtain ⟨x, hx⟩ : ∃ x, V[k]? = some x := ⟨V[k]'(by rw [HV.out]; exact hlt), List.getElem?_eq_getElem _⟩
      obtain ⟨y, hy⟩ : ∃ x, V'[k]? = some x := ⟨V'[k]'(by rw [HV'.out]; exact hlt), List.getElem?_eq_getElem _⟩
      have hxi := H32.out x (List.mem_of_getElem? hx)
      have hyi := H32'.out y (List.mem_of_getElem? hy)
      unfold in32 at hxi hyi
      have hts := chP_take hx hy
      have hpre := chP_pre (V.zip V') (k + 1)
      have Hx := Lib.hid hx
      have Hy := Lib.hid hy
      have Hts := Lib.hid hts
      have Hpre := Lib.hid hpre
      have hwr : IntKind.i64.wrap (y - x) = y - x := by rw [IntKind.wrap_i64]; omega
      clear hx hy hts hpre
      gi_wp2_with fail
      refine OrdY.region_ (fun w' => RcB w' g1 t V ∧ RcB w' g2 t' V') false [] (by kernel_rfl) (by kernel_rfl) ⟨h1, h2⟩ ?_
      replace hj := hJ _ _ _ hj ((Aw.refl (fun _ => False) wr).drew)
      have h12 : RcB wr.drew g1 t V ∧ RcB wr.drew g2 t' V' := ⟨h1, h2⟩
      generalize wr.drew = w1 at *
      clear h1 h2 wr
      ((with_reducible refine OrdY.e_p (v := ?_) ?_ ?_ ?_ ?_); rotate_left; (· exact rfl); (· kernel_rfl); (· intro w2; go_simp; try with_reducible rfl))
      (try simp only [Act.put, List.setIfInBounds_toArray, List.set_cons_zero, List.set_cons_succ])
      ((with_reducible refine OrdY.e_p (v := ?_) ?_ ?_ ?_ ?_); rotate_left; (· exact rfl); (· kernel_rfl); (· intro w2; go_simp; try with_reducible rfl))
      (try simp only [Act.put, List.setIfInBounds_toArray, List.set_cons_zero, List.set_cons_succ])
      ((with_reducible refine OrdY.e_p (v := ?_) ?_ ?_ ?_ ?_); rotate_left; (· exact rfl); (· kernel_rfl); (· intro w2; go_simp; try with_reducible rfl))
      (try simp only [Act.put, List.setIfInBounds_toArray, List.set_cons_zero, List.set_cons_succ])
      refine OrdY.e_loadS Try.underlying21 rfl (fun w' hS => (show _ ∧ RcB w' g2 t' V' from hS).2.at_ Hy.out) h12 rfl (by kernel_rfl) ?_
      (try simp only [Act.put, List.setIfInBounds_toArray, List.set_cons_zero, List.set_cons_succ])
      ((with_reducible refine OrdY.e_p (v := ?_) ?_ ?_ ?_ ?_); rotate_left; (· exact rfl); (· kernel_rfl); (· intro w2; go_simp; try with_reducible rfl))
      (try simp only [Act.put, List.setIfInBounds_toArray, List.set_cons_zero, List.set_cons_succ])
      ((with_reducible refine OrdY.e_p (v := ?_) ?_ ?_ ?_ ?_); rotate_left; (· exact rfl); (· kernel_rfl); (· intro w2; go_simp; try with_reducible rfl))
      (try simp only [Act.put, List.setIfInBounds_toArray, List.set_cons_zero, List.set_cons_succ])
      ((with_reducible refine OrdY.e_p (v := ?_) ?_ ?_ ?_ ?_); rotate_left; (· exact rfl); (· kernel_rfl); (· intro w2; go_simp; try with_reducible rfl))
      (try simp only [Act.put, List.setIfInBounds_toArray, List.set_cons_zero, List.set_cons_succ])
      ((with_reducible refine OrdY.e_p (v := ?_) ?_ ?_ ?_ ?_); rotate_left; (· exact rfl); (· kernel_rfl); (· intro w2; go_simp; try with_reducible rfl))
      (try simp only [Act.put, List.setIfInBounds_toArray, List.set_cons_zero, List.set_cons_succ])
      refine OrdY.e_loadS Try.underlying21 rfl (fun w' hS => (show RcB w' g1 t V ∧ _ from hS).1.at_ Hx.out) h12 rfl (by kernel_rfl) ?_
      (try simp only [Act.put, List.setIfInBounds_toArray, List.set_cons_zero, List.set_cons_succ])
      ((with_reducible refine OrdY.e_p (v := ?_) ?_ ?_ ?_ ?_); rotate_left; (· exact rfl); (· kernel_rfl); (· intro w2; go_simp; try with_reducible rfl))
      (try simp only [Act.put, List.setIfInBounds_toArray, List.set_cons_zero, List.set_cons_succ])
      ((with_reducible refine OrdY.e_p (v := ?_) ?_ ?_ ?_ ?_); rotate_left; (· exact rfl); (· kernel_rfl); (· intro w2; go_simp; try with_reducible rfl))
      (try simp only [Act.put, List.setIfInBounds_toArray, List.set_cons_zero, List.set_cons_succ])
      ((with_reducible refine OrdY.e_p (v := ?_) ?_ ?_ ?_ ?_); rotate_left; (· exact rfl); (· kernel_rfl); (· intro w2; go_simp; try with_reducible rfl))
      (try simp only [Act.put, List.setIfInBounds_toArray, List.set_cons_zero, List.set_cons_succ])
      refine OrdY.e_nil ?_
      obtain ⟨h1, h2⟩ := h12
      by_cases hxy : x = y
      · subst hxy
        have e := Hts.out
        rw [if_pos rfl, List.append_nil] at e
        have hz : x - x = 0 := by omega
        have He := Lib.hid e
        clear e
        gi_wp2
        repeat (refine ⟨fun f _ => trivial, ?_⟩; (try gi_wp2))
        go_roundw
        case rel => exact ⟨k + 1, by omega, by go_num, by rw [He.out]; exact hj, h1, h2⟩
        case measure => simp [intOf]; omega
      · have e := Hts.out
        rw [if_neg hxy] at e
        have hp : chP 0 ((V.zip V').take k) ++ [(k, y - x)] <+: chP 0 (V.zip V') := by rw [← e]; exact Hpre.out
        obtain ⟨fn, tmps, assign, body, hyy, hR⟩ := hY _ _ #[.int .i64 (k : Int), .int .i64 (y - x)] _ hj hp rfl
        rw [← e] at hR
        have hnz : ¬ y - x = 0 := by omega
        clear hp e
        gi_wp2
        refine ⟨fun hd => by simp [Fence.wide] at hd, hR.mono ?_⟩
        rintro e W3 (⟨rfl, hJ3, hk3⟩ | ⟨rfl, hJx3⟩)
        · have b1 : RcB W3 g1 t V := hk3.2 _ _ (.inl rfl) h1
          have b2 : RcB W3 g2 t' V' := hk3.2 _ _ (.inr rfl) h2
          gi_wp2
          go_roundw
          case rel => exact ⟨k + 1, by omega, by go_num, hJ3, b1, b2⟩
          case measure => simp [intOf]; omega
        · gi_wp2
          refine bodyPost_ret (results_none rfl _ _ _) rfl ?_
          exact ⟨⟨_, rfl⟩, .inr ⟨_, chP_pre _ _, hJx3⟩⟩
    · obtain rfl : k = 12 := by omega
      have ht : (V.zip V').take 12 = V.zip V' := List.take_of_length_le (by rw [List.length_zip, HV.out, HV'.out]; exact Nat.le_refl _)
      rw [ht] at hj
      gi_wp2
      go_end0
      exact ⟨⟨_, rfl⟩, .inl hj⟩

end Go.Proofs.Ytplgcfjcdjlnbaa
