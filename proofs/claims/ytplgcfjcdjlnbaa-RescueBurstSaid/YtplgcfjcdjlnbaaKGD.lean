/-
  Several texts in one: Rec1 Rec2 Rec3 Rec4.
-/
import Derived.Test.YtplgcfjcdjlnbaaKGC
import Derived.Deep.MidRow
import Derived.Test.YtplgcfjcdjlnbaaKGB
import Derived.Test.YtplgcfjcdjlnbaaKGA
/-
  rec.Key and the document's Key, walked.
-/
set_option linter.unusedSimpArgs false
set_option linter.unusedVariables false
namespace Go.Proofs.Ytplgcfjcdjlnbaa
open Go.RowKit NumLaw
attribute [local go_sem] Addr.add_mid

theorem rcC_size (t : Nat) (V : List Int) (hV : V.length = 12) : (rcC t V).length = 13 := by unfold rcC; rw [List.length_cons, List.length_map, hV]
/-- A record's block. -/
def RcB (w : World) (g t : Nat) (V : List Int) : Prop := w.heap[g]? = some (.cells (rcC t V).toArray 25)
theorem RcB.time {w : World} {g t : Nat} {V : List Int} (h : RcB w g t V) : w.cell? ⟨g, 0, none⟩ = some (.int .u32 (t : Int)) := blk_cell (i := 0) h rfl
theorem RcB.row {w : World} {g t : Nat} {V : List Int} (h : RcB w g t V) : w.rangeAt g 1 (V.map (Value.int .i32)) := fun j v hv => by
  refine blk_cell (i := 1 + j) h ?_
  rw [Nat.add_comm]
  simpa [rcC] using hv
theorem RcB.all {w : World} {g t : Nat} {V : List Int} (h : RcB w g t V) : w.rangeAt g 0 (rcC t V) := fun j v hv => by
  refine blk_cell (i := 0 + j) h ?_
  rw [Nat.zero_add]
  simpa using hv
theorem RcB.at_ {w : World} {g t : Nat} {V : List Int} (h : RcB w g t V) {k : Nat} {x : Int} (hx : V[k]? = some x) : w.cell? ⟨g, 1 + k, none⟩ = some (.int .i32 x) := h.row k _ (by simp [hx])
theorem i32_inf : (Try.prog.info? 21).map (fun i => (i.zero, i.size, i.bytes)) = some (some (.int .i32 0), 1, 4) := by kernel_rfl
theorem v12_index {V : List Int} (hV : V.length = 12) {k : Nat} {x : Int} (hx : V[k]? = some x) (w : World) : (Instr.index 23 (.agg (V.map (Value.int .i32)).toArray) (.int .i64 (k : Int))).run Try.prog w = .ok (.int .i32 x) w := by
  have hk : k < V.length := (List.getElem?_eq_some_iff.1 hx).1
  have hk12 : (k : Int) < 12 := by omega
  obtain ⟨i, hi⟩ := info_parts i32_inf
  simp [Instr.index, run_underlying Try.underlying23, asIntOf, go_sem, hk12, sizeOf, typeInfo, hi.1, hi.2.2.1, part, isAgg, run_underlying Try.underlying21, hx]
  intro h
  omega
set_option maxRecDepth 10000 in
set_option maxHeartbeats 2000000 in
theorem recKey_any (t : Nat) (V : List Int) (w : World) (ht : t < 4294967296) (hV : V.length = 12) (h32 : ∀ x ∈ V, in32 x) :
    Calls Try.prog 21 #[.agg (rcC t V).toArray] w (RetB w (recK t V)) := by
  have hb1 : Below w.heap.size w (w.alloc (.cells (rcC t V).toArray 25)) := (Below.refl _ _).alloc (Nat.le_refl _) _
  have hbox : RcB (w.alloc (.cells (rcC t V).toArray 25)) w.heap.size t V := heap_alloc_new w _
  go_enter Try.func21, Try.ntmps21
  go_wp2_with fail
  generalize (w.alloc (.cells (rcC t V).toArray 25)) = w1 at *
  have hf1 : fU 4 t = true := by
    unfold fU
    refine decide_eq_true ⟨by omega, by omega, ?_⟩
    show t < 4294967296
    exact ht
  have hf2 : ∀ x ∈ V, fI 4 x = true := fun x hx => by
    have := h32 x hx
    unfold in32 at this
    unfold fI
    refine decide_eq_true ⟨by omega, by omega, ?_⟩
    show -(128 * 256 ^ 3) ≤ x ∧ x < 128 * 256 ^ 3
    omega
  have Hf1 := Lib.hid hf1
  have Hf2 := Lib.hid hf2
  have H32 := Lib.hid h32
  have HV := Lib.hid hV
  have hwk : IntKind.u64.wrap (t : Int) = t := IntWalk.u64_in _ (by omega)
  clear hf1 hf2 h32 hV
  go_fit (wMake_any w1)
  rintro e w2 ⟨rfl, hw2, hb12⟩
  have hb2 := bnx hb1 hb12
  have hgw : w.heap.size ≤ w1.heap.size := hb1.size
  have hbox2 : RcB w2 w.heap.size t V := blk_old hbox hb12 (blk_lt hbox)
  have hlt := blk_lt hbox
  generalize w1.heap.size = g at *
  have c0 := hbox2.time
  clear hbox hb1 hb12
  go_wp2_with fail
  go_fit (wU_any g _ [] false 4 t w2 hw2 (by omega) (by simp))
  rintro e w3 ⟨rfl, v3, hw3, ha3, hu3⟩
  rw [Hf1.out] at hw3
  have hw3' : Wtr w3 g v3 (bytesN 4 t) false := hw3
  have hb3 := hb2.trans ((wtr_belowG hw2 ha3).mono hgw)
  have hbox3 : RcB w3 w.heap.size t V := (wtr_belowG hw2 ha3).block _ hlt |>.trans hbox2
  clear hw2 hw3 ha3 hu3 hb2 hbox2 c0 w2
  have hrow := hbox3.row
  have Hrow := Lib.hid hrow
  clear hrow
  go_wp2_with (first | (with_reducible refine stop_loadT 23 ?_) | (with_reducible refine stop_storeT 23 ?_))
  refine go_ (wpList_load_mid rfl _ _ rfl w.heap.size 1 rfl (V.map (Value.int .i32)) _ Hrow.out Try.underlying23 rfl (by rw [List.length_map, HV.out]; kernel_rfl) ?_)
  clear hbox3 Hrow
  go_wp2_with fail
  go_loopw [14] (fun i wr => ∃ (k : Nat) (v : Value) (lw : List UInt8), k ≤ 12 ∧ i = .int .i64 k ∧ Wtr wr g v lw false ∧ Below w.heap.size w wr ∧ lw.length ≤ 4 + 4 * k ∧ Hid (lw = bytesN 4 t ++ (V.take k).flatMap fun x => bytesN 4 (un x))) (fun i _ => 12 - (intOf i).toNat)
  case atStart => exact ⟨0, v3, bytesN 4 t, by omega, rfl, hw3', hb3, by rw [bytesN_len]; omega, Lib.hid (by simp)⟩
  case round =>
    clear hw3' hb3 w3
    obtain ⟨k, v, lw, hk, rfl, hw, hb, hlw, hlB⟩ := hrel
    by_cases hlt2 : k < 12
    · obtain ⟨x, hx⟩ : ∃ x, V[k]? = some x := ⟨V[k]'(by rw [HV.out]; exact hlt2), List.getElem?_eq_getElem _⟩
      have hxi := H32.out x (List.mem_of_getElem? hx)
      unfold in32 at hxi
      have hfx := Hf2.out x (List.mem_of_getElem? hx)
      have hts : V.take (k + 1) = V.take k ++ [x] := take_succ hx
      have Hts := Lib.hid hts
      have Hfx := Lib.hid hfx
      have Hx := Lib.hid hx
      clear hts hfx hx
      have hidx := fun w => v12_index HV.out Hx.out w
      go_wp2_with fail
      go_fit (wI_any g v lw false 4 x wr hw (by omega) (by omega))
      rintro e w6 ⟨rfl, v6, hw6, ha6, hu6⟩
      rw [Hfx.out] at hw6
      have hw6' : Wtr w6 g v6 (lw ++ bytesN 4 (un x)) false := hw6
      have hb6 := hb.trans ((wtr_belowG hw ha6).mono hgw)
      clear hw hw6 ha6 hu6 hb
      go_wp2
      go_roundw
      case rel => exact ⟨k + 1, v6, _, by omega, by go_num, hw6', hb6, by rw [List.length_append, bytesN_len]; omega, Lib.hid (by rw [Hts.out, List.flatMap_append, ← List.append_assoc, ← hlB.out]; simp)⟩
      case measure => simp [intOf]; omega
    · obtain rfl : k = 12 := by omega
      have e : lw = recK t V := by rw [hlB.out, List.take_of_length_le (by rw [HV.out]; exact Nat.le_refl _)]; rfl
      subst e
      go_wp2_with fail
      go_fit (wBytes_any g v _ false wr hw (by omega))
      rintro e w5 ⟨A5, c5, n5, rfl, hown5, hb5⟩
      go_wp2
      go_ret
      exact ⟨A5, c5, n5, rfl, own_mono hown5 hb.size, bnx hb hb5⟩

set_option maxRecDepth 10000 in
set_option maxHeartbeats 2000000 in
theorem qrecKey_any (t : Nat) (V : List Int) (w : World) (ht : t < 4294967296) (hV : V.length = 12) (h32 : ∀ x ∈ V, in32 x) :
    Calls Try.prog 22 #[.agg (rcC t V).toArray] w (RetB w (recK t V)) := by
  obtain ⟨i0, hi⟩ := info_parts u8_info
  have Hi := Lib.hid hi
  have hb1 : Below w.heap.size w (w.alloc (.cells (rcC t V).toArray 25)) := (Below.refl _ _).alloc (Nat.le_refl _) _
  have hbox : RcB (w.alloc (.cells (rcC t V).toArray 25)) w.heap.size t V := heap_alloc_new w _
  have H32 := Lib.hid h32
  have HV := Lib.hid hV
  have hwk : IntKind.u64.wrap (t : Int) = t := IntWalk.u64_in _ (by omega)
  have c0 := hbox.time
  have hb4 := fun w => qBytes_any 4 t w (by omega) (by omega)
  rw [show ((4 : Nat) : Int) = 4 from rfl] at hb4
  clear hi h32 hV
  go_enter Try.func22, Try.ntmps22
  go_wp2_with fail
  generalize (w.alloc (.cells (rcC t V).toArray 25)) = w1 at *
  go_fit (hb4 w1)
  rintro e w2 ⟨A2, c2, n2, rfl, hown2, hb12⟩
  have hl2 := own_len hown2
  rw [bytesN_len] at hl2
  subst hl2
  have hbox2 : RcB w2 w.heap.size t V := blk_old hbox hb12 (blk_lt hbox)
  have hb2 := bnx hb1 hb12
  have hgw : w.heap.size < w1.heap.size := blk_lt hbox
  have hw12 := hb12.size
  have hown3 := own_mono hown2 (base' := w.heap.size + 1) (by omega)
  clear hb4 hbox c0 hown2 hb12 hb1 hw12 hgw w1
  go_wp2_with fail
  go_loopw [3, 4] (fun s i wr => ∃ (k m : Nat) (A2 : Option Addr) (c2 : Nat), k ≤ 12 ∧ i = .int .i64 k ∧ s = .slice A2 m c2 ∧ m = 4 + 4 * k ∧ RcB wr w.heap.size t V ∧ wr.ownsRow (w.heap.size + 1) 5 1 (.slice A2 m c2) m (bv (bytesN 4 t ++ (V.take k).flatMap fun x => bytesN 4 (un x))) ∧ Below w.heap.size w wr) (fun _ i _ => 12 - (intOf i).toNat)
  case atStart => exact ⟨0, 4, A2, c2, by omega, rfl, rfl, rfl, hbox2, by simpa using hown3, hb2⟩
  case round =>
    clear hbox2 hown3 hb2 w2
    obtain ⟨k, m, A2, c2, hk, rfl, rfl, hm, hbox, hown, hb⟩ := hrel
    by_cases hlt2 : k < 12
    · obtain ⟨x, hx⟩ : ∃ x, V[k]? = some x := ⟨V[k]'(by rw [HV.out]; exact hlt2), List.getElem?_eq_getElem _⟩
      have hxi := H32.out x (List.mem_of_getElem? hx)
      unfold in32 at hxi
      have hts : V.take (k + 1) = V.take k ++ [x] := take_succ hx
      have Hts := Lib.hid hts
      have q0 := hbox.at_ hx
      have hun := un_wrap x
      have hult := un_lt x
      obtain ⟨ux, hux⟩ : ∃ u, u = un x := ⟨_, rfl⟩
      have Hux := Lib.hid hux
      rw [← hux] at hun hult
      have hb4 := qBytes_any 4 ux wr (by omega) hult
      rw [show ((4 : Nat) : Int) = 4 from rfl] at hb4
      have Hm := Lib.hid hm
      have hm60 : m ≤ 60 := by omega
      clear hts hx hux hm
      go_wp2_with fail
      go_fit hb4
      rintro e w6 ⟨A6, c6, n6, rfl, hown6, hb6⟩
      have hl6 := own_len hown6
      rw [bytesN_len] at hl6
      subst hl6
      have hr6 := Rd.own hown6
      have hcm6 := hr6.max
      unfold maxLen at hcm6
      have hownb := own_up hown hb6 (Nat.le_refl _)
      have hboxb : RcB w6 w.heap.size t V := blk_old hbox hb6 (blk_lt hbox)
      have hbb := bnx hb hb6
      have hlt := blk_lt hboxb
      clear q0 hun hb4 hown6 hb6 hown hbox hb
      go_wp2_with (at_builtin; refine stop_ ?_)
      refine go_ (wpList_appG (base := w.heap.size + 1) (n := m) Try.underlying26 Hi.out rfl (by omega) hownb rfl hr6 rfl (bv_one _) (k := m + 4) (ys := bv (bytesN 4 t ++ (V.take k).flatMap (fun x => bytesN 4 (un x)) ++ bytesN 4 ux)) rfl (bv_app _ _).symm (by unfold maxLen; omega) (by omega) (by omega) ?_)
      intro A7 c7 v7 hown7 hgr hob
      have hne6 : ∀ j, (Value.slice A2 m c2).ownBlock = some j → w.heap.size < j := fun j hj => by have := (own_blk hownb hj).1; omega
      have hbox7 : RcB v7 w.heap.size t V := (hgr.block _ hlt (fun e => by have := hne6 _ e.symm; omega)).trans hboxb
      have hb7 := Below.grown hbb hgr hbb.size (fun j hj => by have := hne6 j hj; omega)
      clear hgr hob hownb hboxb hbb hr6 hne6
      go_wp2
      go_roundw
      case rel =>
        refine ⟨k + 1, m + 4, A7, c7, by omega, by go_num, rfl, by rw [Hm.out]; omega, hbox7, ?_, hb7⟩
        rw [Hts.out, List.flatMap_append, ← List.append_assoc]
        simpa [← Hux.out] using hown7
      case measure => simp [intOf]; omega
    · obtain rfl : k = 12 := by omega
      have e : bytesN 4 t ++ (V.take 12).flatMap (fun x => bytesN 4 (un x)) = recK t V := by rw [List.take_of_length_le (by rw [HV.out]; exact Nat.le_refl _)]; rfl
      rw [e] at hown
      go_wp2
      go_ret
      exact ⟨A2, c2, m, rfl, own_mono hown (by omega), hb⟩

end Go.Proofs.Ytplgcfjcdjlnbaa

/-
  rec.changed: the iterator that tells the places of numbers that are others.
-/
set_option linter.unusedSimpArgs false
set_option linter.unusedVariables false
namespace Go.Proofs.Ytplgcfjcdjlnbaa
open Go.RowKit Go.Shelf NumLaw
attribute [local go_sem] Oper.semAt_some Addr.add_mid
attribute [-go_sem] run_eql_struct

/-- The changes: place and by how much. -/
def chP : Nat → List (Int × Int) → List (Nat × Int)
  | _, [] => []
  | i, p :: l => if p.1 = p.2 then chP (i + 1) l else (i, p.2 - p.1) :: chP (i + 1) l
theorem chP_snoc : ∀ (a : List (Int × Int)) (i : Nat) (p : Int × Int), chP i (a ++ [p]) = chP i a ++ (if p.1 = p.2 then [] else [(i + a.length, p.2 - p.1)])
  | [], i, p => by
    show (if p.1 = p.2 then [] else _) = _
    split <;> simp [chP]
  | q :: a, i, p => by
    have ih := chP_snoc a (i + 1) p
    show (if q.1 = q.2 then chP (i + 1) (a ++ [p]) else (i, q.2 - q.1) :: chP (i + 1) (a ++ [p])) = (if q.1 = q.2 then chP (i + 1) a else (i, q.2 - q.1) :: chP (i + 1) a) ++ _
    rw [ih, List.length_cons, show i + 1 + a.length = i + (a.length + 1) by omega]
    split <;> simp
theorem chP_same : ∀ (V : List Int) (i : Nat), chP i (V.zip V) = []
  | [], _ => rfl
  | x :: V, i => by
    show (if x = x then chP (i + 1) (V.zip V) else _) = []
    rw [if_pos rfl]
    exact chP_same V (i + 1)
theorem chP_snd : ∀ (l : List (Int × Int)) (i : Nat), (chP i l).map (·.2) = chL l
  | [], _ => rfl
  | p :: l, i => by
    have ih := chP_snd l (i + 1)
    show (if p.1 = p.2 then chP (i + 1) l else (i, p.2 - p.1) :: chP (i + 1) l).map (·.2) = if p.1 = p.2 then chL l else (p.2 - p.1) :: chL l
    split
    · exact ih
    · rw [List.map_cons, ih]
theorem zip_get {V V' : List Int} {k : Nat} {x y : Int} (hx : V[k]? = some x) (hy : V'[k]? = some y) : (V.zip V')[k]? = some (x, y) := List.getElem?_zip_eq_some.2 ⟨hx, hy⟩
theorem chP_take {V V' : List Int} {k : Nat} {x y : Int} (hx : V[k]? = some x) (hy : V'[k]? = some y) :
    chP 0 ((V.zip V').take (k + 1)) = chP 0 ((V.zip V').take k) ++ (if x = y then [] else [(k, y - x)]) := by
  have hz := zip_get hx hy
  have hk : k < (V.zip V').length := (List.getElem?_eq_some_iff.1 hz).1
  rw [take_succ hz, chP_snoc, List.length_take, Nat.zero_add, Nat.min_eq_left (by omega)]
theorem chP_pre (l : List (Int × Int)) (k : Nat) : chP 0 (l.take k) <+: chP 0 l := by
  have : ∀ (b a : List (Int × Int)) , chP 0 a <+: chP 0 (a ++ b) := by
    intro b
    induction b with
    | nil => intro a; rw [List.append_nil]; exact List.prefix_refl _
    | cons p b ih =>
      intro a
      have h1 := ih (a ++ [p])
      rw [List.append_assoc] at h1
      refine List.IsPrefix.trans ?_ h1
      rw [chP_snoc]
      exact List.prefix_append _ _
  have h := this (l.drop k) (l.take k)
  rwa [List.take_append_drop] at h
theorem v12_guard : Try.prog.eqGuardType Try.prog.depth 23 = false := by kernel_rfl
theorem changed_any (a b : List Value) (w : World) :
    Calls Try.prog 72 #[.agg a.toArray, .agg b.toArray] w fun e w' => e = .returned (.func (.func 106) #[] #[.pointer (some ⟨w.heap.size, 0, none⟩), .pointer (some ⟨w.heap.size + 1, 0, none⟩)]) ∧ w' = (w.alloc (.cells a.toArray 25)).alloc (.cells b.toArray 25) := by
  go_enter Try.func72, Try.ntmps72
  go_wp2
  go_ret
  exact ⟨by simp, by first | rfl | simp⟩
theorem wideList_load_mid {n : Nat} {P : Program} {ops : Array Oper} {rest : List Oper} {a : Act} {w : World} {Q : Exit → Act → World → Prop} {d : Option Tmp} {t ty : TypeId} {x : Operand} {pos : String} {af : Array Edge}
    (b o : Nat) (hx : a.eval x = .pointer (some ⟨b, o, none⟩)) (cs : List Value) (ds : TypeDesc) (hc : w.rangeAt b o cs)
    (hu : P.underlying t = some ds) (hd : ds.isRow = true) (hi : (P.info? t).map (·.size) = some cs.length)
    (h : wpListIn Fence.wide n P ops Q rest (a.put d (.agg cs.toArray)) w) : wpListIn Fence.wide n P ops Q (⟨d, .load t x, ty, pos, af, none⟩ :: rest) a w := by
  unfold wpListIn
  rw [if_pos (show Region.wanted _ _ = true from rfl)]
  refine ⟨fun f _ => trivial, ?_⟩
  have := wp_load_mid (P := P) (op := ⟨d, .load t x, ty, pos, af, none⟩) (a := a) (w := w) (K := wpListIn Fence.wide n P ops Q rest) (Q := Ord.QF) t x rfl b o hx cs ds hc hu hd hi h
  exact OrdY.upon_imp (fun _ _ h => h) _ (OrdY.upon_y this)
def CE (x : Nat × Int) (vs : Array Value) (_ : World) : Prop := vs = #[.int .i64 (x.1 : Int), .int .i64 x.2]
set_option maxRecDepth 10000 in
set_option maxHeartbeats 4000000 in
theorem changed_seq (g1 g2 t t' : Nat) (V V' : List Int) (m : Nat) (hV : V.length = 12) (hV' : V'.length = 12) (h32 : ∀ x ∈ V, in32 x) (h32' : ∀ x ∈ V', in32 x) :
    SeqR Try.prog m 106 #[.pointer (some ⟨g1, 0, none⟩), .pointer (some ⟨g2, 0, none⟩)] CE (fun k => k = g1 ∨ k = g2) (fun _ => False) (chP 0 (V.zip V'))
      (fun W => RcB W g1 t V ∧ RcB W g2 t' V') := by
  rintro l0 J Jx W ⟨h1, h2⟩ hJ hJx hY h0
  have hro : Fence.wide.round = none := rfl
  have HV := Lib.hid hV
  have HV' := Lib.hid hV'
  have H32 := Lib.hid h32
  have H32' := Lib.hid h32'
  have R1 := Lib.hid h1.row
  have R2 := Lib.hid h2.row
  have hq := v12_eql V V' hV hV'
  have hgd := v12_guard
  refine callsIn_of_wp Try.func106 rfl trivial ?_ hro
  simp only [Try.ntmps106, List.size_toArray, List.length_cons, List.length_nil, Nat.reduceAdd, Nat.reduceSub, Array.replicate_succ, Array.replicate_zero, List.push_toArray, List.append_toArray, List.nil_append, List.cons_append]
  by_cases hVV : V = V'
  · subst hVV
    rw [chP_same] at hY ⊢
    have hd : decide (V = V) = true := decide_eq_true rfl
    rw [hd] at hq
    clear hV hV' h32 h32' hd
    gi_wp2_with (with_reducible refine stop_loadI 23 ?_)
    refine go_ (wideList_load_mid g1 1 rfl _ _ R1.out Try.underlying23 rfl (by rw [List.length_map, HV.out]; kernel_rfl) ?_)
    gi_wp2_with (with_reducible refine stop_loadI 23 ?_)
    refine go_ (wideList_load_mid g2 1 rfl _ _ R2.out Try.underlying23 rfl (by rw [List.length_map, HV'.out]; kernel_rfl) ?_)
    gi_wp2
    refine bodyPost_ret (results_none rfl _ _ _) rfl ?_
    exact ⟨⟨_, rfl⟩, .inl h0⟩
  have hd : decide (V = V') = false := decide_eq_false hVV
  rw [hd] at hq
  clear hV hV' h32 h32' hd hVV
  gi_wp2_with (with_reducible refine stop_loadI 23 ?_)
  refine go_ (wideList_load_mid g1 1 rfl _ _ R1.out Try.underlying23 rfl (by rw [List.length_map, HV.out]; kernel_rfl) ?_)
  gi_wp2_with (with_reducible refine stop_loadI 23 ?_)
  refine go_ (wideList_load_mid g2 1 rfl _ _ R2.out Try.underlying23 rfl (by rw [List.length_map, HV'.out]; kernel_rfl) ?_)
  gi_wp2_with fail
  clear hq hgd
  gi_loopw [11] (fun i wr => ∃ k : Nat, k ≤ 12 ∧ i = .int .i64 k ∧ J (chP 0 ((V.zip V').take k)) wr ∧ RcB wr g1 t V ∧ RcB wr g2 t' V') (fun i wr => 12 - (intOf i).toNat)
  case atStart => exact ⟨0, by omega, rfl, by simpa [chP] using h0, h1, h2⟩
  case round =>
    clear h1 h2 h0 R1 R2 W
    obtain ⟨k, hk, rfl, hj, h1, h2⟩ := hrel
    by_cases hlt : k < 12
    · obtain ⟨x, hx⟩ : ∃ x, V[k]? = some x := ⟨V[k]'(by rw [HV.out]; exact hlt), List.getElem?_eq_getElem _⟩
      obtain ⟨y, hy⟩ : ∃ x, V'[k]? = some x := ⟨V'[k]'(by rw [HV'.out]; exact hlt), List.getElem?_eq_getElem _⟩
      have hxi := H32.out x (List.mem_of_getElem? hx)
      have hyi := H32'.out y (List.mem_of_getElem? hy)
      unfold in32 at hxi hyi
      have hts := chP_take hx hy
      have hpre := chP_pre (V.zip V') (k + 1)
      have Hx := Lib.hid hx
      have Hy := Lib.hid hy
      have Hts := Lib.hid hts
      have Hpre := Lib.hid hpre
      have hwr : IntKind.i64.wrap (y - x) = y - x := by rw [IntKind.wrap_i64]; omega
      clear hx hy hts hpre
      gi_wp2_with fail
      refine OrdY.region_ (fun w' => RcB w' g1 t V ∧ RcB w' g2 t' V') false [] (by kernel_rfl) (by kernel_rfl) ⟨h1, h2⟩ ?_
      replace hj := hJ _ _ _ hj ((Aw.refl (fun _ => False) wr).drew)
      have h12 : RcB wr.drew g1 t V ∧ RcB wr.drew g2 t' V' := ⟨h1, h2⟩
      generalize wr.drew = w1 at *
      clear h1 h2 wr
      ((with_reducible refine OrdY.e_p (v := ?_) ?_ ?_ ?_ ?_); rotate_left; (· exact rfl); (· kernel_rfl); (· intro w2; go_simp; try with_reducible rfl))
      (try simp only [Act.put, List.setIfInBounds_toArray, List.set_cons_zero, List.set_cons_succ])
      ((with_reducible refine OrdY.e_p (v := ?_) ?_ ?_ ?_ ?_); rotate_left; (· exact rfl); (· kernel_rfl); (· intro w2; go_simp; try with_reducible rfl))
      (try simp only [Act.put, List.setIfInBounds_toArray, List.set_cons_zero, List.set_cons_succ])
      ((with_reducible refine OrdY.e_p (v := ?_) ?_ ?_ ?_ ?_); rotate_left; (· exact rfl); (· kernel_rfl); (· intro w2; go_simp; try with_reducible rfl))
      (try simp only [Act.put, List.setIfInBounds_toArray, List.set_cons_zero, List.set_cons_succ])
      refine OrdY.e_loadS Try.underlying21 rfl (fun w' hS => (show _ ∧ RcB w' g2 t' V' from hS).2.at_ Hy.out) h12 rfl (by kernel_rfl) ?_
      (try simp only [Act.put, List.setIfInBounds_toArray, List.set_cons_zero, List.set_cons_succ])
      ((with_reducible refine OrdY.e_p (v := ?_) ?_ ?_ ?_ ?_); rotate_left; (· exact rfl); (· kernel_rfl); (· intro w2; go_simp; try with_reducible rfl))
      (try simp only [Act.put, List.setIfInBounds_toArray, List.set_cons_zero, List.set_cons_succ])
      ((with_reducible refine OrdY.e_p (v := ?_) ?_ ?_ ?_ ?_); rotate_left; (· exact rfl); (· kernel_rfl); (· intro w2; go_simp; try with_reducible rfl))
      (try simp only [Act.put, List.setIfInBounds_toArray, List.set_cons_zero, List.set_cons_succ])
      ((with_reducible refine OrdY.e_p (v := ?_) ?_ ?_ ?_ ?_); rotate_left; (· exact rfl); (· kernel_rfl); (· intro w2; go_simp; try with_reducible rfl))
      (try simp only [Act.put, List.setIfInBounds_toArray, List.set_cons_zero, List.set_cons_succ])
      ((with_reducible refine OrdY.e_p (v := ?_) ?_ ?_ ?_ ?_); rotate_left; (· exact rfl); (· kernel_rfl); (· intro w2; go_simp; try with_reducible rfl))
      (try simp only [Act.put, List.setIfInBounds_toArray, List.set_cons_zero, List.set_cons_succ])
      refine OrdY.e_loadS Try.underlying21 rfl (fun w' hS => (show RcB w' g1 t V ∧ _ from hS).1.at_ Hx.out) h12 rfl (by kernel_rfl) ?_
      (try simp only [Act.put, List.setIfInBounds_toArray, List.set_cons_zero, List.set_cons_succ])
      ((with_reducible refine OrdY.e_p (v := ?_) ?_ ?_ ?_ ?_); rotate_left; (· exact rfl); (· kernel_rfl); (· intro w2; go_simp; try with_reducible rfl))
      (try simp only [Act.put, List.setIfInBounds_toArray, List.set_cons_zero, List.set_cons_succ])
      ((with_reducible refine OrdY.e_p (v := ?_) ?_ ?_ ?_ ?_); rotate_left; (· exact rfl); (· kernel_rfl); (· intro w2; go_simp; try with_reducible rfl))
      (try simp only [Act.put, List.setIfInBounds_toArray, List.set_cons_zero, List.set_cons_succ])
      ((with_reducible refine OrdY.e_p (v := ?_) ?_ ?_ ?_ ?_); rotate_left; (· exact rfl); (· kernel_rfl); (· intro w2; go_simp; try with_reducible rfl))
      (try simp only [Act.put, List.setIfInBounds_toArray, List.set_cons_zero, List.set_cons_succ])
      refine OrdY.e_nil ?_
      obtain ⟨h1, h2⟩ := h12
      by_cases hxy : x = y
      · subst hxy
        have e := Hts.out
        rw [if_pos rfl, List.append_nil] at e
        have hz : x - x = 0 := by omega
        have He := Lib.hid e
        clear e
        gi_wp2
        repeat (refine ⟨fun f _ => trivial, ?_⟩; (try gi_wp2))
        go_roundw
        case rel => exact ⟨k + 1, by omega, by go_num, by rw [He.out]; exact hj, h1, h2⟩
        case measure => simp [intOf]; omega
      · have e := Hts.out
        rw [if_neg hxy] at e
        have hp : chP 0 ((V.zip V').take k) ++ [(k, y - x)] <+: chP 0 (V.zip V') := by rw [← e]; exact Hpre.out
        obtain ⟨fn, tmps, assign, body, hyy, hR⟩ := hY _ _ #[.int .i64 (k : Int), .int .i64 (y - x)] _ hj hp rfl
        rw [← e] at hR
        have hnz : ¬ y - x = 0 := by omega
        clear hp e
        gi_wp2
        refine ⟨fun hd => by simp [Fence.wide] at hd, hR.mono ?_⟩
        rintro e W3 (⟨rfl, hJ3, hk3⟩ | ⟨rfl, hJx3⟩)
        · have b1 : RcB W3 g1 t V := hk3.2 _ _ (.inl rfl) h1
          have b2 : RcB W3 g2 t' V' := hk3.2 _ _ (.inr rfl) h2
          gi_wp2
          go_roundw
          case rel => exact ⟨k + 1, by omega, by go_num, hJ3, b1, b2⟩
          case measure => simp [intOf]; omega
        · gi_wp2
          refine bodyPost_ret (results_none rfl _ _ _) rfl ?_
          exact ⟨⟨_, rfl⟩, .inr ⟨_, chP_pre _ _, hJx3⟩⟩
    · obtain rfl : k = 12 := by omega
      have ht : (V.zip V').take 12 = V.zip V' := List.take_of_length_le (by rw [List.length_zip, HV.out, HV'.out]; exact Nat.le_refl _)
      rw [ht] at hj
      gi_wp2
      go_end0
      exact ⟨⟨_, rfl⟩, .inl hj⟩

end Go.Proofs.Ytplgcfjcdjlnbaa

/-
  rec.Delta walked (printed by gen_rec3.py).
-/
set_option linter.unusedSimpArgs false
set_option linter.unusedVariables false
namespace Go.Proofs.Ytplgcfjcdjlnbaa
open Go.RowKit Go.Shelf NumLaw
attribute [local go_sem] Oper.semAt_some Addr.add_mid

/-- The mask of changes. -/
def mkS : List (Nat × Int) → Nat
  | [] => 0
  | y :: p => 2 ^ y.1 + mkS p
theorem mkS_snoc : ∀ (p : List (Nat × Int)) (x : Nat × Int), mkS (p ++ [x]) = mkS p + 2 ^ x.1
  | [], x => by simp [mkS]
  | y :: p, x => by
    show 2 ^ y.1 + mkS (p ++ [x]) = 2 ^ y.1 + mkS p + 2 ^ x.1
    rw [mkS_snoc p x]; omega
theorem chP_mk : ∀ (l : List (Int × Int)) (i : Nat) (pre : List (Nat × Int)) (x : Nat × Int), pre ++ [x] <+: chP i l → mkS pre + 2 ^ i ≤ 2 ^ x.1 ∧ i ≤ x.1 ∧ x.1 < i + l.length
  | [], i, pre, x, h => by
    have := List.prefix_nil.1 h
    simp at this
  | p :: l, i, pre, x, h => by
    have hp : 2 ^ (i + 1) = 2 ^ i + 2 ^ i := by rw [Nat.pow_succ]; omega
    have hpos : 0 < 2 ^ i := Nat.pow_pos (by omega)
    have e : chP i (p :: l) = if p.1 = p.2 then chP (i + 1) l else (i, p.2 - p.1) :: chP (i + 1) l := rfl
    rw [e] at h
    rw [List.length_cons]
    split at h
    · obtain ⟨a, b, c⟩ := chP_mk l (i + 1) pre x h
      exact ⟨by omega, by omega, by omega⟩
    · cases pre with
      | nil =>
        obtain ⟨r, hr⟩ := h
        injection hr with h1 h2
        subst h1
        exact ⟨by simp [mkS], Nat.le_refl _, by simp only; omega⟩
      | cons y pre =>
        obtain ⟨r, hr⟩ := h
        injection hr with h1 h2
        obtain ⟨a, b, c⟩ := chP_mk l (i + 1) pre x ⟨r, h2⟩
        subst h1
        exact ⟨by show 2 ^ i + mkS pre + 2 ^ i ≤ _; omega, by omega, by omega⟩
theorem chP_mkL : ∀ (l : List (Int × Int)) (i : Nat), mkS (chP i l) = 2 ^ i * mkL l
  | [], i => by simp [chP, mkS, mkL]
  | p :: l, i => by
    have ih := chP_mkL l (i + 1)
    show mkS (if p.1 = p.2 then chP (i + 1) l else (i, p.2 - p.1) :: chP (i + 1) l) = 2 ^ i * ((if p.1 = p.2 then 0 else 1) + 2 * mkL l)
    split
    · rw [ih, Nat.pow_succ, Nat.zero_add, Nat.mul_assoc]
    · show 2 ^ i + mkS (chP (i + 1) l) = _
      rw [ih, Nat.pow_succ, Nat.mul_add, Nat.mul_one, Nat.mul_assoc]
theorem later_wrap {a b : Nat} (ha : a < 4294967296) (hb : b < 4294967296) : IntKind.u32.wrap ((b : Int) - (a : Int)) = (laterN a b : Int) := by
  rw [IntKind.wrap_u32]
  unfold laterN
  omega
theorem or_bit {m i : Nat} (hm : m < 2 ^ i) (hi : i < 12) : bits .or .u64 (m : Int) (2 ^ i) = ((m + 2 ^ i : Nat) : Int) := by
  have h12 : 2 ^ i ≤ 2 ^ 12 := Nat.pow_le_pow_right (by omega) (by omega)
  rw [show ((2 : Int) ^ i) = ((2 ^ i : Nat) : Int) by simp, u64_or_nat _ _ (by omega) (by omega)]
  have := Nat.two_pow_add_eq_or_of_lt hm 1
  rw [Nat.mul_one] at this
  rw [Nat.or_comm, ← this, Nat.add_comm]
/-- What holds ahead of a round of the first loop: the mask of the changes. -/
def D1 (g t t' : Nat) (V V' : List Int) (w : World) (pre : List (Nat × Int)) (W : World) : Prop :=
  RcB W g t V ∧ RcB W (g + 1) t' V' ∧ W.heap[g + 2]? = some (.cells #[.int .u64 (mkS pre : Int)] 107) ∧ Below g w W
/-- Of the second one: the bytes; M: where its boxes lie. -/
def D2 (g go bs M q : Nat) (w : World) (X : List UInt8) (pre : List (Nat × Int)) (W : World) : Prop :=
  Below g w W ∧ W.heap[q]? = some (.deferred (some [])) ∧ ∃ A n c, W.heap[go]? = some (.cells #[.slice A n c] 26) ∧ W.ownsRow bs 5 1 (.slice A n c) n (bv (X ++ (pre.map (·.2)).flatMap fun d => varB (zigV d))) ∧ (∀ k, (Value.slice A n c).ownBlock = some k → k ≠ go ∧ k ≠ q ∧ (k < M ∨ M + 4 ≤ k)) ∧ n ≤ 20 + 10 * pre.length
theorem chL_rng : ∀ (l : List (Int × Int)), (∀ p ∈ l, in32 p.1 ∧ in32 p.2) → ∀ d ∈ chL l, -9223372036854775808 ≤ d ∧ d ≤ 9223372036854775807
  | [], _, d, h => by simp [chL] at h
  | p :: l, hl, d, h => by
    have ih := chL_rng l (fun q hq => hl q (List.mem_cons_of_mem _ hq))
    obtain ⟨h1, h2⟩ := hl p List.mem_cons_self
    unfold in32 at h1 h2
    have e : chL (p :: l) = if p.1 = p.2 then chL l else (p.2 - p.1) :: chL l := rfl
    rw [e] at h
    split at h
    · exact ih d h
    · rcases List.mem_cons.1 h with rfl | h
      · omega
      · exact ih d h
theorem chP_len : ∀ (l : List (Int × Int)) (i : Nat), (chP i l).length ≤ l.length
  | [], i => Nat.le_refl _
  | p :: l, i => by
    have ih := chP_len l (i + 1)
    show (if p.1 = p.2 then chP (i + 1) l else (i, p.2 - p.1) :: chP (i + 1) l).length ≤ _
    split
    · simp; omega
    · simp; omega

set_option maxRecDepth 10000 in
set_option maxHeartbeats 8000000 in
theorem recDelta_any (t : Nat) (V : List Int) (t' : Nat) (V' : List Int) (w : World) (ht : t < 4294967296) (hV : V.length = 12) (h32 : ∀ x ∈ V, in32 x) (ht' : t' < 4294967296) (hV' : V'.length = 12) (h32' : ∀ x ∈ V', in32 x) :
    Calls Try.prog 23 #[.agg (rcC t V).toArray, .agg (rcC t' V').toArray] w (RetB w (recD t V t' V')) := by
  obtain ⟨i0, hi⟩ := info_parts u8_info
  have Hi := Lib.hid hi
  have HV := Lib.hid hV
  have HV' := Lib.hid hV'
  have H32 := Lib.hid h32
  have H32' := Lib.hid h32'
  have hzl : (V.zip V').length = 12 := by rw [List.length_zip, hV, hV']; rfl
  have Hzl := Lib.hid hzl
  clear hi hV hV' h32 h32' hzl
  obtain ⟨a0, a1, a2, hs, hb⟩ := al3 w (.cells (rcC t V).toArray 25) (.cells (rcC t' V').toArray 25) (.cells #[.int .u64 0] 107)
  refine (callsIn_wide (n := 9)).1 ?_
  have hro : Fence.wide.round = none := rfl
  refine callsIn_of_wp_marks Try.func23 rfl trivial ?_ hro
  simp only [Try.ntmps23, List.size_toArray, List.length_cons, List.length_nil, Nat.reduceAdd, Nat.reduceSub, Array.replicate_succ, Array.replicate_zero, List.push_toArray, List.append_toArray, List.nil_append, List.cons_append]
  gi_wp2_with (with_reducible refine stop_loadI 25 ?_)
  rw [show w.heap.size + 1 + 1 = w.heap.size + 2 by omega]
  generalize (((w.alloc (.cells (rcC t V).toArray 25)).alloc (.cells (rcC t' V').toArray 25)).alloc (.cells #[.int .u64 0] 107)) = w1 at *
  replace a0 : RcB w1 w.heap.size t V := a0
  replace a1 : RcB w1 (w.heap.size + 1) t' V' := a1
  refine go_ (wideList_load_mid w.heap.size 0 rfl _ _ a0.all Try.underlying25 rfl (by rw [rcC_size t V HV.out]; kernel_rfl) ?_)
  gi_wp2_with (with_reducible refine stop_loadI 25 ?_)
  refine go_ (wideList_load_mid (w.heap.size + 1) 0 rfl _ _ a1.all Try.underlying25 rfl (by rw [rcC_size t' V' HV'.out]; kernel_rfl) ?_)
  gi_wp2_with fail
  refine ⟨trivial, (callsIn_wide.2 (changed_any (rcC t V) (rcC t' V') w1)).mono ?_⟩
  rintro x w2 ⟨rfl, rfl⟩
  obtain ⟨d0, d1, hs2, hb2⟩ := al2 w1 (.cells (rcC t V).toArray 25) (.cells (rcC t' V').toArray 25)
  rw [hs] at d0 d1 hs2 hb2 ⊢
  rw [show w.heap.size + 3 + 1 = w.heap.size + 4 by omega] at d1 ⊢
  rw [show w.heap.size + 3 + 2 = w.heap.size + 5 by omega] at hs2
  generalize ((w1.alloc (.cells (rcC t V).toArray 25)).alloc (.cells (rcC t' V').toArray 25)) = w2 at *
  replace d0 : RcB w2 (w.heap.size + 3) t V := d0
  replace d1 : RcB w2 (w.heap.size + 4) t' V' := d1
  have b0 : RcB w2 w.heap.size t V := (hb2.block _ (by omega)).trans a0
  have b1 : RcB w2 (w.heap.size + 1) t' V' := (hb2.block _ (by omega)).trans a1
  have b2 := (hb2.block _ (show w.heap.size + 2 < w.heap.size + 3 by omega)).trans a2
  replace hb := hb.trans (hb2.mono (by omega))
  clear a0 a1 a2 hb2 hs w1
  gi_wp2_with fail
  refine rangeFunc_R rfl (enters_of Try.func106 (by kernel_rfl) rfl) (changed_seq (w.heap.size + 3) (w.heap.size + 4) t t' V V' _ HV.out HV'.out H32.out H32'.out)
    (fun W hW hsz => ⟨hW.keep d0 (fun hk => hk), hW.keep d1 (fun hk => hk)⟩)
    (fun x vs W hE => by rw [show vs = _ from hE]; rfl) (fun x vs A' B' hE hab => hE) (fun k hk => hk.elim)
    (fun k hk => by rw [hs2]; omega)
    (D1 w.heap.size t t' V V' w) (fun _ _ _ => False) ?hI (fun _ _ _ _ h _ => h) ?h0
    (fun vs => { tmps := #[.agg (rcC t V).toArray, .agg (rcC t' V').toArray, .pointer (some ⟨w.heap.size, 0, none⟩), .pointer (some ⟨w.heap.size + 1, 0, none⟩), .slice none 0 0, .pointer (some ⟨w.heap.size + 2, 0, none⟩), vs.getD 0 undef, undef, undef, undef, .agg (rcC t V).toArray, .agg (rcC t' V').toArray, .func (.func 106) #[] #[.pointer (some ⟨w.heap.size + 3, 0, none⟩), .pointer (some ⟨w.heap.size + 4, 0, none⟩)], vs.getD 0 undef, vs.getD 1 undef, undef, undef, undef, undef, undef, undef, undef, undef, undef, undef, undef, undef, undef, undef, undef, undef, undef, undef, undef, undef, undef, undef, undef, undef, undef], defers := [] }) ?assign ?body ?done (fun _ _ _ _ h => h.elim)
  case hI =>
    rintro pre A' B' ⟨i1, i2, i3, i4⟩ hab
    have hn : ∀ k, (False ∨ k = w2.heap.size ∨ k = w2.heap.size + 1) → w.heap.size + 5 ≤ k ∧ k ≤ w.heap.size + 6 := fun k hk => hk.elim (fun h => h.elim) (fun hk => by rw [hs2] at hk; omega)
    have hA := blk_lt i3
    exact ⟨hab.keep i1 (fun hk => by have := hn _ hk; omega), hab.keep i2 (fun hk => by have := hn _ hk; omega), hab.keep i3 (fun hk => by have := hn _ hk; omega), below_awG i4 hab (fun k hk => by have := hn k hk; omega) (by omega)⟩
  case h0 => exact ⟨b0, b1, b2, hb⟩
  case assign =>
    rintro ll x vs W K hE hK
    obtain rfl : vs = _ := hE
    gi_wp2
    exact hK
  case body =>
    rintro pre x vs W ⟨i1, i2, i3, i4⟩ hE hpre hge
    obtain rfl : vs = _ := hE
    rw [hs2] at hge
    obtain ⟨m1, m2, m3⟩ := chP_mk _ _ _ _ hpre
    obtain ⟨xi, xd⟩ := x
    simp only at m1 m2 m3
    rw [Hzl.out] at m3
    have hsn := mkS_snoc pre (xi, xd)
    simp only at hsn
    have hor := or_bit (m := mkS pre) (i := xi) (by omega) (by omega)
    rw [← hsn] at hor
    have hwi : IntKind.u64.wrap ((2 : Int) ^ xi) = 2 ^ xi := by
      have h12 : 2 ^ xi ≤ 2 ^ 12 := Nat.pow_le_pow_right (by omega) (by omega)
      rw [show ((2 : Int) ^ xi) = ((2 ^ xi : Nat) : Int) by simp]
      exact IntWalk.u64_in _ (by omega)
    have Hpre := Lib.hid hpre
    clear hpre m1 m2 hsn
    gi_wp2_with fail
    refine Ord.regionIn_ (fun _ => True) true [15] (by kernel_rfl) (by kernel_rfl) (by kernel_rfl) (fun ⟨_, _, h⟩ => h) trivial ?_
    have j1 : RcB W.drew w.heap.size t V := i1
    have j2 : RcB W.drew (w.heap.size + 1) t' V' := i2
    have j3 : W.drew.heap[w.heap.size + 2]? = _ := i3
    have j4 := i4.drew
    have hKW : Aw (fun _ => False) W W.drew := (Aw.refl _ W).drew
    generalize W.drew = W1 at *
    have c2 := blk_cell (i := 0) (v := .int .u64 (mkS pre : Int)) j3 rfl
    refine Ord.e_load Try.underlying107 rfl c2 rfl (by rfl) (by kernel_rfl) ?_
    (try simp only [Act.put, List.setIfInBounds_toArray, List.set_cons_zero, List.set_cons_succ])
    ((with_reducible refine Ord.e_p (v := ?_) ?_ ?_ ?_ ?_); rotate_left; (· exact rfl); (· kernel_rfl); (· intro w2; go_simp; try with_reducible rfl))
    (try simp only [Act.put, List.setIfInBounds_toArray, List.set_cons_zero, List.set_cons_succ])
    ((with_reducible refine Ord.e_p (v := ?_) ?_ ?_ ?_ ?_); rotate_left; (· exact rfl); (· kernel_rfl); (· intro w2; go_simp; try with_reducible rfl))
    (try simp only [Act.put, List.setIfInBounds_toArray, List.set_cons_zero, List.set_cons_succ])
    ((with_reducible refine Ord.e_p (v := ?_) ?_ ?_ ?_ ?_); rotate_left; (· exact rfl); (· kernel_rfl); (· intro w2; go_simp; try with_reducible rfl))
    (try simp only [Act.put, List.setIfInBounds_toArray, List.set_cons_zero, List.set_cons_succ])
    have s2 := blk_free (i := 0) j3
    refine Ord.e_x rfl (by kernel_rfl) ?_
    go_wp2
    refine Ord.Seg.go trivial (fun h => by cases h) ?_
    (try simp only [Act.put, List.setIfInBounds_toArray, List.set_cons_zero, List.set_cons_succ])
    refine Ord.e_nil ?_
    have hA5 : Aw (fun k => k = w.heap.size + 2) W1 (W1.setCell ⟨w.heap.size + 2, 0, none⟩ (.int .u64 (mkS (pre ++ [(xi, xd)]) : Int))) := (Aw.refl _ _).set _ rfl
    have m1 := hA5.keep j1 (by omega)
    have m2 := hA5.keep j2 (by omega)
    have m4 := blk_set (i := 0) j3 (.int .u64 (mkS (pre ++ [(xi, xd)]) : Int))
    have m5 := below_awG j4 hA5 (fun k hk => by omega) (by have := blk_lt j3; omega)
    refine ⟨((hKW.mono (U' := fun k => k = w.heap.size + 2) (fun _ h => h.elim)).trans hA5).keeps fun k hk hu => ?_, m1, m2, m4, m5⟩
    rcases hk with (rfl | rfl) | rfl | rfl <;> (try rw [hs2] at hu) <;> omega
  case done =>
    rintro W ⟨i1, i2, i3, i4⟩ hd
    rw [chP_mkL, Nat.pow_zero, Nat.one_mul] at i3
    gi_wp2_with fail
    have hwm := blk_lt hd
    rw [hs2] at hwm
    obtain ⟨L, hL⟩ : ∃ L, L = laterN t t' := ⟨_, rfl⟩
    have hLl := later_lt t t'
    rw [← hL] at hLl
    have hsub : IntKind.u32.wrap ((t' : Int) - (t : Int)) = (L : Int) := by rw [hL]; exact later_wrap ht ht'
    obtain ⟨M, hM⟩ : ∃ M, M = mkL (V.zip V') := ⟨_, rfl⟩
    have hMl := mkL_lt (V.zip V')
    rw [Hzl.out] at hMl
    have hMl : mkL (V.zip V') < 4096 := hMl
    rw [← hM] at hMl i3
    have HL := Lib.hid hL
    have HM := Lib.hid hM
    have hw2g : w.heap.size ≤ w2.heap.size := by omega
    clear hL hM b0 b1 b2 d0 d1 hb hs2
    refine OrdY.region_m [6, 8, 9, 10] [[0, 1, 2, 3, 4, 5, 6, 7, 8, 9, 10, 11], [0, 1, 2, 3, 4, 5, 6, 7, 8, 10, 9, 11], [0, 1, 2, 3, 4, 5, 6, 7, 10, 8, 9, 11], [10, 0, 1, 2, 3, 4, 5, 6, 7, 8, 9, 11]] (fun w' => Below W.heap.size W w') false [] (by kernel_rfl) (by kernel_rfl) ((Below.refl _ _).drew) ?_
    have hS : Below W.heap.size W W.drew := (Below.refl _ _).drew
    generalize W.drew = x0 at *
    have c1 := i2.time
    have c0 := i1.time
    have c2 := blk_cell (i := 0) (v := .int .u64 (M : Int)) i3 rfl
    have hg2 := blk_lt i3
    intro LL hLL
    simp only [List.mem_cons, List.not_mem_nil, or_false] at hLL
    rcases hLL with rfl | rfl | rfl | rfl
    · simp only [Ord.lst, List.filterMap_cons, List.filterMap_nil, List.getElem?_toArray, List.getElem?_cons_succ, List.getElem?_cons_zero]
      ((with_reducible refine OrdY.e_p (v := ?_) ?_ ?_ ?_ ?_); rotate_left; (· exact rfl); (· kernel_rfl); (· intro w2; go_simp; try with_reducible rfl))
      (try simp only [Act.put, List.setIfInBounds_toArray, List.set_cons_zero, List.set_cons_succ])
      refine OrdY.e_loadS Try.underlying22 rfl (fun w' hS => ((show Below _ W w' from hS).cell (p := ⟨w.heap.size + 1, 0, none⟩) (by show w.heap.size + 1 < _; omega)).trans c1) hS rfl (by kernel_rfl) ?_
      (try simp only [Act.put, List.setIfInBounds_toArray, List.set_cons_zero, List.set_cons_succ])
      ((with_reducible refine OrdY.e_p (v := ?_) ?_ ?_ ?_ ?_); rotate_left; (· exact rfl); (· kernel_rfl); (· intro w2; go_simp; try with_reducible rfl))
      (try simp only [Act.put, List.setIfInBounds_toArray, List.set_cons_zero, List.set_cons_succ])
      refine OrdY.e_loadS Try.underlying22 rfl (fun w' hS => ((show Below _ W w' from hS).cell (p := ⟨w.heap.size, 0, none⟩) (by show w.heap.size < _; omega)).trans c0) hS rfl (by kernel_rfl) ?_
      (try simp only [Act.put, List.setIfInBounds_toArray, List.set_cons_zero, List.set_cons_succ])
      ((with_reducible refine OrdY.e_p (v := ?_) ?_ ?_ ?_ ?_); rotate_left; (· exact rfl); (· kernel_rfl); (· intro w2; go_simp; try with_reducible rfl))
      (try simp only [Act.put, List.setIfInBounds_toArray, List.set_cons_zero, List.set_cons_succ])
      ((with_reducible refine OrdY.e_p (v := ?_) ?_ ?_ ?_ ?_); rotate_left; (· exact rfl); (· kernel_rfl); (· intro w2; go_simp; try with_reducible rfl))
      (try simp only [Act.put, List.setIfInBounds_toArray, List.set_cons_zero, List.set_cons_succ])
      refine OrdY.e_x rfl (by kernel_rfl) ?_
      go_wp2_with fail
      go_fit (varyPut_any L x0 (by omega))
      rintro e x1 ⟨A25, c25, n25, rfl, own25, hbx⟩
      have hw25 := own_len own25
      have hv25 : (varB L).length ≤ 10 := (varN_len 9 L).2
      replace own25 := own_mono own25 (base' := W.heap.size) hS.size
      replace hS := hS.trans (hbx.mono hS.size)
      clear hbx
      go_wp2_with fail
      refine OrdY.Seg.go hS (fun h => by cases h) ?_
      (try simp only [Act.put, List.setIfInBounds_toArray, List.set_cons_zero, List.set_cons_succ])
      refine OrdY.e_loadS Try.underlying107 rfl (fun w' hS => ((show Below _ W w' from hS).cell (p := ⟨w.heap.size + 2, 0, none⟩) hg2).trans c2) hS rfl (by kernel_rfl) ?_
      (try simp only [Act.put, List.setIfInBounds_toArray, List.set_cons_zero, List.set_cons_succ])
      refine OrdY.e_x rfl (by kernel_rfl) ?_
      go_wp2_with fail
      go_fit (varyPut_any M x1 (by omega))
      rintro e x2 ⟨A27, c27, n27, rfl, own27, hbx⟩
      have hw27 := own_len own27
      have hv27 : (varB M).length ≤ 10 := (varN_len 9 M).2
      replace own27 := own_mono own27 (base' := W.heap.size) hS.size
      replace own25 := own_up own25 hbx (Nat.le_refl _)
      replace hS := hS.trans (hbx.mono hS.size)
      clear hbx
      go_wp2_with fail
      refine OrdY.Seg.go hS (fun h => by cases h) ?_
      (try simp only [Act.put, List.setIfInBounds_toArray, List.set_cons_zero, List.set_cons_succ])
      refine OrdY.e_x rfl (by kernel_rfl) ?_
      refine wpList_appG (base := W.heap.size) (n := n25) Try.underlying26 Hi.out rfl (by omega) own25 rfl (Rd.own own27) rfl (bv_one _) (k := n25 + n27) rfl (bv_app _ _).symm (by unfold maxLen; omega) (by omega) hS.size ?_
      intro A28 c28 x3 own28 hgr hob
      obtain ⟨n28, hn28⟩ : ∃ m, m = n25 + n27 := ⟨_, rfl⟩
      rw [← hn28] at own28 ⊢
      have HN28 := Lib.hid hn28
      clear hn28
      replace hS := Below.grown hS hgr hS.size (fun j hj => (own_blk own25 hj).1)
      clear hgr hob own25 own27
      go_wp2_with fail
      refine OrdY.Seg.go hS (fun h => by cases h) ?_
      (try simp only [Act.put, List.setIfInBounds_toArray, List.set_cons_zero, List.set_cons_succ])
      refine OrdY.e_x rfl (by kernel_rfl) ?_
      go_wp2
      have hbx : Below x3.heap.size x3 (x3.alloc (.cells #[.slice none 0 0] 26)) := (Below.refl _ _).alloc (Nat.le_refl _) _
      have hne28 : ∀ k, (Value.slice A28 n28 c28).ownBlock = some k → k ≠ x3.heap.size := fun k hk => by have := (own_blk own28 hk).2; omega
      replace own28 := own_up own28 hbx (Nat.le_refl _)
      have hgo := heap_alloc_new x3 (.cells #[.slice none 0 0] 26)
      have hgS : W.heap.size ≤ x3.heap.size := hS.size
      replace hS := hS.trans (hbx.mono hS.size)
      clear hbx
      refine OrdY.Seg.go hS (fun h => by cases h) ?_
      (try simp only [Act.put, List.setIfInBounds_toArray, List.set_cons_zero, List.set_cons_succ])
      generalize (x3.alloc (.cells #[.slice none 0 0] 26)) = x4 at *
      generalize x3.heap.size = go at *
      have s1 : x4.cell? ⟨go, 0, none⟩ = some (.slice none 0 0) := blk_cell hgo rfl
      have s2 : x4.frozen? ⟨go, 0, none⟩ = false := blk_free (i := 0) hgo
      refine OrdY.e_x rfl (by kernel_rfl) ?_
      go_wp2
      have ha : Aw (fun j => j = go) x4 (x4.setCell ⟨go, 0, none⟩ (.slice A28 n28 c28)) := (Aw.refl _ _).set _ rfl
      replace hgo := blk_set (i := 0) hgo (.slice A28 n28 c28)
      replace own28 := own_aw own28 ha (fun j hj hu => hne28 j hj hu)
      replace hS := below_awG hS ha (fun j hj => by rw [hj]; exact hgS) hS.size
      refine OrdY.Seg.go hS (fun h => by cases h) ?_
      (try simp only [Act.put, List.setIfInBounds_toArray, List.set_cons_zero, List.set_cons_succ])
      refine OrdY.e_nil ?_
      clear s1 s2 ha
      generalize (x4.setCell ⟨go, 0, none⟩ (.slice A28 n28 c28)) = y at *
      clear c0 c1 c2 x0
      have hyW : W.heap.size ≤ y.heap.size := hS.size
      have b0 : RcB y w.heap.size t V := (hS.block _ (by omega)).trans i1
      have b1 : RcB y (w.heap.size + 1) t' V' := (hS.block _ (by omega)).trans i2
      have hdl := blk_lt hd
      have hdy := (hS.block _ hdl).trans hd
      have hby := i4.trans (hS.mono (by omega))
      replace hgo : y.heap[go]? = some (.cells #[.slice A28 n28 c28] 26) := hgo
      have hlgo := blk_lt hgo
      have hn20 : n28 ≤ 20 := by rw [HN28.out]; omega
      have hWq : ∀ k, (Value.slice A28 n28 c28).ownBlock = some k → W.heap.size ≤ k ∧ k < y.heap.size := fun k hk => own_blk own28 hk
      clear i1 i2 i3 i4 hd hS
      gi_wp2_with (with_reducible refine stop_loadI 25 ?_)
      refine go_ (wideList_load_mid w.heap.size 0 rfl _ _ b0.all Try.underlying25 rfl (by rw [rcC_size t V HV.out]; kernel_rfl) ?_)
      gi_wp2_with (with_reducible refine stop_loadI 25 ?_)
      refine go_ (wideList_load_mid (w.heap.size + 1) 0 rfl _ _ b1.all Try.underlying25 rfl (by rw [rcC_size t' V' HV'.out]; kernel_rfl) ?_)
      gi_wp2_with fail
      refine ⟨trivial, (callsIn_wide.2 (changed_any (rcC t V) (rcC t' V') y)).mono ?_⟩
      rintro x z ⟨rfl, rfl⟩
      obtain ⟨d0, d1, hs3, hb3⟩ := al2 y (.cells (rcC t V).toArray 25) (.cells (rcC t' V').toArray 25)
      have ownz := own_up own28 hb3 (Nat.le_refl _)
      have hdz := (hb3.block _ (Nat.lt_of_lt_of_le hdl hyW)).trans hdy
      have hgz := (hb3.block _ hlgo).trans hgo
      have hbz := hby.trans (hb3.mono hby.size)
      obtain ⟨m, hm⟩ : ∃ m, m = y.heap.size := ⟨_, rfl⟩
      rw [← hm] at d0 d1 hs3 hlgo hWq hyW ⊢
      generalize ((y.alloc (.cells (rcC t V).toArray 25)).alloc (.cells (rcC t' V').toArray 25)) = z at *
      replace d0 : RcB z m t V := d0
      replace d1 : RcB z (m + 1) t' V' := d1
      clear hb3 hdy hgo hby b0 b1 own28 hm
      gi_wp2_with fail
      refine rangeFunc_R rfl (enters_of Try.func106 (by kernel_rfl) rfl) (changed_seq m (m + 1) t t' V V' _ HV.out HV'.out H32.out H32'.out)
        (fun W hW hsz => ⟨hW.keep d0 (fun hk => hk), hW.keep d1 (fun hk => hk)⟩)
        (fun x vs W hE => by rw [show vs = _ from hE]; rfl) (fun x vs A' B' hE hab => hE) (fun k hk => hk.elim)
        (fun k hk => by rw [hs3]; omega)
        (D2 w.heap.size go W.heap.size m w2.heap.size w (varB L ++ varB M)) (fun _ _ _ => False) ?hI2 (fun _ _ _ _ h _ => h) ?h02
        (fun vs => { tmps := #[.agg (rcC t V).toArray, .agg (rcC t' V').toArray, .pointer (some ⟨w.heap.size, 0, none⟩), .pointer (some ⟨w.heap.size + 1, 0, none⟩), .slice none 0 0, .pointer (some ⟨w.heap.size + 2, 0, none⟩), undef, .pointer (some ⟨go, 0, none⟩), undef, vs.getD 1 undef, .agg (rcC t V).toArray, .agg (rcC t' V').toArray, .func (.func 106) #[] #[.pointer (some ⟨w.heap.size + 3, 0, none⟩), .pointer (some ⟨w.heap.size + 4, 0, none⟩)], undef, undef, undef, undef, undef, undef, .pointer (some ⟨w.heap.size + 1, 0, none⟩), .int .u32 t', .pointer (some ⟨w.heap.size, 0, none⟩), .int .u32 t, .int .u32 L, .int .u64 L, .slice A25 n25 c25, .int .u64 M, .slice A27 n27 c27, .slice A28 n28 c28, .agg (rcC t V).toArray, .agg (rcC t' V').toArray, .func (.func 106) #[] #[.pointer (some ⟨m, 0, none⟩), .pointer (some ⟨m + 1, 0, none⟩)], vs.getD 0 undef, vs.getD 1 undef, undef, undef, undef, undef, undef, undef], defers := [] }) ?assign2 ?body2 ?done2 (fun _ _ _ _ h => h.elim)
      case hI2 =>
        rintro pre A' B' ⟨i1, i2, A2, n2, c2, i3, i4, i5, i6⟩ hab
        have hn : ∀ k, (False ∨ k = z.heap.size ∨ k = z.heap.size + 1) → m + 2 ≤ k ∧ k ≤ m + 3 := fun k hk => hk.elim (fun h => h.elim) (fun hk => by rw [hs3] at hk; omega)
        have hA := blk_lt i3
        have hA2 := blk_lt i2
        exact ⟨below_awG i1 hab (fun k hk => by have := hn k hk; omega) i1.size, hab.keep i2 (fun hk => by have := hn _ hk; omega), A2, n2, c2, hab.keep i3 (fun hk => by have := hn _ hk; omega), own_aw i4 hab (fun k hk hu => by have := hn _ hu; have := i5 k hk; omega), i5, i6⟩
      case h02 => exact ⟨hbz, hdz, A28, n28, c28, hgz, by simpa using ownz, fun k hk => ⟨hne28 k hk, by have := hWq k hk; omega, .inl (hWq k hk).2⟩, by simpa using hn20⟩
      case assign2 =>
        rintro ll x vs W K hE hK
        obtain rfl : vs = _ := hE
        gi_wp2
        exact hK
      case body2 =>
        rintro pre x vs Wb ⟨i1, i2, A2, n2, c2, i3, i4, i5, i6⟩ hE hpre hge
        obtain rfl : vs = _ := hE
        rw [hs3] at hge
        obtain ⟨xi, xd⟩ := x
        have hlen := Nat.le_trans hpre.length_le (chP_len (V.zip V') 0)
        rw [Hzl.out, List.length_append, List.length_singleton] at hlen
        have hxd : -9223372036854775808 ≤ xd ∧ xd ≤ 9223372036854775807 := by
          refine chL_rng (V.zip V') (fun p hp => ⟨H32.out _ (List.of_mem_zip hp).1, H32'.out _ (List.of_mem_zip hp).2⟩) xd ?_
          rw [← chP_snd (V.zip V') 0]
          exact List.mem_map.2 ⟨(xi, xd), hpre.subset (by simp), rfl⟩
        have Hpre := Lib.hid hpre
        clear hpre
        gi_wp2_with fail
        refine Ord.regionIn_ (fun _ => True) true [34] (by kernel_rfl) (by kernel_rfl) (by kernel_rfl) (fun ⟨_, _, h⟩ => h) trivial ?_
        have hKW : Aw (fun _ => False) Wb Wb.drew := (Aw.refl _ Wb).drew
        have j1 := i1.drew
        have j2 : Wb.drew.heap[w2.heap.size]? = _ := i2
        have j3 : Wb.drew.heap[go]? = _ := i3
        have j4 := own_up i4 (w' := Wb.drew) (Below.refl _ _).drew (Nat.le_refl _)
        have hge1 : m + 2 + 2 ≤ Wb.drew.heap.size := hge
        generalize Wb.drew = W1 at *
        clear i1 i2 i3 i4 hge
        have cg := blk_cell (i := 0) (v := .slice A2 n2 c2) j3 rfl
        refine Ord.e_load Try.underlying26 rfl cg rfl (by rfl) (by kernel_rfl) ?_
        (try simp only [Act.put, List.setIfInBounds_toArray, List.set_cons_zero, List.set_cons_succ])
        ((with_reducible refine Ord.e_p (v := ?_) ?_ ?_ ?_ ?_); rotate_left; (· exact rfl); (· kernel_rfl); (· intro w2; go_simp; try with_reducible rfl))
        (try simp only [Act.put, List.setIfInBounds_toArray, List.set_cons_zero, List.set_cons_succ])
        refine Ord.e_x rfl (by kernel_rfl) ?_
        go_wp2
        have hrn : Rd (W1.alloc (.cells #[.int .i64 xd] 2)) (W1.heap.size + 1) 1 (some ⟨W1.heap.size, 0, none⟩) 1 1 ([xd].map (Value.int .i64)) := rd_litG W1 2 [.int .i64 xd] (by simp [maxLen])
        have hbn : Below W1.heap.size W1 (W1.alloc (.cells #[.int .i64 xd] 2)) := (Below.refl _ _).alloc (Nat.le_refl _) _
        have hsn : (W1.alloc (.cells #[.int .i64 xd] 2)).heap.size = W1.heap.size + 1 := World.size_alloc _ _
        refine Ord.Seg.go trivial (fun _ => hbn) ?_
        (try simp only [Act.put, List.setIfInBounds_toArray, List.set_cons_zero, List.set_cons_succ])
        generalize (W1.alloc (.cells #[.int .i64 xd] 2)) = W3 at *
        have hA3 : Aw (fun _ => False) W1 W3 := Aw.of_below' hbn
        have Hsn := Lib.hid hsn
        clear hsn
        refine Ord.e_x rfl (by kernel_rfl) ?_
        go_wp2_with fail
        go_fit (varyInts_any (some ⟨W1.heap.size, 0, none⟩) 1 1 (W1.heap.size + 1) [xd] W3 hrn (by rw [Hsn.out]; exact Nat.le_refl _) (by intro x hx; simp at hx; rw [hx]; exact hxd) (by omega))
        rintro e W4 ⟨A4, c4, n4, rfl, hown4, hb34⟩
        go_wp2_with fail
        refine Ord.Seg.go trivial (fun _ => hb34) ?_
        (try simp only [Act.put, List.setIfInBounds_toArray, List.set_cons_zero, List.set_cons_succ])
        have hw4 := own_len hown4
        have hv4 : (varB (zigV xd)).length ≤ 10 := (varN_len 9 (zigV xd)).2
        have hfm : ([xd].flatMap fun d => varB (zigV d)) = varB (zigV xd) := by simp
        rw [hfm] at hw4 hown4
        have hA4 : Aw (fun _ => False) W1 W4 := hA3.trans (Aw.of_below' hb34)
        have k4 := own_aw j4 hA4 (fun k hk hu => hu)
        have k3 := hA4.keep j3 (fun h => h)
        have k2 := hA4.keep j2 (fun h => h)
        have k1 := below_awG j1 hA4 (fun k h => h.elim) j1.size
        have hsz4 := hA4.size
        clear cg hrn hbn hb34 hA3 hfm
        refine Ord.e_x rfl (by kernel_rfl) ?_
        refine wpList_appG (base := W.heap.size) (n := n2) Try.underlying26 Hi.out rfl (by omega) k4 rfl (Rd.own hown4) rfl (bv_one _) (k := n2 + n4) rfl (bv_app _ _).symm (by unfold maxLen; omega) (by omega) (by omega) ?_
        intro A5 c5 W5 own5 hgr hob
        have hobk : ∀ k, (Value.slice A2 n2 c2).ownBlock = some k → k < W1.heap.size := fun k hk => (own_blk j4 hk).2
        have hA5 := Aw.of_grown hgr
        have l3 := hA5.keep k3 (fun hu => (i5 _ hu).1 rfl)
        have l2 := hA5.keep k2 (fun hu => (i5 _ hu).2.1 rfl)
        have l1 := below_awG k1 hA5 (fun k hu => by have := (own_blk k4 hu).1; omega) k1.size
        have l5 : ∀ k, (Value.slice A5 (n2 + n4) c5).ownBlock = some k → k ≠ go ∧ k ≠ w2.heap.size ∧ (k < m ∨ m + 4 ≤ k) := fun k hk => by
          rcases hob with hob | hob
          · exact i5 k (by rw [← hob]; exact hk)
          · rw [hk] at hob
            injection hob with hob
            have h1 := blk_lt k3
            have h2 := blk_lt k2
            omega
        obtain ⟨n5, hn5⟩ : ∃ k, k = n2 + n4 := ⟨_, rfl⟩
        rw [← hn5] at own5 l5 ⊢
        have Hn5 := Lib.hid hn5
        clear hn5 hgr
        go_wp2_with fail
        refine Ord.Seg.go trivial (fun h => by cases h) ?_
        (try simp only [Act.put, List.setIfInBounds_toArray, List.set_cons_zero, List.set_cons_succ])
        have s1 := blk_cell (i := 0) (v := .slice A2 n2 c2) l3 rfl
        have s2 := blk_free (i := 0) l3
        refine Ord.e_x rfl (by kernel_rfl) ?_
        go_wp2
        refine Ord.Seg.go trivial (fun h => by cases h) ?_
        (try simp only [Act.put, List.setIfInBounds_toArray, List.set_cons_zero, List.set_cons_succ])
        refine Ord.e_nil ?_
        have hA6 : Aw (fun k => k = go) W5 (W5.setCell ⟨go, 0, none⟩ (.slice A5 n5 c5)) := (Aw.refl _ _).set _ rfl
        have m3 := blk_set (i := 0) l3 (.slice A5 n5 c5)
        have m2 := hA6.keep l2 (fun e => by omega)
        have m1 := below_awG l1 hA6 (fun k hk => by omega) l1.size
        have m4 := own_aw own5 hA6 (fun k hk hu => (l5 k hk).1 hu)
        have hAll : Aw (fun k => (Value.slice A2 n2 c2).ownBlock = some k ∨ k = go) Wb (W5.setCell ⟨go, 0, none⟩ (.slice A5 n5 c5)) := (((hKW.trans hA4).mono (U' := fun k => (Value.slice A2 n2 c2).ownBlock = some k ∨ k = go) (fun _ h => h.elim)).trans (hA5.mono fun k h => .inl h)).trans (hA6.mono fun k h => .inr h)
        refine ⟨hAll.keeps fun k hk hu => ?_, m1, m2, A5, n5, c5, m3, ?_, l5, ?_⟩
        · rcases hu with hu | hu
          · have := (i5 k hu).2.2
            rcases hk with (rfl | rfl) | rfl | rfl <;> (try rw [hs3] at *) <;> omega
          · rcases hk with (rfl | rfl) | rfl | rfl <;> (try rw [hs3] at *) <;> omega
        · rw [List.map_append, List.flatMap_append, ← List.append_assoc]
          simpa using m4
        · rw [Hn5.out, List.length_append, List.length_singleton]
          omega
      case done2 =>
        rintro Wd ⟨i1, i2, A2, n2, c2, i3, i4, i5, i6⟩ hd2
        rw [chP_snd, List.append_assoc, HL.out, HM.out] at i4
        replace i4 : Wd.ownsRow W.heap.size 5 1 (.slice A2 n2 c2) n2 (bv (recD t V t' V')) := i4
        have cg := blk_cell (i := 0) (v := .slice A2 n2 c2) i3 rfl
        gi_wp2
        refine ⟨by simp, .inl ⟨_, _, rfl, run_takeDeferred hd2, ?_⟩⟩
        have hA7 : Aw (fun k => k = z.heap.size) Wd (Wd.putObj z.heap.size (.deferred none)) := (Aw.refl _ _).put _ rfl
        have o2 := hA7.keep i2 (by rw [hs3]; omega)
        have o1 := below_awG i1 hA7 (fun k hk => by rw [hs3] at hk; omega) i1.size
        have o4 := own_aw i4 hA7 (fun k hk hu => by rw [hs3] at hu; have := (i5 k hk).2.2; omega)
        generalize Wd.putObj z.heap.size (.deferred none) = We at *
        refine ⟨by simp, .inl ⟨_, _, rfl, run_takeDeferred o2, ?_⟩⟩
        have hA8 : Aw (fun k => k = w2.heap.size) We (We.putObj w2.heap.size (.deferred none)) := (Aw.refl _ _).put _ rfl
        have q1 := below_awG o1 hA8 (fun k hk => by omega) o1.size
        have q4 := own_aw o4 hA8 (fun k hk hu => (i5 k hk).2.1 hu)
        refine ⟨_, results_tmp (fn := Try.f23) Try.results23 _ _ _, A2, c2, n2, rfl, own_mono q4 (by omega), q1⟩
    · simp only [Ord.lst, List.filterMap_cons, List.filterMap_nil, List.getElem?_toArray, List.getElem?_cons_succ, List.getElem?_cons_zero]
      ((with_reducible refine OrdY.e_p (v := ?_) ?_ ?_ ?_ ?_); rotate_left; (· exact rfl); (· kernel_rfl); (· intro w2; go_simp; try with_reducible rfl))
      (try simp only [Act.put, List.setIfInBounds_toArray, List.set_cons_zero, List.set_cons_succ])
      refine OrdY.e_loadS Try.underlying22 rfl (fun w' hS => ((show Below _ W w' from hS).cell (p := ⟨w.heap.size + 1, 0, none⟩) (by show w.heap.size + 1 < _; omega)).trans c1) hS rfl (by kernel_rfl) ?_
      (try simp only [Act.put, List.setIfInBounds_toArray, List.set_cons_zero, List.set_cons_succ])
      ((with_reducible refine OrdY.e_p (v := ?_) ?_ ?_ ?_ ?_); rotate_left; (· exact rfl); (· kernel_rfl); (· intro w2; go_simp; try with_reducible rfl))
      (try simp only [Act.put, List.setIfInBounds_toArray, List.set_cons_zero, List.set_cons_succ])
      refine OrdY.e_loadS Try.underlying22 rfl (fun w' hS => ((show Below _ W w' from hS).cell (p := ⟨w.heap.size, 0, none⟩) (by show w.heap.size < _; omega)).trans c0) hS rfl (by kernel_rfl) ?_
      (try simp only [Act.put, List.setIfInBounds_toArray, List.set_cons_zero, List.set_cons_succ])
      ((with_reducible refine OrdY.e_p (v := ?_) ?_ ?_ ?_ ?_); rotate_left; (· exact rfl); (· kernel_rfl); (· intro w2; go_simp; try with_reducible rfl))
      (try simp only [Act.put, List.setIfInBounds_toArray, List.set_cons_zero, List.set_cons_succ])
      ((with_reducible refine OrdY.e_p (v := ?_) ?_ ?_ ?_ ?_); rotate_left; (· exact rfl); (· kernel_rfl); (· intro w2; go_simp; try with_reducible rfl))
      (try simp only [Act.put, List.setIfInBounds_toArray, List.set_cons_zero, List.set_cons_succ])
      refine OrdY.e_x rfl (by kernel_rfl) ?_
      go_wp2_with fail
      go_fit (varyPut_any L x0 (by omega))
      rintro e x1 ⟨A25, c25, n25, rfl, own25, hbx⟩
      have hw25 := own_len own25
      have hv25 : (varB L).length ≤ 10 := (varN_len 9 L).2
      replace own25 := own_mono own25 (base' := W.heap.size) hS.size
      replace hS := hS.trans (hbx.mono hS.size)
      clear hbx
      go_wp2_with fail
      refine OrdY.Seg.go hS (fun h => by cases h) ?_
      (try simp only [Act.put, List.setIfInBounds_toArray, List.set_cons_zero, List.set_cons_succ])
      refine OrdY.e_loadS Try.underlying107 rfl (fun w' hS => ((show Below _ W w' from hS).cell (p := ⟨w.heap.size + 2, 0, none⟩) hg2).trans c2) hS rfl (by kernel_rfl) ?_
      (try simp only [Act.put, List.setIfInBounds_toArray, List.set_cons_zero, List.set_cons_succ])
      refine OrdY.e_x rfl (by kernel_rfl) ?_
      go_wp2_with fail
      go_fit (varyPut_any M x1 (by omega))
      rintro e x2 ⟨A27, c27, n27, rfl, own27, hbx⟩
      have hw27 := own_len own27
      have hv27 : (varB M).length ≤ 10 := (varN_len 9 M).2
      replace own27 := own_mono own27 (base' := W.heap.size) hS.size
      replace own25 := own_up own25 hbx (Nat.le_refl _)
      replace hS := hS.trans (hbx.mono hS.size)
      clear hbx
      go_wp2_with fail
      refine OrdY.Seg.go hS (fun h => by cases h) ?_
      (try simp only [Act.put, List.setIfInBounds_toArray, List.set_cons_zero, List.set_cons_succ])
      refine OrdY.e_x rfl (by kernel_rfl) ?_
      go_wp2
      have hbx : Below x2.heap.size x2 (x2.alloc (.cells #[.slice none 0 0] 26)) := (Below.refl _ _).alloc (Nat.le_refl _) _
      have hne25 : ∀ k, (Value.slice A25 n25 c25).ownBlock = some k → k ≠ x2.heap.size := fun k hk => by have := (own_blk own25 hk).2; omega
      have hne27 : ∀ k, (Value.slice A27 n27 c27).ownBlock = some k → k ≠ x2.heap.size := fun k hk => by have := (own_blk own27 hk).2; omega
      replace own25 := own_up own25 hbx (Nat.le_refl _)
      replace own27 := own_up own27 hbx (Nat.le_refl _)
      have hgo := heap_alloc_new x2 (.cells #[.slice none 0 0] 26)
      have hgS : W.heap.size ≤ x2.heap.size := hS.size
      replace hS := hS.trans (hbx.mono hS.size)
      clear hbx
      refine OrdY.Seg.go hS (fun h => by cases h) ?_
      (try simp only [Act.put, List.setIfInBounds_toArray, List.set_cons_zero, List.set_cons_succ])
      generalize (x2.alloc (.cells #[.slice none 0 0] 26)) = x3 at *
      generalize x2.heap.size = go at *
      refine OrdY.e_x rfl (by kernel_rfl) ?_
      refine wpList_appG (base := W.heap.size) (n := n25) Try.underlying26 Hi.out rfl (by omega) own25 rfl (Rd.own own27) rfl (bv_one _) (k := n25 + n27) rfl (bv_app _ _).symm (by unfold maxLen; omega) (by omega) hS.size ?_
      intro A28 c28 x4 own28 hgr hob
      have hne28 : ∀ k, (Value.slice A28 (n25 + n27) c28).ownBlock = some k → k ≠ go := fun k hk => by
        rcases hob with hob | hob
        · exact hne25 k (by rw [← hob]; exact hk)
        · rw [hk] at hob; injection hob with hob; have := blk_lt hgo; omega
      replace hgo := (hgr.block _ (blk_lt hgo) (fun e => by have := hne25 _ e.symm; omega)).trans hgo
      obtain ⟨n28, hn28⟩ : ∃ m, m = n25 + n27 := ⟨_, rfl⟩
      rw [← hn28] at own28 ⊢
      rw [← hn28] at hne28
      have HN28 := Lib.hid hn28
      clear hn28
      replace hS := Below.grown hS hgr hS.size (fun j hj => (own_blk own25 hj).1)
      clear hgr hob own25 own27
      go_wp2_with fail
      refine OrdY.Seg.go hS (fun h => by cases h) ?_
      (try simp only [Act.put, List.setIfInBounds_toArray, List.set_cons_zero, List.set_cons_succ])
      have s1 : x4.cell? ⟨go, 0, none⟩ = some (.slice none 0 0) := blk_cell hgo rfl
      have s2 : x4.frozen? ⟨go, 0, none⟩ = false := blk_free (i := 0) hgo
      refine OrdY.e_x rfl (by kernel_rfl) ?_
      go_wp2
      have ha : Aw (fun j => j = go) x4 (x4.setCell ⟨go, 0, none⟩ (.slice A28 n28 c28)) := (Aw.refl _ _).set _ rfl
      replace hgo := blk_set (i := 0) hgo (.slice A28 n28 c28)
      replace own28 := own_aw own28 ha (fun j hj hu => hne28 j hj hu)
      replace hS := below_awG hS ha (fun j hj => by rw [hj]; exact hgS) hS.size
      refine OrdY.Seg.go hS (fun h => by cases h) ?_
      (try simp only [Act.put, List.setIfInBounds_toArray, List.set_cons_zero, List.set_cons_succ])
      refine OrdY.e_nil ?_
      clear s1 s2 ha
      generalize (x4.setCell ⟨go, 0, none⟩ (.slice A28 n28 c28)) = y at *
      clear c0 c1 c2 x0
      have hyW : W.heap.size ≤ y.heap.size := hS.size
      have b0 : RcB y w.heap.size t V := (hS.block _ (by omega)).trans i1
      have b1 : RcB y (w.heap.size + 1) t' V' := (hS.block _ (by omega)).trans i2
      have hdl := blk_lt hd
      have hdy := (hS.block _ hdl).trans hd
      have hby := i4.trans (hS.mono (by omega))
      replace hgo : y.heap[go]? = some (.cells #[.slice A28 n28 c28] 26) := hgo
      have hlgo := blk_lt hgo
      have hn20 : n28 ≤ 20 := by rw [HN28.out]; omega
      have hWq : ∀ k, (Value.slice A28 n28 c28).ownBlock = some k → W.heap.size ≤ k ∧ k < y.heap.size := fun k hk => own_blk own28 hk
      clear i1 i2 i3 i4 hd hS
      gi_wp2_with (with_reducible refine stop_loadI 25 ?_)
      refine go_ (wideList_load_mid w.heap.size 0 rfl _ _ b0.all Try.underlying25 rfl (by rw [rcC_size t V HV.out]; kernel_rfl) ?_)
      gi_wp2_with (with_reducible refine stop_loadI 25 ?_)
      refine go_ (wideList_load_mid (w.heap.size + 1) 0 rfl _ _ b1.all Try.underlying25 rfl (by rw [rcC_size t' V' HV'.out]; kernel_rfl) ?_)
      gi_wp2_with fail
      refine ⟨trivial, (callsIn_wide.2 (changed_any (rcC t V) (rcC t' V') y)).mono ?_⟩
      rintro x z ⟨rfl, rfl⟩
      obtain ⟨d0, d1, hs3, hb3⟩ := al2 y (.cells (rcC t V).toArray 25) (.cells (rcC t' V').toArray 25)
      have ownz := own_up own28 hb3 (Nat.le_refl _)
      have hdz := (hb3.block _ (Nat.lt_of_lt_of_le hdl hyW)).trans hdy
      have hgz := (hb3.block _ hlgo).trans hgo
      have hbz := hby.trans (hb3.mono hby.size)
      obtain ⟨m, hm⟩ : ∃ m, m = y.heap.size := ⟨_, rfl⟩
      rw [← hm] at d0 d1 hs3 hlgo hWq hyW ⊢
      generalize ((y.alloc (.cells (rcC t V).toArray 25)).alloc (.cells (rcC t' V').toArray 25)) = z at *
      replace d0 : RcB z m t V := d0
      replace d1 : RcB z (m + 1) t' V' := d1
      clear hb3 hdy hgo hby b0 b1 own28 hm
      gi_wp2_with fail
      refine rangeFunc_R rfl (enters_of Try.func106 (by kernel_rfl) rfl) (changed_seq m (m + 1) t t' V V' _ HV.out HV'.out H32.out H32'.out)
        (fun W hW hsz => ⟨hW.keep d0 (fun hk => hk), hW.keep d1 (fun hk => hk)⟩)
        (fun x vs W hE => by rw [show vs = _ from hE]; rfl) (fun x vs A' B' hE hab => hE) (fun k hk => hk.elim)
        (fun k hk => by rw [hs3]; omega)
        (D2 w.heap.size go W.heap.size m w2.heap.size w (varB L ++ varB M)) (fun _ _ _ => False) ?hI2 (fun _ _ _ _ h _ => h) ?h02
        (fun vs => { tmps := #[.agg (rcC t V).toArray, .agg (rcC t' V').toArray, .pointer (some ⟨w.heap.size, 0, none⟩), .pointer (some ⟨w.heap.size + 1, 0, none⟩), .slice none 0 0, .pointer (some ⟨w.heap.size + 2, 0, none⟩), undef, .pointer (some ⟨go, 0, none⟩), undef, vs.getD 1 undef, .agg (rcC t V).toArray, .agg (rcC t' V').toArray, .func (.func 106) #[] #[.pointer (some ⟨w.heap.size + 3, 0, none⟩), .pointer (some ⟨w.heap.size + 4, 0, none⟩)], undef, undef, undef, undef, undef, undef, .pointer (some ⟨w.heap.size + 1, 0, none⟩), .int .u32 t', .pointer (some ⟨w.heap.size, 0, none⟩), .int .u32 t, .int .u32 L, .int .u64 L, .slice A25 n25 c25, .int .u64 M, .slice A27 n27 c27, .slice A28 n28 c28, .agg (rcC t V).toArray, .agg (rcC t' V').toArray, .func (.func 106) #[] #[.pointer (some ⟨m, 0, none⟩), .pointer (some ⟨m + 1, 0, none⟩)], vs.getD 0 undef, vs.getD 1 undef, undef, undef, undef, undef, undef, undef], defers := [] }) ?assign2 ?body2 ?done2 (fun _ _ _ _ h => h.elim)
      case hI2 =>
        rintro pre A' B' ⟨i1, i2, A2, n2, c2, i3, i4, i5, i6⟩ hab
        have hn : ∀ k, (False ∨ k = z.heap.size ∨ k = z.heap.size + 1) → m + 2 ≤ k ∧ k ≤ m + 3 := fun k hk => hk.elim (fun h => h.elim) (fun hk => by rw [hs3] at hk; omega)
        have hA := blk_lt i3
        have hA2 := blk_lt i2
        exact ⟨below_awG i1 hab (fun k hk => by have := hn k hk; omega) i1.size, hab.keep i2 (fun hk => by have := hn _ hk; omega), A2, n2, c2, hab.keep i3 (fun hk => by have := hn _ hk; omega), own_aw i4 hab (fun k hk hu => by have := hn _ hu; have := i5 k hk; omega), i5, i6⟩
      case h02 => exact ⟨hbz, hdz, A28, n28, c28, hgz, by simpa using ownz, fun k hk => ⟨hne28 k hk, by have := hWq k hk; omega, .inl (hWq k hk).2⟩, by simpa using hn20⟩
      case assign2 =>
        rintro ll x vs W K hE hK
        obtain rfl : vs = _ := hE
        gi_wp2
        exact hK
      case body2 =>
        rintro pre x vs Wb ⟨i1, i2, A2, n2, c2, i3, i4, i5, i6⟩ hE hpre hge
        obtain rfl : vs = _ := hE
        rw [hs3] at hge
        obtain ⟨xi, xd⟩ := x
        have hlen := Nat.le_trans hpre.length_le (chP_len (V.zip V') 0)
        rw [Hzl.out, List.length_append, List.length_singleton] at hlen
        have hxd : -9223372036854775808 ≤ xd ∧ xd ≤ 9223372036854775807 := by
          refine chL_rng (V.zip V') (fun p hp => ⟨H32.out _ (List.of_mem_zip hp).1, H32'.out _ (List.of_mem_zip hp).2⟩) xd ?_
          rw [← chP_snd (V.zip V') 0]
          exact List.mem_map.2 ⟨(xi, xd), hpre.subset (by simp), rfl⟩
        have Hpre := Lib.hid hpre
        clear hpre
        gi_wp2_with fail
        refine Ord.regionIn_ (fun _ => True) true [34] (by kernel_rfl) (by kernel_rfl) (by kernel_rfl) (fun ⟨_, _, h⟩ => h) trivial ?_
        have hKW : Aw (fun _ => False) Wb Wb.drew := (Aw.refl _ Wb).drew
        have j1 := i1.drew
        have j2 : Wb.drew.heap[w2.heap.size]? = _ := i2
        have j3 : Wb.drew.heap[go]? = _ := i3
        have j4 := own_up i4 (w' := Wb.drew) (Below.refl _ _).drew (Nat.le_refl _)
        have hge1 : m + 2 + 2 ≤ Wb.drew.heap.size := hge
        generalize Wb.drew = W1 at *
        clear i1 i2 i3 i4 hge
        have cg := blk_cell (i := 0) (v := .slice A2 n2 c2) j3 rfl
        refine Ord.e_load Try.underlying26 rfl cg rfl (by rfl) (by kernel_rfl) ?_
        (try simp only [Act.put, List.setIfInBounds_toArray, List.set_cons_zero, List.set_cons_succ])
        ((with_reducible refine Ord.e_p (v := ?_) ?_ ?_ ?_ ?_); rotate_left; (· exact rfl); (· kernel_rfl); (· intro w2; go_simp; try with_reducible rfl))
        (try simp only [Act.put, List.setIfInBounds_toArray, List.set_cons_zero, List.set_cons_succ])
        refine Ord.e_x rfl (by kernel_rfl) ?_
        go_wp2
        have hrn : Rd (W1.alloc (.cells #[.int .i64 xd] 2)) (W1.heap.size + 1) 1 (some ⟨W1.heap.size, 0, none⟩) 1 1 ([xd].map (Value.int .i64)) := rd_litG W1 2 [.int .i64 xd] (by simp [maxLen])
        have hbn : Below W1.heap.size W1 (W1.alloc (.cells #[.int .i64 xd] 2)) := (Below.refl _ _).alloc (Nat.le_refl _) _
        have hsn : (W1.alloc (.cells #[.int .i64 xd] 2)).heap.size = W1.heap.size + 1 := World.size_alloc _ _
        refine Ord.Seg.go trivial (fun _ => hbn) ?_
        (try simp only [Act.put, List.setIfInBounds_toArray, List.set_cons_zero, List.set_cons_succ])
        generalize (W1.alloc (.cells #[.int .i64 xd] 2)) = W3 at *
        have hA3 : Aw (fun _ => False) W1 W3 := Aw.of_below' hbn
        have Hsn := Lib.hid hsn
        clear hsn
        refine Ord.e_x rfl (by kernel_rfl) ?_
        go_wp2_with fail
        go_fit (varyInts_any (some ⟨W1.heap.size, 0, none⟩) 1 1 (W1.heap.size + 1) [xd] W3 hrn (by rw [Hsn.out]; exact Nat.le_refl _) (by intro x hx; simp at hx; rw [hx]; exact hxd) (by omega))
        rintro e W4 ⟨A4, c4, n4, rfl, hown4, hb34⟩
        go_wp2_with fail
        refine Ord.Seg.go trivial (fun _ => hb34) ?_
        (try simp only [Act.put, List.setIfInBounds_toArray, List.set_cons_zero, List.set_cons_succ])
        have hw4 := own_len hown4
        have hv4 : (varB (zigV xd)).length ≤ 10 := (varN_len 9 (zigV xd)).2
        have hfm : ([xd].flatMap fun d => varB (zigV d)) = varB (zigV xd) := by simp
        rw [hfm] at hw4 hown4
        have hA4 : Aw (fun _ => False) W1 W4 := hA3.trans (Aw.of_below' hb34)
        have k4 := own_aw j4 hA4 (fun k hk hu => hu)
        have k3 := hA4.keep j3 (fun h => h)
        have k2 := hA4.keep j2 (fun h => h)
        have k1 := below_awG j1 hA4 (fun k h => h.elim) j1.size
        have hsz4 := hA4.size
        clear cg hrn hbn hb34 hA3 hfm
        refine Ord.e_x rfl (by kernel_rfl) ?_
        refine wpList_appG (base := W.heap.size) (n := n2) Try.underlying26 Hi.out rfl (by omega) k4 rfl (Rd.own hown4) rfl (bv_one _) (k := n2 + n4) rfl (bv_app _ _).symm (by unfold maxLen; omega) (by omega) (by omega) ?_
        intro A5 c5 W5 own5 hgr hob
        have hobk : ∀ k, (Value.slice A2 n2 c2).ownBlock = some k → k < W1.heap.size := fun k hk => (own_blk j4 hk).2
        have hA5 := Aw.of_grown hgr
        have l3 := hA5.keep k3 (fun hu => (i5 _ hu).1 rfl)
        have l2 := hA5.keep k2 (fun hu => (i5 _ hu).2.1 rfl)
        have l1 := below_awG k1 hA5 (fun k hu => by have := (own_blk k4 hu).1; omega) k1.size
        have l5 : ∀ k, (Value.slice A5 (n2 + n4) c5).ownBlock = some k → k ≠ go ∧ k ≠ w2.heap.size ∧ (k < m ∨ m + 4 ≤ k) := fun k hk => by
          rcases hob with hob | hob
          · exact i5 k (by rw [← hob]; exact hk)
          · rw [hk] at hob
            injection hob with hob
            have h1 := blk_lt k3
            have h2 := blk_lt k2
            omega
        obtain ⟨n5, hn5⟩ : ∃ k, k = n2 + n4 := ⟨_, rfl⟩
        rw [← hn5] at own5 l5 ⊢
        have Hn5 := Lib.hid hn5
        clear hn5 hgr
        go_wp2_with fail
        refine Ord.Seg.go trivial (fun h => by cases h) ?_
        (try simp only [Act.put, List.setIfInBounds_toArray, List.set_cons_zero, List.set_cons_succ])
        have s1 := blk_cell (i := 0) (v := .slice A2 n2 c2) l3 rfl
        have s2 := blk_free (i := 0) l3
        refine Ord.e_x rfl (by kernel_rfl) ?_
        go_wp2
        refine Ord.Seg.go trivial (fun h => by cases h) ?_
        (try simp only [Act.put, List.setIfInBounds_toArray, List.set_cons_zero, List.set_cons_succ])
        refine Ord.e_nil ?_
        have hA6 : Aw (fun k => k = go) W5 (W5.setCell ⟨go, 0, none⟩ (.slice A5 n5 c5)) := (Aw.refl _ _).set _ rfl
        have m3 := blk_set (i := 0) l3 (.slice A5 n5 c5)
        have m2 := hA6.keep l2 (fun e => by omega)
        have m1 := below_awG l1 hA6 (fun k hk => by omega) l1.size
        have m4 := own_aw own5 hA6 (fun k hk hu => (l5 k hk).1 hu)
        have hAll : Aw (fun k => (Value.slice A2 n2 c2).ownBlock = some k ∨ k = go) Wb (W5.setCell ⟨go, 0, none⟩ (.slice A5 n5 c5)) := (((hKW.trans hA4).mono (U' := fun k => (Value.slice A2 n2 c2).ownBlock = some k ∨ k = go) (fun _ h => h.elim)).trans (hA5.mono fun k h => .inl h)).trans (hA6.mono fun k h => .inr h)
        refine ⟨hAll.keeps fun k hk hu => ?_, m1, m2, A5, n5, c5, m3, ?_, l5, ?_⟩
        · rcases hu with hu | hu
          · have := (i5 k hu).2.2
            rcases hk with (rfl | rfl) | rfl | rfl <;> (try rw [hs3] at *) <;> omega
          · rcases hk with (rfl | rfl) | rfl | rfl <;> (try rw [hs3] at *) <;> omega
        · rw [List.map_append, List.flatMap_append, ← List.append_assoc]
          simpa using m4
        · rw [Hn5.out, List.length_append, List.length_singleton]
          omega
      case done2 =>
        rintro Wd ⟨i1, i2, A2, n2, c2, i3, i4, i5, i6⟩ hd2
        rw [chP_snd, List.append_assoc, HL.out, HM.out] at i4
        replace i4 : Wd.ownsRow W.heap.size 5 1 (.slice A2 n2 c2) n2 (bv (recD t V t' V')) := i4
        have cg := blk_cell (i := 0) (v := .slice A2 n2 c2) i3 rfl
        gi_wp2
        refine ⟨by simp, .inl ⟨_, _, rfl, run_takeDeferred hd2, ?_⟩⟩
        have hA7 : Aw (fun k => k = z.heap.size) Wd (Wd.putObj z.heap.size (.deferred none)) := (Aw.refl _ _).put _ rfl
        have o2 := hA7.keep i2 (by rw [hs3]; omega)
        have o1 := below_awG i1 hA7 (fun k hk => by rw [hs3] at hk; omega) i1.size
        have o4 := own_aw i4 hA7 (fun k hk hu => by rw [hs3] at hu; have := (i5 k hk).2.2; omega)
        generalize Wd.putObj z.heap.size (.deferred none) = We at *
        refine ⟨by simp, .inl ⟨_, _, rfl, run_takeDeferred o2, ?_⟩⟩
        have hA8 : Aw (fun k => k = w2.heap.size) We (We.putObj w2.heap.size (.deferred none)) := (Aw.refl _ _).put _ rfl
        have q1 := below_awG o1 hA8 (fun k hk => by omega) o1.size
        have q4 := own_aw o4 hA8 (fun k hk hu => (i5 k hk).2.1 hu)
        refine ⟨_, results_tmp (fn := Try.f23) Try.results23 _ _ _, A2, c2, n2, rfl, own_mono q4 (by omega), q1⟩
    · simp only [Ord.lst, List.filterMap_cons, List.filterMap_nil, List.getElem?_toArray, List.getElem?_cons_succ, List.getElem?_cons_zero]
      ((with_reducible refine OrdY.e_p (v := ?_) ?_ ?_ ?_ ?_); rotate_left; (· exact rfl); (· kernel_rfl); (· intro w2; go_simp; try with_reducible rfl))
      (try simp only [Act.put, List.setIfInBounds_toArray, List.set_cons_zero, List.set_cons_succ])
      refine OrdY.e_loadS Try.underlying22 rfl (fun w' hS => ((show Below _ W w' from hS).cell (p := ⟨w.heap.size + 1, 0, none⟩) (by show w.heap.size + 1 < _; omega)).trans c1) hS rfl (by kernel_rfl) ?_
      (try simp only [Act.put, List.setIfInBounds_toArray, List.set_cons_zero, List.set_cons_succ])
      ((with_reducible refine OrdY.e_p (v := ?_) ?_ ?_ ?_ ?_); rotate_left; (· exact rfl); (· kernel_rfl); (· intro w2; go_simp; try with_reducible rfl))
      (try simp only [Act.put, List.setIfInBounds_toArray, List.set_cons_zero, List.set_cons_succ])
      refine OrdY.e_loadS Try.underlying22 rfl (fun w' hS => ((show Below _ W w' from hS).cell (p := ⟨w.heap.size, 0, none⟩) (by show w.heap.size < _; omega)).trans c0) hS rfl (by kernel_rfl) ?_
      (try simp only [Act.put, List.setIfInBounds_toArray, List.set_cons_zero, List.set_cons_succ])
      ((with_reducible refine OrdY.e_p (v := ?_) ?_ ?_ ?_ ?_); rotate_left; (· exact rfl); (· kernel_rfl); (· intro w2; go_simp; try with_reducible rfl))
      (try simp only [Act.put, List.setIfInBounds_toArray, List.set_cons_zero, List.set_cons_succ])
      ((with_reducible refine OrdY.e_p (v := ?_) ?_ ?_ ?_ ?_); rotate_left; (· exact rfl); (· kernel_rfl); (· intro w2; go_simp; try with_reducible rfl))
      (try simp only [Act.put, List.setIfInBounds_toArray, List.set_cons_zero, List.set_cons_succ])
      refine OrdY.e_x rfl (by kernel_rfl) ?_
      go_wp2_with fail
      go_fit (varyPut_any L x0 (by omega))
      rintro e x1 ⟨A25, c25, n25, rfl, own25, hbx⟩
      have hw25 := own_len own25
      have hv25 : (varB L).length ≤ 10 := (varN_len 9 L).2
      replace own25 := own_mono own25 (base' := W.heap.size) hS.size
      replace hS := hS.trans (hbx.mono hS.size)
      clear hbx
      go_wp2_with fail
      refine OrdY.Seg.go hS (fun h => by cases h) ?_
      (try simp only [Act.put, List.setIfInBounds_toArray, List.set_cons_zero, List.set_cons_succ])
      refine OrdY.e_loadS Try.underlying107 rfl (fun w' hS => ((show Below _ W w' from hS).cell (p := ⟨w.heap.size + 2, 0, none⟩) hg2).trans c2) hS rfl (by kernel_rfl) ?_
      (try simp only [Act.put, List.setIfInBounds_toArray, List.set_cons_zero, List.set_cons_succ])
      refine OrdY.e_x rfl (by kernel_rfl) ?_
      go_wp2
      have hbx : Below x1.heap.size x1 (x1.alloc (.cells #[.slice none 0 0] 26)) := (Below.refl _ _).alloc (Nat.le_refl _) _
      have hne25 : ∀ k, (Value.slice A25 n25 c25).ownBlock = some k → k ≠ x1.heap.size := fun k hk => by have := (own_blk own25 hk).2; omega
      replace own25 := own_up own25 hbx (Nat.le_refl _)
      have hgo := heap_alloc_new x1 (.cells #[.slice none 0 0] 26)
      have hgS : W.heap.size ≤ x1.heap.size := hS.size
      replace hS := hS.trans (hbx.mono hS.size)
      clear hbx
      refine OrdY.Seg.go hS (fun h => by cases h) ?_
      (try simp only [Act.put, List.setIfInBounds_toArray, List.set_cons_zero, List.set_cons_succ])
      generalize (x1.alloc (.cells #[.slice none 0 0] 26)) = x2 at *
      generalize x1.heap.size = go at *
      refine OrdY.e_x rfl (by kernel_rfl) ?_
      go_wp2_with fail
      go_fit (varyPut_any M x2 (by omega))
      rintro e x3 ⟨A27, c27, n27, rfl, own27, hbx⟩
      have hw27 := own_len own27
      have hv27 : (varB M).length ≤ 10 := (varN_len 9 M).2
      have hne27 : ∀ k, (Value.slice A27 n27 c27).ownBlock = some k → k ≠ go := fun k hk => by have := (own_blk own27 hk).1; have := blk_lt hgo; omega
      replace own27 := own_mono own27 (base' := W.heap.size) hS.size
      replace hgo := blk_old hgo hbx (blk_lt hgo)
      replace own25 := own_up own25 hbx (Nat.le_refl _)
      replace hS := hS.trans (hbx.mono hS.size)
      clear hbx
      go_wp2_with fail
      refine OrdY.Seg.go hS (fun h => by cases h) ?_
      (try simp only [Act.put, List.setIfInBounds_toArray, List.set_cons_zero, List.set_cons_succ])
      refine OrdY.e_x rfl (by kernel_rfl) ?_
      refine wpList_appG (base := W.heap.size) (n := n25) Try.underlying26 Hi.out rfl (by omega) own25 rfl (Rd.own own27) rfl (bv_one _) (k := n25 + n27) rfl (bv_app _ _).symm (by unfold maxLen; omega) (by omega) hS.size ?_
      intro A28 c28 x4 own28 hgr hob
      have hne28 : ∀ k, (Value.slice A28 (n25 + n27) c28).ownBlock = some k → k ≠ go := fun k hk => by
        rcases hob with hob | hob
        · exact hne25 k (by rw [← hob]; exact hk)
        · rw [hk] at hob; injection hob with hob; have := blk_lt hgo; omega
      replace hgo := (hgr.block _ (blk_lt hgo) (fun e => by have := hne25 _ e.symm; omega)).trans hgo
      obtain ⟨n28, hn28⟩ : ∃ m, m = n25 + n27 := ⟨_, rfl⟩
      rw [← hn28] at own28 ⊢
      rw [← hn28] at hne28
      have HN28 := Lib.hid hn28
      clear hn28
      replace hS := Below.grown hS hgr hS.size (fun j hj => (own_blk own25 hj).1)
      clear hgr hob own25 own27
      go_wp2_with fail
      refine OrdY.Seg.go hS (fun h => by cases h) ?_
      (try simp only [Act.put, List.setIfInBounds_toArray, List.set_cons_zero, List.set_cons_succ])
      have s1 : x4.cell? ⟨go, 0, none⟩ = some (.slice none 0 0) := blk_cell hgo rfl
      have s2 : x4.frozen? ⟨go, 0, none⟩ = false := blk_free (i := 0) hgo
      refine OrdY.e_x rfl (by kernel_rfl) ?_
      go_wp2
      have ha : Aw (fun j => j = go) x4 (x4.setCell ⟨go, 0, none⟩ (.slice A28 n28 c28)) := (Aw.refl _ _).set _ rfl
      replace hgo := blk_set (i := 0) hgo (.slice A28 n28 c28)
      replace own28 := own_aw own28 ha (fun j hj hu => hne28 j hj hu)
      replace hS := below_awG hS ha (fun j hj => by rw [hj]; exact hgS) hS.size
      refine OrdY.Seg.go hS (fun h => by cases h) ?_
      (try simp only [Act.put, List.setIfInBounds_toArray, List.set_cons_zero, List.set_cons_succ])
      refine OrdY.e_nil ?_
      clear s1 s2 ha
      generalize (x4.setCell ⟨go, 0, none⟩ (.slice A28 n28 c28)) = y at *
      clear c0 c1 c2 x0
      have hyW : W.heap.size ≤ y.heap.size := hS.size
      have b0 : RcB y w.heap.size t V := (hS.block _ (by omega)).trans i1
      have b1 : RcB y (w.heap.size + 1) t' V' := (hS.block _ (by omega)).trans i2
      have hdl := blk_lt hd
      have hdy := (hS.block _ hdl).trans hd
      have hby := i4.trans (hS.mono (by omega))
      replace hgo : y.heap[go]? = some (.cells #[.slice A28 n28 c28] 26) := hgo
      have hlgo := blk_lt hgo
      have hn20 : n28 ≤ 20 := by rw [HN28.out]; omega
      have hWq : ∀ k, (Value.slice A28 n28 c28).ownBlock = some k → W.heap.size ≤ k ∧ k < y.heap.size := fun k hk => own_blk own28 hk
      clear i1 i2 i3 i4 hd hS
      gi_wp2_with (with_reducible refine stop_loadI 25 ?_)
      refine go_ (wideList_load_mid w.heap.size 0 rfl _ _ b0.all Try.underlying25 rfl (by rw [rcC_size t V HV.out]; kernel_rfl) ?_)
      gi_wp2_with (with_reducible refine stop_loadI 25 ?_)
      refine go_ (wideList_load_mid (w.heap.size + 1) 0 rfl _ _ b1.all Try.underlying25 rfl (by rw [rcC_size t' V' HV'.out]; kernel_rfl) ?_)
      gi_wp2_with fail
      refine ⟨trivial, (callsIn_wide.2 (changed_any (rcC t V) (rcC t' V') y)).mono ?_⟩
      rintro x z ⟨rfl, rfl⟩
      obtain ⟨d0, d1, hs3, hb3⟩ := al2 y (.cells (rcC t V).toArray 25) (.cells (rcC t' V').toArray 25)
      have ownz := own_up own28 hb3 (Nat.le_refl _)
      have hdz := (hb3.block _ (Nat.lt_of_lt_of_le hdl hyW)).trans hdy
      have hgz := (hb3.block _ hlgo).trans hgo
      have hbz := hby.trans (hb3.mono hby.size)
      obtain ⟨m, hm⟩ : ∃ m, m = y.heap.size := ⟨_, rfl⟩
      rw [← hm] at d0 d1 hs3 hlgo hWq hyW ⊢
      generalize ((y.alloc (.cells (rcC t V).toArray 25)).alloc (.cells (rcC t' V').toArray 25)) = z at *
      replace d0 : RcB z m t V := d0
      replace d1 : RcB z (m + 1) t' V' := d1
      clear hb3 hdy hgo hby b0 b1 own28 hm
      gi_wp2_with fail
      refine rangeFunc_R rfl (enters_of Try.func106 (by kernel_rfl) rfl) (changed_seq m (m + 1) t t' V V' _ HV.out HV'.out H32.out H32'.out)
        (fun W hW hsz => ⟨hW.keep d0 (fun hk => hk), hW.keep d1 (fun hk => hk)⟩)
        (fun x vs W hE => by rw [show vs = _ from hE]; rfl) (fun x vs A' B' hE hab => hE) (fun k hk => hk.elim)
        (fun k hk => by rw [hs3]; omega)
        (D2 w.heap.size go W.heap.size m w2.heap.size w (varB L ++ varB M)) (fun _ _ _ => False) ?hI2 (fun _ _ _ _ h _ => h) ?h02
        (fun vs => { tmps := #[.agg (rcC t V).toArray, .agg (rcC t' V').toArray, .pointer (some ⟨w.heap.size, 0, none⟩), .pointer (some ⟨w.heap.size + 1, 0, none⟩), .slice none 0 0, .pointer (some ⟨w.heap.size + 2, 0, none⟩), undef, .pointer (some ⟨go, 0, none⟩), undef, vs.getD 1 undef, .agg (rcC t V).toArray, .agg (rcC t' V').toArray, .func (.func 106) #[] #[.pointer (some ⟨w.heap.size + 3, 0, none⟩), .pointer (some ⟨w.heap.size + 4, 0, none⟩)], undef, undef, undef, undef, undef, undef, .pointer (some ⟨w.heap.size + 1, 0, none⟩), .int .u32 t', .pointer (some ⟨w.heap.size, 0, none⟩), .int .u32 t, .int .u32 L, .int .u64 L, .slice A25 n25 c25, .int .u64 M, .slice A27 n27 c27, .slice A28 n28 c28, .agg (rcC t V).toArray, .agg (rcC t' V').toArray, .func (.func 106) #[] #[.pointer (some ⟨m, 0, none⟩), .pointer (some ⟨m + 1, 0, none⟩)], vs.getD 0 undef, vs.getD 1 undef, undef, undef, undef, undef, undef, undef], defers := [] }) ?assign2 ?body2 ?done2 (fun _ _ _ _ h => h.elim)
      case hI2 =>
        rintro pre A' B' ⟨i1, i2, A2, n2, c2, i3, i4, i5, i6⟩ hab
        have hn : ∀ k, (False ∨ k = z.heap.size ∨ k = z.heap.size + 1) → m + 2 ≤ k ∧ k ≤ m + 3 := fun k hk => hk.elim (fun h => h.elim) (fun hk => by rw [hs3] at hk; omega)
        have hA := blk_lt i3
        have hA2 := blk_lt i2
        exact ⟨below_awG i1 hab (fun k hk => by have := hn k hk; omega) i1.size, hab.keep i2 (fun hk => by have := hn _ hk; omega), A2, n2, c2, hab.keep i3 (fun hk => by have := hn _ hk; omega), own_aw i4 hab (fun k hk hu => by have := hn _ hu; have := i5 k hk; omega), i5, i6⟩
      case h02 => exact ⟨hbz, hdz, A28, n28, c28, hgz, by simpa using ownz, fun k hk => ⟨hne28 k hk, by have := hWq k hk; omega, .inl (hWq k hk).2⟩, by simpa using hn20⟩
      case assign2 =>
        rintro ll x vs W K hE hK
        obtain rfl : vs = _ := hE
        gi_wp2
        exact hK
      case body2 =>
        rintro pre x vs Wb ⟨i1, i2, A2, n2, c2, i3, i4, i5, i6⟩ hE hpre hge
        obtain rfl : vs = _ := hE
        rw [hs3] at hge
        obtain ⟨xi, xd⟩ := x
        have hlen := Nat.le_trans hpre.length_le (chP_len (V.zip V') 0)
        rw [Hzl.out, List.length_append, List.length_singleton] at hlen
        have hxd : -9223372036854775808 ≤ xd ∧ xd ≤ 9223372036854775807 := by
          refine chL_rng (V.zip V') (fun p hp => ⟨H32.out _ (List.of_mem_zip hp).1, H32'.out _ (List.of_mem_zip hp).2⟩) xd ?_
          rw [← chP_snd (V.zip V') 0]
          exact List.mem_map.2 ⟨(xi, xd), hpre.subset (by simp), rfl⟩
        have Hpre := Lib.hid hpre
        clear hpre
        gi_wp2_with fail
        refine Ord.regionIn_ (fun _ => True) true [34] (by kernel_rfl) (by kernel_rfl) (by kernel_rfl) (fun ⟨_, _, h⟩ => h) trivial ?_
        have hKW : Aw (fun _ => False) Wb Wb.drew := (Aw.refl _ Wb).drew
        have j1 := i1.drew
        have j2 : Wb.drew.heap[w2.heap.size]? = _ := i2
        have j3 : Wb.drew.heap[go]? = _ := i3
        have j4 := own_up i4 (w' := Wb.drew) (Below.refl _ _).drew (Nat.le_refl _)
        have hge1 : m + 2 + 2 ≤ Wb.drew.heap.size := hge
        generalize Wb.drew = W1 at *
        clear i1 i2 i3 i4 hge
        have cg := blk_cell (i := 0) (v := .slice A2 n2 c2) j3 rfl
        refine Ord.e_load Try.underlying26 rfl cg rfl (by rfl) (by kernel_rfl) ?_
        (try simp only [Act.put, List.setIfInBounds_toArray, List.set_cons_zero, List.set_cons_succ])
        ((with_reducible refine Ord.e_p (v := ?_) ?_ ?_ ?_ ?_); rotate_left; (· exact rfl); (· kernel_rfl); (· intro w2; go_simp; try with_reducible rfl))
        (try simp only [Act.put, List.setIfInBounds_toArray, List.set_cons_zero, List.set_cons_succ])
        refine Ord.e_x rfl (by kernel_rfl) ?_
        go_wp2
        have hrn : Rd (W1.alloc (.cells #[.int .i64 xd] 2)) (W1.heap.size + 1) 1 (some ⟨W1.heap.size, 0, none⟩) 1 1 ([xd].map (Value.int .i64)) := rd_litG W1 2 [.int .i64 xd] (by simp [maxLen])
        have hbn : Below W1.heap.size W1 (W1.alloc (.cells #[.int .i64 xd] 2)) := (Below.refl _ _).alloc (Nat.le_refl _) _
        have hsn : (W1.alloc (.cells #[.int .i64 xd] 2)).heap.size = W1.heap.size + 1 := World.size_alloc _ _
        refine Ord.Seg.go trivial (fun _ => hbn) ?_
        (try simp only [Act.put, List.setIfInBounds_toArray, List.set_cons_zero, List.set_cons_succ])
        generalize (W1.alloc (.cells #[.int .i64 xd] 2)) = W3 at *
        have hA3 : Aw (fun _ => False) W1 W3 := Aw.of_below' hbn
        have Hsn := Lib.hid hsn
        clear hsn
        refine Ord.e_x rfl (by kernel_rfl) ?_
        go_wp2_with fail
        go_fit (varyInts_any (some ⟨W1.heap.size, 0, none⟩) 1 1 (W1.heap.size + 1) [xd] W3 hrn (by rw [Hsn.out]; exact Nat.le_refl _) (by intro x hx; simp at hx; rw [hx]; exact hxd) (by omega))
        rintro e W4 ⟨A4, c4, n4, rfl, hown4, hb34⟩
        go_wp2_with fail
        refine Ord.Seg.go trivial (fun _ => hb34) ?_
        (try simp only [Act.put, List.setIfInBounds_toArray, List.set_cons_zero, List.set_cons_succ])
        have hw4 := own_len hown4
        have hv4 : (varB (zigV xd)).length ≤ 10 := (varN_len 9 (zigV xd)).2
        have hfm : ([xd].flatMap fun d => varB (zigV d)) = varB (zigV xd) := by simp
        rw [hfm] at hw4 hown4
        have hA4 : Aw (fun _ => False) W1 W4 := hA3.trans (Aw.of_below' hb34)
        have k4 := own_aw j4 hA4 (fun k hk hu => hu)
        have k3 := hA4.keep j3 (fun h => h)
        have k2 := hA4.keep j2 (fun h => h)
        have k1 := below_awG j1 hA4 (fun k h => h.elim) j1.size
        have hsz4 := hA4.size
        clear cg hrn hbn hb34 hA3 hfm
        refine Ord.e_x rfl (by kernel_rfl) ?_
        refine wpList_appG (base := W.heap.size) (n := n2) Try.underlying26 Hi.out rfl (by omega) k4 rfl (Rd.own hown4) rfl (bv_one _) (k := n2 + n4) rfl (bv_app _ _).symm (by unfold maxLen; omega) (by omega) (by omega) ?_
        intro A5 c5 W5 own5 hgr hob
        have hobk : ∀ k, (Value.slice A2 n2 c2).ownBlock = some k → k < W1.heap.size := fun k hk => (own_blk j4 hk).2
        have hA5 := Aw.of_grown hgr
        have l3 := hA5.keep k3 (fun hu => (i5 _ hu).1 rfl)
        have l2 := hA5.keep k2 (fun hu => (i5 _ hu).2.1 rfl)
        have l1 := below_awG k1 hA5 (fun k hu => by have := (own_blk k4 hu).1; omega) k1.size
        have l5 : ∀ k, (Value.slice A5 (n2 + n4) c5).ownBlock = some k → k ≠ go ∧ k ≠ w2.heap.size ∧ (k < m ∨ m + 4 ≤ k) := fun k hk => by
          rcases hob with hob | hob
          · exact i5 k (by rw [← hob]; exact hk)
          · rw [hk] at hob
            injection hob with hob
            have h1 := blk_lt k3
            have h2 := blk_lt k2
            omega
        obtain ⟨n5, hn5⟩ : ∃ k, k = n2 + n4 := ⟨_, rfl⟩
        rw [← hn5] at own5 l5 ⊢
        have Hn5 := Lib.hid hn5
        clear hn5 hgr
        go_wp2_with fail
        refine Ord.Seg.go trivial (fun h => by cases h) ?_
        (try simp only [Act.put, List.setIfInBounds_toArray, List.set_cons_zero, List.set_cons_succ])
        have s1 := blk_cell (i := 0) (v := .slice A2 n2 c2) l3 rfl
        have s2 := blk_free (i := 0) l3
        refine Ord.e_x rfl (by kernel_rfl) ?_
        go_wp2
        refine Ord.Seg.go trivial (fun h => by cases h) ?_
        (try simp only [Act.put, List.setIfInBounds_toArray, List.set_cons_zero, List.set_cons_succ])
        refine Ord.e_nil ?_
        have hA6 : Aw (fun k => k = go) W5 (W5.setCell ⟨go, 0, none⟩ (.slice A5 n5 c5)) := (Aw.refl _ _).set _ rfl
        have m3 := blk_set (i := 0) l3 (.slice A5 n5 c5)
        have m2 := hA6.keep l2 (fun e => by omega)
        have m1 := below_awG l1 hA6 (fun k hk => by omega) l1.size
        have m4 := own_aw own5 hA6 (fun k hk hu => (l5 k hk).1 hu)
        have hAll : Aw (fun k => (Value.slice A2 n2 c2).ownBlock = some k ∨ k = go) Wb (W5.setCell ⟨go, 0, none⟩ (.slice A5 n5 c5)) := (((hKW.trans hA4).mono (U' := fun k => (Value.slice A2 n2 c2).ownBlock = some k ∨ k = go) (fun _ h => h.elim)).trans (hA5.mono fun k h => .inl h)).trans (hA6.mono fun k h => .inr h)
        refine ⟨hAll.keeps fun k hk hu => ?_, m1, m2, A5, n5, c5, m3, ?_, l5, ?_⟩
        · rcases hu with hu | hu
          · have := (i5 k hu).2.2
            rcases hk with (rfl | rfl) | rfl | rfl <;> (try rw [hs3] at *) <;> omega
          · rcases hk with (rfl | rfl) | rfl | rfl <;> (try rw [hs3] at *) <;> omega
        · rw [List.map_append, List.flatMap_append, ← List.append_assoc]
          simpa using m4
        · rw [Hn5.out, List.length_append, List.length_singleton]
          omega
      case done2 =>
        rintro Wd ⟨i1, i2, A2, n2, c2, i3, i4, i5, i6⟩ hd2
        rw [chP_snd, List.append_assoc, HL.out, HM.out] at i4
        replace i4 : Wd.ownsRow W.heap.size 5 1 (.slice A2 n2 c2) n2 (bv (recD t V t' V')) := i4
        have cg := blk_cell (i := 0) (v := .slice A2 n2 c2) i3 rfl
        gi_wp2
        refine ⟨by simp, .inl ⟨_, _, rfl, run_takeDeferred hd2, ?_⟩⟩
        have hA7 : Aw (fun k => k = z.heap.size) Wd (Wd.putObj z.heap.size (.deferred none)) := (Aw.refl _ _).put _ rfl
        have o2 := hA7.keep i2 (by rw [hs3]; omega)
        have o1 := below_awG i1 hA7 (fun k hk => by rw [hs3] at hk; omega) i1.size
        have o4 := own_aw i4 hA7 (fun k hk hu => by rw [hs3] at hu; have := (i5 k hk).2.2; omega)
        generalize Wd.putObj z.heap.size (.deferred none) = We at *
        refine ⟨by simp, .inl ⟨_, _, rfl, run_takeDeferred o2, ?_⟩⟩
        have hA8 : Aw (fun k => k = w2.heap.size) We (We.putObj w2.heap.size (.deferred none)) := (Aw.refl _ _).put _ rfl
        have q1 := below_awG o1 hA8 (fun k hk => by omega) o1.size
        have q4 := own_aw o4 hA8 (fun k hk hu => (i5 k hk).2.1 hu)
        refine ⟨_, results_tmp (fn := Try.f23) Try.results23 _ _ _, A2, c2, n2, rfl, own_mono q4 (by omega), q1⟩
    · simp only [Ord.lst, List.filterMap_cons, List.filterMap_nil, List.getElem?_toArray, List.getElem?_cons_succ, List.getElem?_cons_zero]
      refine OrdY.e_x rfl (by kernel_rfl) ?_
      go_wp2
      have hbx : Below x0.heap.size x0 (x0.alloc (.cells #[.slice none 0 0] 26)) := (Below.refl _ _).alloc (Nat.le_refl _) _
      have hgo := heap_alloc_new x0 (.cells #[.slice none 0 0] 26)
      have hgS : W.heap.size ≤ x0.heap.size := hS.size
      replace hS := hS.trans (hbx.mono hS.size)
      clear hbx
      refine OrdY.Seg.go hS (fun h => by cases h) ?_
      (try simp only [Act.put, List.setIfInBounds_toArray, List.set_cons_zero, List.set_cons_succ])
      generalize (x0.alloc (.cells #[.slice none 0 0] 26)) = x1 at *
      generalize x0.heap.size = go at *
      ((with_reducible refine OrdY.e_p (v := ?_) ?_ ?_ ?_ ?_); rotate_left; (· exact rfl); (· kernel_rfl); (· intro w2; go_simp; try with_reducible rfl))
      (try simp only [Act.put, List.setIfInBounds_toArray, List.set_cons_zero, List.set_cons_succ])
      refine OrdY.e_loadS Try.underlying22 rfl (fun w' hS => ((show Below _ W w' from hS).cell (p := ⟨w.heap.size + 1, 0, none⟩) (by show w.heap.size + 1 < _; omega)).trans c1) hS rfl (by kernel_rfl) ?_
      (try simp only [Act.put, List.setIfInBounds_toArray, List.set_cons_zero, List.set_cons_succ])
      ((with_reducible refine OrdY.e_p (v := ?_) ?_ ?_ ?_ ?_); rotate_left; (· exact rfl); (· kernel_rfl); (· intro w2; go_simp; try with_reducible rfl))
      (try simp only [Act.put, List.setIfInBounds_toArray, List.set_cons_zero, List.set_cons_succ])
      refine OrdY.e_loadS Try.underlying22 rfl (fun w' hS => ((show Below _ W w' from hS).cell (p := ⟨w.heap.size, 0, none⟩) (by show w.heap.size < _; omega)).trans c0) hS rfl (by kernel_rfl) ?_
      (try simp only [Act.put, List.setIfInBounds_toArray, List.set_cons_zero, List.set_cons_succ])
      ((with_reducible refine OrdY.e_p (v := ?_) ?_ ?_ ?_ ?_); rotate_left; (· exact rfl); (· kernel_rfl); (· intro w2; go_simp; try with_reducible rfl))
      (try simp only [Act.put, List.setIfInBounds_toArray, List.set_cons_zero, List.set_cons_succ])
      ((with_reducible refine OrdY.e_p (v := ?_) ?_ ?_ ?_ ?_); rotate_left; (· exact rfl); (· kernel_rfl); (· intro w2; go_simp; try with_reducible rfl))
      (try simp only [Act.put, List.setIfInBounds_toArray, List.set_cons_zero, List.set_cons_succ])
      refine OrdY.e_x rfl (by kernel_rfl) ?_
      go_wp2_with fail
      go_fit (varyPut_any L x1 (by omega))
      rintro e x2 ⟨A25, c25, n25, rfl, own25, hbx⟩
      have hw25 := own_len own25
      have hv25 : (varB L).length ≤ 10 := (varN_len 9 L).2
      have hne25 : ∀ k, (Value.slice A25 n25 c25).ownBlock = some k → k ≠ go := fun k hk => by have := (own_blk own25 hk).1; have := blk_lt hgo; omega
      replace own25 := own_mono own25 (base' := W.heap.size) hS.size
      replace hgo := blk_old hgo hbx (blk_lt hgo)
      replace hS := hS.trans (hbx.mono hS.size)
      clear hbx
      go_wp2_with fail
      refine OrdY.Seg.go hS (fun h => by cases h) ?_
      (try simp only [Act.put, List.setIfInBounds_toArray, List.set_cons_zero, List.set_cons_succ])
      refine OrdY.e_loadS Try.underlying107 rfl (fun w' hS => ((show Below _ W w' from hS).cell (p := ⟨w.heap.size + 2, 0, none⟩) hg2).trans c2) hS rfl (by kernel_rfl) ?_
      (try simp only [Act.put, List.setIfInBounds_toArray, List.set_cons_zero, List.set_cons_succ])
      refine OrdY.e_x rfl (by kernel_rfl) ?_
      go_wp2_with fail
      go_fit (varyPut_any M x2 (by omega))
      rintro e x3 ⟨A27, c27, n27, rfl, own27, hbx⟩
      have hw27 := own_len own27
      have hv27 : (varB M).length ≤ 10 := (varN_len 9 M).2
      have hne27 : ∀ k, (Value.slice A27 n27 c27).ownBlock = some k → k ≠ go := fun k hk => by have := (own_blk own27 hk).1; have := blk_lt hgo; omega
      replace own27 := own_mono own27 (base' := W.heap.size) hS.size
      replace hgo := blk_old hgo hbx (blk_lt hgo)
      replace own25 := own_up own25 hbx (Nat.le_refl _)
      replace hS := hS.trans (hbx.mono hS.size)
      clear hbx
      go_wp2_with fail
      refine OrdY.Seg.go hS (fun h => by cases h) ?_
      (try simp only [Act.put, List.setIfInBounds_toArray, List.set_cons_zero, List.set_cons_succ])
      refine OrdY.e_x rfl (by kernel_rfl) ?_
      refine wpList_appG (base := W.heap.size) (n := n25) Try.underlying26 Hi.out rfl (by omega) own25 rfl (Rd.own own27) rfl (bv_one _) (k := n25 + n27) rfl (bv_app _ _).symm (by unfold maxLen; omega) (by omega) hS.size ?_
      intro A28 c28 x4 own28 hgr hob
      have hne28 : ∀ k, (Value.slice A28 (n25 + n27) c28).ownBlock = some k → k ≠ go := fun k hk => by
        rcases hob with hob | hob
        · exact hne25 k (by rw [← hob]; exact hk)
        · rw [hk] at hob; injection hob with hob; have := blk_lt hgo; omega
      replace hgo := (hgr.block _ (blk_lt hgo) (fun e => by have := hne25 _ e.symm; omega)).trans hgo
      obtain ⟨n28, hn28⟩ : ∃ m, m = n25 + n27 := ⟨_, rfl⟩
      rw [← hn28] at own28 ⊢
      rw [← hn28] at hne28
      have HN28 := Lib.hid hn28
      clear hn28
      replace hS := Below.grown hS hgr hS.size (fun j hj => (own_blk own25 hj).1)
      clear hgr hob own25 own27
      go_wp2_with fail
      refine OrdY.Seg.go hS (fun h => by cases h) ?_
      (try simp only [Act.put, List.setIfInBounds_toArray, List.set_cons_zero, List.set_cons_succ])
      have s1 : x4.cell? ⟨go, 0, none⟩ = some (.slice none 0 0) := blk_cell hgo rfl
      have s2 : x4.frozen? ⟨go, 0, none⟩ = false := blk_free (i := 0) hgo
      refine OrdY.e_x rfl (by kernel_rfl) ?_
      go_wp2
      have ha : Aw (fun j => j = go) x4 (x4.setCell ⟨go, 0, none⟩ (.slice A28 n28 c28)) := (Aw.refl _ _).set _ rfl
      replace hgo := blk_set (i := 0) hgo (.slice A28 n28 c28)
      replace own28 := own_aw own28 ha (fun j hj hu => hne28 j hj hu)
      replace hS := below_awG hS ha (fun j hj => by rw [hj]; exact hgS) hS.size
      refine OrdY.Seg.go hS (fun h => by cases h) ?_
      (try simp only [Act.put, List.setIfInBounds_toArray, List.set_cons_zero, List.set_cons_succ])
      refine OrdY.e_nil ?_
      clear s1 s2 ha
      generalize (x4.setCell ⟨go, 0, none⟩ (.slice A28 n28 c28)) = y at *
      clear c0 c1 c2 x0
      have hyW : W.heap.size ≤ y.heap.size := hS.size
      have b0 : RcB y w.heap.size t V := (hS.block _ (by omega)).trans i1
      have b1 : RcB y (w.heap.size + 1) t' V' := (hS.block _ (by omega)).trans i2
      have hdl := blk_lt hd
      have hdy := (hS.block _ hdl).trans hd
      have hby := i4.trans (hS.mono (by omega))
      replace hgo : y.heap[go]? = some (.cells #[.slice A28 n28 c28] 26) := hgo
      have hlgo := blk_lt hgo
      have hn20 : n28 ≤ 20 := by rw [HN28.out]; omega
      have hWq : ∀ k, (Value.slice A28 n28 c28).ownBlock = some k → W.heap.size ≤ k ∧ k < y.heap.size := fun k hk => own_blk own28 hk
      clear i1 i2 i3 i4 hd hS
      gi_wp2_with (with_reducible refine stop_loadI 25 ?_)
      refine go_ (wideList_load_mid w.heap.size 0 rfl _ _ b0.all Try.underlying25 rfl (by rw [rcC_size t V HV.out]; kernel_rfl) ?_)
      gi_wp2_with (with_reducible refine stop_loadI 25 ?_)
      refine go_ (wideList_load_mid (w.heap.size + 1) 0 rfl _ _ b1.all Try.underlying25 rfl (by rw [rcC_size t' V' HV'.out]; kernel_rfl) ?_)
      gi_wp2_with fail
      refine ⟨trivial, (callsIn_wide.2 (changed_any (rcC t V) (rcC t' V') y)).mono ?_⟩
      rintro x z ⟨rfl, rfl⟩
      obtain ⟨d0, d1, hs3, hb3⟩ := al2 y (.cells (rcC t V).toArray 25) (.cells (rcC t' V').toArray 25)
      have ownz := own_up own28 hb3 (Nat.le_refl _)
      have hdz := (hb3.block _ (Nat.lt_of_lt_of_le hdl hyW)).trans hdy
      have hgz := (hb3.block _ hlgo).trans hgo
      have hbz := hby.trans (hb3.mono hby.size)
      obtain ⟨m, hm⟩ : ∃ m, m = y.heap.size := ⟨_, rfl⟩
      rw [← hm] at d0 d1 hs3 hlgo hWq hyW ⊢
      generalize ((y.alloc (.cells (rcC t V).toArray 25)).alloc (.cells (rcC t' V').toArray 25)) = z at *
      replace d0 : RcB z m t V := d0
      replace d1 : RcB z (m + 1) t' V' := d1
      clear hb3 hdy hgo hby b0 b1 own28 hm
      gi_wp2_with fail
      refine rangeFunc_R rfl (enters_of Try.func106 (by kernel_rfl) rfl) (changed_seq m (m + 1) t t' V V' _ HV.out HV'.out H32.out H32'.out)
        (fun W hW hsz => ⟨hW.keep d0 (fun hk => hk), hW.keep d1 (fun hk => hk)⟩)
        (fun x vs W hE => by rw [show vs = _ from hE]; rfl) (fun x vs A' B' hE hab => hE) (fun k hk => hk.elim)
        (fun k hk => by rw [hs3]; omega)
        (D2 w.heap.size go W.heap.size m w2.heap.size w (varB L ++ varB M)) (fun _ _ _ => False) ?hI2 (fun _ _ _ _ h _ => h) ?h02
        (fun vs => { tmps := #[.agg (rcC t V).toArray, .agg (rcC t' V').toArray, .pointer (some ⟨w.heap.size, 0, none⟩), .pointer (some ⟨w.heap.size + 1, 0, none⟩), .slice none 0 0, .pointer (some ⟨w.heap.size + 2, 0, none⟩), undef, .pointer (some ⟨go, 0, none⟩), undef, vs.getD 1 undef, .agg (rcC t V).toArray, .agg (rcC t' V').toArray, .func (.func 106) #[] #[.pointer (some ⟨w.heap.size + 3, 0, none⟩), .pointer (some ⟨w.heap.size + 4, 0, none⟩)], undef, undef, undef, undef, undef, undef, .pointer (some ⟨w.heap.size + 1, 0, none⟩), .int .u32 t', .pointer (some ⟨w.heap.size, 0, none⟩), .int .u32 t, .int .u32 L, .int .u64 L, .slice A25 n25 c25, .int .u64 M, .slice A27 n27 c27, .slice A28 n28 c28, .agg (rcC t V).toArray, .agg (rcC t' V').toArray, .func (.func 106) #[] #[.pointer (some ⟨m, 0, none⟩), .pointer (some ⟨m + 1, 0, none⟩)], vs.getD 0 undef, vs.getD 1 undef, undef, undef, undef, undef, undef, undef], defers := [] }) ?assign2 ?body2 ?done2 (fun _ _ _ _ h => h.elim)
      case hI2 =>
        rintro pre A' B' ⟨i1, i2, A2, n2, c2, i3, i4, i5, i6⟩ hab
        have hn : ∀ k, (False ∨ k = z.heap.size ∨ k = z.heap.size + 1) → m + 2 ≤ k ∧ k ≤ m + 3 := fun k hk => hk.elim (fun h => h.elim) (fun hk => by rw [hs3] at hk; omega)
        have hA := blk_lt i3
        have hA2 := blk_lt i2
        exact ⟨below_awG i1 hab (fun k hk => by have := hn k hk; omega) i1.size, hab.keep i2 (fun hk => by have := hn _ hk; omega), A2, n2, c2, hab.keep i3 (fun hk => by have := hn _ hk; omega), own_aw i4 hab (fun k hk hu => by have := hn _ hu; have := i5 k hk; omega), i5, i6⟩
      case h02 => exact ⟨hbz, hdz, A28, n28, c28, hgz, by simpa using ownz, fun k hk => ⟨hne28 k hk, by have := hWq k hk; omega, .inl (hWq k hk).2⟩, by simpa using hn20⟩
      case assign2 =>
        rintro ll x vs W K hE hK
        obtain rfl : vs = _ := hE
        gi_wp2
        exact hK
      case body2 =>
        rintro pre x vs Wb ⟨i1, i2, A2, n2, c2, i3, i4, i5, i6⟩ hE hpre hge
        obtain rfl : vs = _ := hE
        rw [hs3] at hge
        obtain ⟨xi, xd⟩ := x
        have hlen := Nat.le_trans hpre.length_le (chP_len (V.zip V') 0)
        rw [Hzl.out, List.length_append, List.length_singleton] at hlen
        have hxd : -9223372036854775808 ≤ xd ∧ xd ≤ 9223372036854775807 := by
          refine chL_rng (V.zip V') (fun p hp => ⟨H32.out _ (List.of_mem_zip hp).1, H32'.out _ (List.of_mem_zip hp).2⟩) xd ?_
          rw [← chP_snd (V.zip V') 0]
          exact List.mem_map.2 ⟨(xi, xd), hpre.subset (by simp), rfl⟩
        have Hpre := Lib.hid hpre
        clear hpre
        gi_wp2_with fail
        refine Ord.regionIn_ (fun _ => True) true [34] (by kernel_rfl) (by kernel_rfl) (by kernel_rfl) (fun ⟨_, _, h⟩ => h) trivial ?_
        have hKW : Aw (fun _ => False) Wb Wb.drew := (Aw.refl _ Wb).drew
        have j1 := i1.drew
        have j2 : Wb.drew.heap[w2.heap.size]? = _ := i2
        have j3 : Wb.drew.heap[go]? = _ := i3
        have j4 := own_up i4 (w' := Wb.drew) (Below.refl _ _).drew (Nat.le_refl _)
        have hge1 : m + 2 + 2 ≤ Wb.drew.heap.size := hge
        generalize Wb.drew = W1 at *
        clear i1 i2 i3 i4 hge
        have cg := blk_cell (i := 0) (v := .slice A2 n2 c2) j3 rfl
        refine Ord.e_load Try.underlying26 rfl cg rfl (by rfl) (by kernel_rfl) ?_
        (try simp only [Act.put, List.setIfInBounds_toArray, List.set_cons_zero, List.set_cons_succ])
        ((with_reducible refine Ord.e_p (v := ?_) ?_ ?_ ?_ ?_); rotate_left; (· exact rfl); (· kernel_rfl); (· intro w2; go_simp; try with_reducible rfl))
        (try simp only [Act.put, List.setIfInBounds_toArray, List.set_cons_zero, List.set_cons_succ])
        refine Ord.e_x rfl (by kernel_rfl) ?_
        go_wp2
        have hrn : Rd (W1.alloc (.cells #[.int .i64 xd] 2)) (W1.heap.size + 1) 1 (some ⟨W1.heap.size, 0, none⟩) 1 1 ([xd].map (Value.int .i64)) := rd_litG W1 2 [.int .i64 xd] (by simp [maxLen])
        have hbn : Below W1.heap.size W1 (W1.alloc (.cells #[.int .i64 xd] 2)) := (Below.refl _ _).alloc (Nat.le_refl _) _
        have hsn : (W1.alloc (.cells #[.int .i64 xd] 2)).heap.size = W1.heap.size + 1 := World.size_alloc _ _
        refine Ord.Seg.go trivial (fun _ => hbn) ?_
        (try simp only [Act.put, List.setIfInBounds_toArray, List.set_cons_zero, List.set_cons_succ])
        generalize (W1.alloc (.cells #[.int .i64 xd] 2)) = W3 at *
        have hA3 : Aw (fun _ => False) W1 W3 := Aw.of_below' hbn
        have Hsn := Lib.hid hsn
        clear hsn
        refine Ord.e_x rfl (by kernel_rfl) ?_
        go_wp2_with fail
        go_fit (varyInts_any (some ⟨W1.heap.size, 0, none⟩) 1 1 (W1.heap.size + 1) [xd] W3 hrn (by rw [Hsn.out]; exact Nat.le_refl _) (by intro x hx; simp at hx; rw [hx]; exact hxd) (by omega))
        rintro e W4 ⟨A4, c4, n4, rfl, hown4, hb34⟩
        go_wp2_with fail
        refine Ord.Seg.go trivial (fun _ => hb34) ?_
        (try simp only [Act.put, List.setIfInBounds_toArray, List.set_cons_zero, List.set_cons_succ])
        have hw4 := own_len hown4
        have hv4 : (varB (zigV xd)).length ≤ 10 := (varN_len 9 (zigV xd)).2
        have hfm : ([xd].flatMap fun d => varB (zigV d)) = varB (zigV xd) := by simp
        rw [hfm] at hw4 hown4
        have hA4 : Aw (fun _ => False) W1 W4 := hA3.trans (Aw.of_below' hb34)
        have k4 := own_aw j4 hA4 (fun k hk hu => hu)
        have k3 := hA4.keep j3 (fun h => h)
        have k2 := hA4.keep j2 (fun h => h)
        have k1 := below_awG j1 hA4 (fun k h => h.elim) j1.size
        have hsz4 := hA4.size
        clear cg hrn hbn hb34 hA3 hfm
        refine Ord.e_x rfl (by kernel_rfl) ?_
        refine wpList_appG (base := W.heap.size) (n := n2) Try.underlying26 Hi.out rfl (by omega) k4 rfl (Rd.own hown4) rfl (bv_one _) (k := n2 + n4) rfl (bv_app _ _).symm (by unfold maxLen; omega) (by omega) (by omega) ?_
        intro A5 c5 W5 own5 hgr hob
        have hobk : ∀ k, (Value.slice A2 n2 c2).ownBlock = some k → k < W1.heap.size := fun k hk => (own_blk j4 hk).2
        have hA5 := Aw.of_grown hgr
        have l3 := hA5.keep k3 (fun hu => (i5 _ hu).1 rfl)
        have l2 := hA5.keep k2 (fun hu => (i5 _ hu).2.1 rfl)
        have l1 := below_awG k1 hA5 (fun k hu => by have := (own_blk k4 hu).1; omega) k1.size
        have l5 : ∀ k, (Value.slice A5 (n2 + n4) c5).ownBlock = some k → k ≠ go ∧ k ≠ w2.heap.size ∧ (k < m ∨ m + 4 ≤ k) := fun k hk => by
          rcases hob with hob | hob
          · exact i5 k (by rw [← hob]; exact hk)
          · rw [hk] at hob
            injection hob with hob
            have h1 := blk_lt k3
            have h2 := blk_lt k2
            omega
        obtain ⟨n5, hn5⟩ : ∃ k, k = n2 + n4 := ⟨_, rfl⟩
        rw [← hn5] at own5 l5 ⊢
        have Hn5 := Lib.hid hn5
        clear hn5 hgr
        go_wp2_with fail
        refine Ord.Seg.go trivial (fun h => by cases h) ?_
        (try simp only [Act.put, List.setIfInBounds_toArray, List.set_cons_zero, List.set_cons_succ])
        have s1 := blk_cell (i := 0) (v := .slice A2 n2 c2) l3 rfl
        have s2 := blk_free (i := 0) l3
        refine Ord.e_x rfl (by kernel_rfl) ?_
        go_wp2
        refine Ord.Seg.go trivial (fun h => by cases h) ?_
        (try simp only [Act.put, List.setIfInBounds_toArray, List.set_cons_zero, List.set_cons_succ])
        refine Ord.e_nil ?_
        have hA6 : Aw (fun k => k = go) W5 (W5.setCell ⟨go, 0, none⟩ (.slice A5 n5 c5)) := (Aw.refl _ _).set _ rfl
        have m3 := blk_set (i := 0) l3 (.slice A5 n5 c5)
        have m2 := hA6.keep l2 (fun e => by omega)
        have m1 := below_awG l1 hA6 (fun k hk => by omega) l1.size
        have m4 := own_aw own5 hA6 (fun k hk hu => (l5 k hk).1 hu)
        have hAll : Aw (fun k => (Value.slice A2 n2 c2).ownBlock = some k ∨ k = go) Wb (W5.setCell ⟨go, 0, none⟩ (.slice A5 n5 c5)) := (((hKW.trans hA4).mono (U' := fun k => (Value.slice A2 n2 c2).ownBlock = some k ∨ k = go) (fun _ h => h.elim)).trans (hA5.mono fun k h => .inl h)).trans (hA6.mono fun k h => .inr h)
        refine ⟨hAll.keeps fun k hk hu => ?_, m1, m2, A5, n5, c5, m3, ?_, l5, ?_⟩
        · rcases hu with hu | hu
          · have := (i5 k hu).2.2
            rcases hk with (rfl | rfl) | rfl | rfl <;> (try rw [hs3] at *) <;> omega
          · rcases hk with (rfl | rfl) | rfl | rfl <;> (try rw [hs3] at *) <;> omega
        · rw [List.map_append, List.flatMap_append, ← List.append_assoc]
          simpa using m4
        · rw [Hn5.out, List.length_append, List.length_singleton]
          omega
      case done2 =>
        rintro Wd ⟨i1, i2, A2, n2, c2, i3, i4, i5, i6⟩ hd2
        rw [chP_snd, List.append_assoc, HL.out, HM.out] at i4
        replace i4 : Wd.ownsRow W.heap.size 5 1 (.slice A2 n2 c2) n2 (bv (recD t V t' V')) := i4
        have cg := blk_cell (i := 0) (v := .slice A2 n2 c2) i3 rfl
        gi_wp2
        refine ⟨by simp, .inl ⟨_, _, rfl, run_takeDeferred hd2, ?_⟩⟩
        have hA7 : Aw (fun k => k = z.heap.size) Wd (Wd.putObj z.heap.size (.deferred none)) := (Aw.refl _ _).put _ rfl
        have o2 := hA7.keep i2 (by rw [hs3]; omega)
        have o1 := below_awG i1 hA7 (fun k hk => by rw [hs3] at hk; omega) i1.size
        have o4 := own_aw i4 hA7 (fun k hk hu => by rw [hs3] at hu; have := (i5 k hk).2.2; omega)
        generalize Wd.putObj z.heap.size (.deferred none) = We at *
        refine ⟨by simp, .inl ⟨_, _, rfl, run_takeDeferred o2, ?_⟩⟩
        have hA8 : Aw (fun k => k = w2.heap.size) We (We.putObj w2.heap.size (.deferred none)) := (Aw.refl _ _).put _ rfl
        have q1 := below_awG o1 hA8 (fun k hk => by omega) o1.size
        have q4 := own_aw o4 hA8 (fun k hk hu => (i5 k hk).2.1 hu)
        refine ⟨_, results_tmp (fn := Try.f23) Try.results23 _ _ _, A2, c2, n2, rfl, own_mono q4 (by omega), q1⟩

end Go.Proofs.Ytplgcfjcdjlnbaa

/-
  The document's Delta walked.
-/
set_option linter.unusedSimpArgs false
set_option linter.unusedVariables false
namespace Go.Proofs.Ytplgcfjcdjlnbaa
open Go.RowKit NumLaw
attribute [local go_sem] Addr.add_mid

theorem mkL_le (l : List (Int × Int)) (k : Nat) : mkL (l.take k) < 2 ^ k := by
  have h1 := mkL_lt (l.take k)
  have h2 : 2 ^ (l.take k).length ≤ 2 ^ k := Nat.pow_le_pow_right (by omega) (by rw [List.length_take]; omega)
  omega
theorem mkL_take {V V' : List Int} {k : Nat} {x y : Int} (hx : V[k]? = some x) (hy : V'[k]? = some y) :
    mkL ((V.zip V').take (k + 1)) = mkL ((V.zip V').take k) + (if x = y then 0 else 2 ^ k) := by
  have h1 := chP_mkL ((V.zip V').take (k + 1)) 0
  have h2 := chP_mkL ((V.zip V').take k) 0
  rw [Nat.pow_zero, Nat.one_mul] at h1 h2
  rw [← h1, ← h2, chP_take hx hy]
  split
  · rw [List.append_nil, Nat.add_zero]
  · rw [mkS_snoc]
set_option maxRecDepth 10000 in
set_option maxHeartbeats 4000000 in
theorem qrecDelta_any (t : Nat) (V : List Int) (t' : Nat) (V' : List Int) (w : World) (ht : t < 4294967296) (hV : V.length = 12) (h32 : ∀ x ∈ V, in32 x) (ht' : t' < 4294967296) (hV' : V'.length = 12) (h32' : ∀ x ∈ V', in32 x) :
    Calls Try.prog 24 #[.agg (rcC t V).toArray, .agg (rcC t' V').toArray] w (RetB w (recD t V t' V')) := by
  obtain ⟨i0, hi⟩ := info_parts u8_info
  have Hi := Lib.hid hi
  have HV := Lib.hid hV
  have HV' := Lib.hid hV'
  have H32 := Lib.hid h32
  have H32' := Lib.hid h32'
  have hzl : (V.zip V').length = 12 := by rw [List.length_zip, hV, hV']; rfl
  have Hzl := Lib.hid hzl
  clear hi hV hV' h32 h32' hzl
  obtain ⟨a0, a1, hs, hb⟩ := al2 w (.cells (rcC t V).toArray 25) (.cells (rcC t' V').toArray 25)
  obtain ⟨L, hL⟩ : ∃ L, L = laterN t t' := ⟨_, rfl⟩
  have hLl := later_lt t t'
  rw [← hL] at hLl
  have hla := fun w => later_any t t' w ht ht'
  rw [← hL] at hla
  have HL := Lib.hid hL
  clear hL
  have c0 : ((w.alloc (.cells (rcC t V).toArray 25)).alloc (.cells (rcC t' V').toArray 25)).cell? ⟨w.heap.size, 0, none⟩ = some (.int .u32 (t : Int)) := RcB.time (V := V) a0
  have c1 : ((w.alloc (.cells (rcC t V).toArray 25)).alloc (.cells (rcC t' V').toArray 25)).cell? ⟨w.heap.size + 1, 0, none⟩ = some (.int .u32 (t' : Int)) := RcB.time (V := V') a1
  go_enter Try.func24, Try.ntmps24
  go_wp2_with fail
  generalize ((w.alloc (.cells (rcC t V).toArray 25)).alloc (.cells (rcC t' V').toArray 25)) = w1 at *
  replace a0 : RcB w1 w.heap.size t V := a0
  replace a1 : RcB w1 (w.heap.size + 1) t' V' := a1
  go_fit (hla w1)
  rintro e w2 ⟨rfl, rfl⟩
  go_wp2_with fail
  go_fit (qPut03_any L w1 (by omega))
  rintro e w2 ⟨A2, c2, n2, rfl, hown2, hb12⟩
  have hw2 := own_len hown2
  have hv2 : (varB L).length ≤ 10 := (varN_len 9 L).2
  have b0 : RcB w2 w.heap.size t V := (hb12.block _ (by omega)).trans a0
  have b1 : RcB w2 (w.heap.size + 1) t' V' := (hb12.block _ (by omega)).trans a1
  have hb2 := bnx hb hb12
  have hw2s := hb12.size
  have hownA := own_mono hown2 (base' := w.heap.size + 2) (by omega)
  clear hla c0 c1 a0 a1 hown2 hb12 hb hs hw2s w1
  go_wp2_with fail
  go_loopw [6, 7, 8] (fun m b i wr => ∃ k : Nat, k ≤ 12 ∧ i = .int .i64 k ∧ m = .int .u64 (mkL ((V.zip V').take k) : Int) ∧ b = .int .u64 ((2 ^ k : Nat) : Int) ∧ Below w2.heap.size w2 wr) (fun _ _ i _ => 12 - (intOf i).toNat)
  case atStart => exact ⟨0, by omega, rfl, by simp [mkL], rfl, Below.refl _ _⟩
  case round =>
    obtain ⟨k, hk, rfl, rfl, rfl, hbr⟩ := hrel
    by_cases hlt : k < 12
    · obtain ⟨x, hx⟩ : ∃ x, V[k]? = some x := ⟨V[k]'(by rw [HV.out]; exact hlt), List.getElem?_eq_getElem _⟩
      obtain ⟨y, hy⟩ : ∃ x, V'[k]? = some x := ⟨V'[k]'(by rw [HV'.out]; exact hlt), List.getElem?_eq_getElem _⟩
      have htk := mkL_take hx hy
      have hml := mkL_le (V.zip V') k
      have hml2 := mkL_le (V.zip V') (k + 1)
      have hp2 : 2 ^ (k + 1) = 2 ^ k + 2 ^ k := by rw [Nat.pow_succ]; omega
      have h12 : 2 ^ k ≤ 2 ^ 12 := Nat.pow_le_pow_right (by omega) (by omega)
      have h12 : 2 ^ k ≤ 4096 := h12
      obtain ⟨p, hp⟩ : ∃ p, p = 2 ^ k := ⟨_, rfl⟩
      obtain ⟨m, hm⟩ : ∃ m, m = mkL ((V.zip V').take k) := ⟨_, rfl⟩
      rw [← hp, ← hm] at htk
      rw [← hp, ← hm] at hml
      rw [← hp] at hp2 h12
      rw [← hp, ← hm]
      have Hx := Lib.hid hx
      have Hy := Lib.hid hy
      have Htk := Lib.hid htk
      have Hp2 := Lib.hid hp2
      have q0 := (hbr.cell (p := ⟨w.heap.size, 1 + k, none⟩) (blk_lt b0)).trans (b0.at_ hx)
      have q1 := (hbr.cell (p := ⟨w.heap.size + 1, 1 + k, none⟩) (blk_lt b1)).trans (b1.at_ hy)
      clear hx hy htk hp2 hp hm hml2
      go_wp2_with fail
      refine Ord.region_ (fun w' => Below w2.heap.size w2 w') false [] (by kernel_rfl) (by kernel_rfl) hbr.drew ?_
      replace hbr := hbr.drew
      generalize wr.drew = wd at *
      clear q0 q1
      ((with_reducible refine Ord.e_p (v := ?_) ?_ ?_ ?_ ?_); rotate_left; (· exact rfl); (· kernel_rfl); (· intro w2; go_simp; try with_reducible rfl))
      (try simp only [Act.put, List.setIfInBounds_toArray, List.set_cons_zero, List.set_cons_succ])
      ((with_reducible refine Ord.e_p (v := ?_) ?_ ?_ ?_ ?_); rotate_left; (· exact rfl); (· kernel_rfl); (· intro w2; go_simp; try with_reducible rfl))
      (try simp only [Act.put, List.setIfInBounds_toArray, List.set_cons_zero, List.set_cons_succ])
      ((with_reducible refine Ord.e_p (v := ?_) ?_ ?_ ?_ ?_); rotate_left; (· exact rfl); (· kernel_rfl); (· intro w2; go_simp; try with_reducible rfl))
      (try simp only [Act.put, List.setIfInBounds_toArray, List.set_cons_zero, List.set_cons_succ])
      refine Ord.e_loadS Try.underlying21 rfl (fun w' hS => ((show Below _ w2 w' from hS).cell (p := ⟨w.heap.size, 1 + k, none⟩) (blk_lt b0)).trans (b0.at_ Hx.out)) hbr rfl (by kernel_rfl) ?_
      (try simp only [Act.put, List.setIfInBounds_toArray, List.set_cons_zero, List.set_cons_succ])
      ((with_reducible refine Ord.e_p (v := ?_) ?_ ?_ ?_ ?_); rotate_left; (· exact rfl); (· kernel_rfl); (· intro w2; go_simp; try with_reducible rfl))
      (try simp only [Act.put, List.setIfInBounds_toArray, List.set_cons_zero, List.set_cons_succ])
      ((with_reducible refine Ord.e_p (v := ?_) ?_ ?_ ?_ ?_); rotate_left; (· exact rfl); (· kernel_rfl); (· intro w2; go_simp; try with_reducible rfl))
      (try simp only [Act.put, List.setIfInBounds_toArray, List.set_cons_zero, List.set_cons_succ])
      ((with_reducible refine Ord.e_p (v := ?_) ?_ ?_ ?_ ?_); rotate_left; (· exact rfl); (· kernel_rfl); (· intro w2; go_simp; try with_reducible rfl))
      (try simp only [Act.put, List.setIfInBounds_toArray, List.set_cons_zero, List.set_cons_succ])
      refine Ord.e_loadS Try.underlying21 rfl (fun w' hS => ((show Below _ w2 w' from hS).cell (p := ⟨w.heap.size + 1, 1 + k, none⟩) (blk_lt b1)).trans (b1.at_ Hy.out)) hbr rfl (by kernel_rfl) ?_
      (try simp only [Act.put, List.setIfInBounds_toArray, List.set_cons_zero, List.set_cons_succ])
      ((with_reducible refine Ord.e_p (v := ?_) ?_ ?_ ?_ ?_); rotate_left; (· exact rfl); (· kernel_rfl); (· intro w2; go_simp; try with_reducible rfl))
      (try simp only [Act.put, List.setIfInBounds_toArray, List.set_cons_zero, List.set_cons_succ])
      refine Ord.e_nil ?_
      by_cases hxy : x = y
      · subst hxy
        have e := Htk.out
        rw [if_pos rfl, Nat.add_zero] at e
        have He := Lib.hid e
        clear e
        go_wp2
        go_roundw
        case rel => exact ⟨k + 1, by omega, by go_num, by rw [He.out]; rfl, by rw [Hp2.out]; exact val_int (by omega), hbr⟩
        case measure => simp [intOf]; omega
      · have e := Htk.out
        rw [if_neg hxy] at e
        have He := Lib.hid e
        clear e
        go_wp2
        go_roundw
        case rel => exact ⟨k + 1, by omega, by go_num, by rw [He.out]; exact val_int (by omega), by rw [Hp2.out]; exact val_int (by omega), hbr⟩
        case measure => simp [intOf]; omega
    · obtain rfl : k = 12 := by omega
      have ht : (V.zip V').take 12 = V.zip V' := List.take_of_length_le (by rw [Hzl.out]; exact Nat.le_refl _)
      rw [ht]
      have b0' : RcB wr w.heap.size t V := (hbr.block _ (blk_lt b0)).trans b0
      have b1' : RcB wr (w.heap.size + 1) t' V' := (hbr.block _ (blk_lt b1)).trans b1
      have hown3 := own_up hownA hbr (Nat.le_refl _)
      have hb3 := bnx hb2 hbr
      have hml := mkL_lt (V.zip V')
      rw [Hzl.out] at hml
      have hml : mkL (V.zip V') < 4096 := hml
      obtain ⟨M, hM⟩ : ∃ M, M = mkL (V.zip V') := ⟨_, rfl⟩
      rw [← hM] at hml ⊢
      have HM := Lib.hid hM
      clear hM ht b0 b1 hownA hb2 hbr
      go_wp2_with fail
      go_fit (qPut03_any M wr (by omega))
      rintro e w4 ⟨A4, c4, n4, rfl, hown4, hb34⟩
      have hw4 := own_len hown4
      have hv4 : (varB M).length ≤ 10 := (varN_len 9 M).2
      have hownb := own_up hown3 hb34 (Nat.le_refl _)
      have b0 : RcB w4 w.heap.size t V := (hb34.block _ (blk_lt b0')).trans b0'
      have b1 : RcB w4 (w.heap.size + 1) t' V' := (hb34.block _ (blk_lt b1')).trans b1'
      have hb4 := bnx hb3 hb34
      have hg1 := blk_lt b1
      clear b0' b1' hown3 hb3 hb34
      go_wp2_with (at_builtin; refine stop_ ?_)
      refine go_ (wpList_appG (base := w.heap.size + 2) (n := n2) Try.underlying26 Hi.out rfl (by omega) hownb rfl (Rd.own hown4) rfl (bv_one _) (k := n2 + n4) rfl (bv_app _ _).symm (by unfold maxLen; omega) (by omega) (by omega) ?_)
      intro A5 c5 w5 hown5 hgr hob
      have hne5 : ∀ j, (Value.slice A2 n2 c2).ownBlock = some j → w.heap.size + 2 ≤ j := fun j hj => (own_blk hownb hj).1
      have d0 : RcB w5 w.heap.size t V := (hgr.block _ (blk_lt b0) (fun e => by have := hne5 _ e.symm; omega)).trans b0
      have d1 : RcB w5 (w.heap.size + 1) t' V' := (hgr.block _ (blk_lt b1) (fun e => by have := hne5 _ e.symm; omega)).trans b1
      have hb5 := Below.grown hb4 hgr hb4.size (fun j hj => by have := hne5 j hj; omega)
      clear hgr hob hne5 hownb hown4 b0 b1 hb4 hg1
      obtain ⟨n5, hn5⟩ : ∃ n, n = n2 + n4 := ⟨_, rfl⟩
      rw [← hn5] at hown5 ⊢
      have hn5' : n5 ≤ 20 := by omega
      clear hn5
      go_wp2_with fail
      go_loopw [5, 9] (fun s i wr => ∃ (k m : Nat) (A : Option Addr) (c : Nat), k ≤ 12 ∧ i = .int .i64 k ∧ s = .slice A m c ∧ m ≤ 20 + 10 * k ∧ RcB wr w.heap.size t V ∧ RcB wr (w.heap.size + 1) t' V' ∧ wr.ownsRow (w.heap.size + 2) 5 1 (.slice A m c) m (bv (varB L ++ varB M ++ ((chP 0 ((V.zip V').take k)).map (·.2)).flatMap fun d => varB (zigV d))) ∧ Below w.heap.size w wr) (fun _ i _ => 12 - (intOf i).toNat)
      case atStart => exact ⟨0, n5, A5, c5, by omega, rfl, rfl, by omega, d0, d1, by simpa [chP] using hown5, hb5⟩
      case round =>
        clear d0 d1 hown5 hb5 hn5' w5
        obtain ⟨k, m, A, c, hk, rfl, rfl, hm, b0, b1, hown, hb⟩ := hrel
        by_cases hlt : k < 12
        · obtain ⟨x, hx⟩ : ∃ x, V[k]? = some x := ⟨V[k]'(by rw [HV.out]; exact hlt), List.getElem?_eq_getElem _⟩
          obtain ⟨y, hy⟩ : ∃ x, V'[k]? = some x := ⟨V'[k]'(by rw [HV'.out]; exact hlt), List.getElem?_eq_getElem _⟩
          have hxi := H32.out x (List.mem_of_getElem? hx)
          have hyi := H32'.out y (List.mem_of_getElem? hy)
          unfold in32 at hxi hyi
          have hts := chP_take hx hy
          have Hx := Lib.hid hx
          have Hy := Lib.hid hy
          have Hts := Lib.hid hts
          clear hx hy hts
          go_wp2_with fail
          refine Ord.region_ (fun w' => Below wr.heap.size wr w') false [] (by kernel_rfl) (by kernel_rfl) ((Below.refl _ _).drew) ?_
          have f0 : Below wr.heap.size wr wr.drew := (Below.refl _ _).drew
          ((with_reducible refine Ord.e_p (v := ?_) ?_ ?_ ?_ ?_); rotate_left; (· exact rfl); (· kernel_rfl); (· intro w2; go_simp; try with_reducible rfl))
          (try simp only [Act.put, List.setIfInBounds_toArray, List.set_cons_zero, List.set_cons_succ])
          ((with_reducible refine Ord.e_p (v := ?_) ?_ ?_ ?_ ?_); rotate_left; (· exact rfl); (· kernel_rfl); (· intro w2; go_simp; try with_reducible rfl))
          (try simp only [Act.put, List.setIfInBounds_toArray, List.set_cons_zero, List.set_cons_succ])
          ((with_reducible refine Ord.e_p (v := ?_) ?_ ?_ ?_ ?_); rotate_left; (· exact rfl); (· kernel_rfl); (· intro w2; go_simp; try with_reducible rfl))
          (try simp only [Act.put, List.setIfInBounds_toArray, List.set_cons_zero, List.set_cons_succ])
          refine Ord.e_loadS Try.underlying21 rfl (fun w' hS => ((show Below _ wr w' from hS).cell (p := ⟨w.heap.size, 1 + k, none⟩) (blk_lt b0)).trans (b0.at_ Hx.out)) f0 rfl (by kernel_rfl) ?_
          (try simp only [Act.put, List.setIfInBounds_toArray, List.set_cons_zero, List.set_cons_succ])
          ((with_reducible refine Ord.e_p (v := ?_) ?_ ?_ ?_ ?_); rotate_left; (· exact rfl); (· kernel_rfl); (· intro w2; go_simp; try with_reducible rfl))
          (try simp only [Act.put, List.setIfInBounds_toArray, List.set_cons_zero, List.set_cons_succ])
          ((with_reducible refine Ord.e_p (v := ?_) ?_ ?_ ?_ ?_); rotate_left; (· exact rfl); (· kernel_rfl); (· intro w2; go_simp; try with_reducible rfl))
          (try simp only [Act.put, List.setIfInBounds_toArray, List.set_cons_zero, List.set_cons_succ])
          ((with_reducible refine Ord.e_p (v := ?_) ?_ ?_ ?_ ?_); rotate_left; (· exact rfl); (· kernel_rfl); (· intro w2; go_simp; try with_reducible rfl))
          (try simp only [Act.put, List.setIfInBounds_toArray, List.set_cons_zero, List.set_cons_succ])
          refine Ord.e_loadS Try.underlying21 rfl (fun w' hS => ((show Below _ wr w' from hS).cell (p := ⟨w.heap.size + 1, 1 + k, none⟩) (blk_lt b1)).trans (b1.at_ Hy.out)) f0 rfl (by kernel_rfl) ?_
          (try simp only [Act.put, List.setIfInBounds_toArray, List.set_cons_zero, List.set_cons_succ])
          ((with_reducible refine Ord.e_p (v := ?_) ?_ ?_ ?_ ?_); rotate_left; (· exact rfl); (· kernel_rfl); (· intro w2; go_simp; try with_reducible rfl))
          (try simp only [Act.put, List.setIfInBounds_toArray, List.set_cons_zero, List.set_cons_succ])
          refine Ord.e_nil ?_
          have d0 : RcB wr.drew w.heap.size t V := (f0.block _ (blk_lt b0)).trans b0
          have d1 : RcB wr.drew (w.heap.size + 1) t' V' := (f0.block _ (blk_lt b1)).trans b1
          replace hown := own_up hown f0 (Nat.le_refl _)
          replace hb := bnx hb f0
          generalize wr.drew = w1 at *
          clear b0 b1 f0 wr
          by_cases hxy : x = y
          · subst hxy
            have e := Hts.out
            rw [if_pos rfl, List.append_nil] at e
            have He := Lib.hid e
            clear e
            go_wp2
            go_roundw
            case rel => exact ⟨k + 1, m, A, c, by omega, by go_num, rfl, by omega, d0, d1, by rw [He.out]; exact hown, hb⟩
            case measure => simp [intOf]; omega
          · have e := Hts.out
            rw [if_neg hxy] at e
            have He := Lib.hid e
            have hwr : IntKind.i64.wrap (y - x) = y - x := by rw [IntKind.wrap_i64]; omega
            have hzl := zig_lt (n := y - x) (by omega)
            clear e
            go_wp2_with fail
            refine Ord.region_ (fun w' => RcB w' w.heap.size t V ∧ RcB w' (w.heap.size + 1) t' V') false [] (by kernel_rfl) (by kernel_rfl) ⟨d0, d1⟩ ?_
            have hS : RcB w1.drew w.heap.size t V ∧ RcB w1.drew (w.heap.size + 1) t' V' := ⟨d0, d1⟩
            have f0 : Below w1.heap.size w1 w1.drew := (Below.refl _ _).drew
            generalize w1.drew = w2 at *
            ((with_reducible refine Ord.e_p (v := ?_) ?_ ?_ ?_ ?_); rotate_left; (· exact rfl); (· kernel_rfl); (· intro w2; go_simp; try with_reducible rfl))
            (try simp only [Act.put, List.setIfInBounds_toArray, List.set_cons_zero, List.set_cons_succ])
            ((with_reducible refine Ord.e_p (v := ?_) ?_ ?_ ?_ ?_); rotate_left; (· exact rfl); (· kernel_rfl); (· intro w2; go_simp; try with_reducible rfl))
            (try simp only [Act.put, List.setIfInBounds_toArray, List.set_cons_zero, List.set_cons_succ])
            ((with_reducible refine Ord.e_p (v := ?_) ?_ ?_ ?_ ?_); rotate_left; (· exact rfl); (· kernel_rfl); (· intro w2; go_simp; try with_reducible rfl))
            (try simp only [Act.put, List.setIfInBounds_toArray, List.set_cons_zero, List.set_cons_succ])
            ((with_reducible refine Ord.e_p (v := ?_) ?_ ?_ ?_ ?_); rotate_left; (· exact rfl); (· kernel_rfl); (· intro w2; go_simp; try with_reducible rfl))
            (try simp only [Act.put, List.setIfInBounds_toArray, List.set_cons_zero, List.set_cons_succ])
            refine Ord.e_loadS Try.underlying21 rfl (fun w' hS => (show _ ∧ RcB w' (w.heap.size + 1) t' V' from hS).2.at_ Hy.out) hS rfl (by kernel_rfl) ?_
            (try simp only [Act.put, List.setIfInBounds_toArray, List.set_cons_zero, List.set_cons_succ])
            ((with_reducible refine Ord.e_p (v := ?_) ?_ ?_ ?_ ?_); rotate_left; (· exact rfl); (· kernel_rfl); (· intro w2; go_simp; try with_reducible rfl))
            (try simp only [Act.put, List.setIfInBounds_toArray, List.set_cons_zero, List.set_cons_succ])
            ((with_reducible refine Ord.e_p (v := ?_) ?_ ?_ ?_ ?_); rotate_left; (· exact rfl); (· kernel_rfl); (· intro w2; go_simp; try with_reducible rfl))
            (try simp only [Act.put, List.setIfInBounds_toArray, List.set_cons_zero, List.set_cons_succ])
            ((with_reducible refine Ord.e_p (v := ?_) ?_ ?_ ?_ ?_); rotate_left; (· exact rfl); (· kernel_rfl); (· intro w2; go_simp; try with_reducible rfl))
            (try simp only [Act.put, List.setIfInBounds_toArray, List.set_cons_zero, List.set_cons_succ])
            ((with_reducible refine Ord.e_p (v := ?_) ?_ ?_ ?_ ?_); rotate_left; (· exact rfl); (· kernel_rfl); (· intro w2; go_simp; try with_reducible rfl))
            (try simp only [Act.put, List.setIfInBounds_toArray, List.set_cons_zero, List.set_cons_succ])
            refine Ord.e_loadS Try.underlying21 rfl (fun w' hS => (show RcB w' w.heap.size t V ∧ _ from hS).1.at_ Hx.out) hS rfl (by kernel_rfl) ?_
            (try simp only [Act.put, List.setIfInBounds_toArray, List.set_cons_zero, List.set_cons_succ])
            ((with_reducible refine Ord.e_p (v := ?_) ?_ ?_ ?_ ?_); rotate_left; (· exact rfl); (· kernel_rfl); (· intro w2; go_simp; try with_reducible rfl))
            (try simp only [Act.put, List.setIfInBounds_toArray, List.set_cons_zero, List.set_cons_succ])
            ((with_reducible refine Ord.e_p (v := ?_) ?_ ?_ ?_ ?_); rotate_left; (· exact rfl); (· kernel_rfl); (· intro w2; go_simp; try with_reducible rfl))
            (try simp only [Act.put, List.setIfInBounds_toArray, List.set_cons_zero, List.set_cons_succ])
            refine Ord.e_x rfl (by kernel_rfl) ?_
            go_wp2_with fail
            go_fit (qZig_any (y - x) w2 (by omega))
            rintro e w3 ⟨rfl, rfl⟩
            go_wp2_with fail
            refine Ord.Seg.go hS (fun h => by cases h) ?_
            (try simp only [Act.put, List.setIfInBounds_toArray, List.set_cons_zero, List.set_cons_succ])
            refine Ord.e_x rfl (by kernel_rfl) ?_
            go_wp2_with fail
            go_fit (qPut03_any (zigV (y - x)) w2 hzl)
            rintro e w4 ⟨A4, c4, n4, rfl, hown4, hb34⟩
            have hw4 := own_len hown4
            have hv4 : (varB (zigV (y - x))).length ≤ 10 := (varN_len 9 (zigV (y - x))).2
            have f4 := f0.trans (hb34.mono f0.size)
            have hS4 : RcB w4 w.heap.size t V ∧ RcB w4 (w.heap.size + 1) t' V' := ⟨(hb34.block _ (blk_lt hS.1)).trans hS.1, (hb34.block _ (blk_lt hS.2)).trans hS.2⟩
            go_wp2_with fail
            refine Ord.Seg.go hS4 (fun h => by cases h) ?_
            (try simp only [Act.put, List.setIfInBounds_toArray, List.set_cons_zero, List.set_cons_succ])
            have hownb := own_up hown f4 (Nat.le_refl _)
            have hbb := bnx hb f4
            have hg1 := blk_lt hS4.2
            clear hown hb f0 hS f4
            refine Ord.e_x rfl (by kernel_rfl) ?_
            refine wpList_appG (base := w.heap.size + 2) (n := m) Try.underlying26 Hi.out rfl (by omega) hownb rfl (Rd.own hown4) rfl (bv_one _) (k := m + n4) rfl (bv_app _ _).symm (by unfold maxLen; omega) (by omega) (by omega) ?_
            intro A5 c5 w5 hown5 hgr hob
            have hne5 : ∀ j, (Value.slice A m c).ownBlock = some j → w.heap.size + 2 ≤ j := fun j hj => (own_blk hownb hj).1
            have hS5 : RcB w5 w.heap.size t V ∧ RcB w5 (w.heap.size + 1) t' V' := ⟨(hgr.block _ (blk_lt hS4.1) (fun e => by have := hne5 _ e.symm; omega)).trans hS4.1, (hgr.block _ (blk_lt hS4.2) (fun e => by have := hne5 _ e.symm; omega)).trans hS4.2⟩
            have hb5 := Below.grown hbb hgr hbb.size (fun j hj => by have := hne5 j hj; omega)
            clear hgr hob hne5 hownb hown4 hbb
            go_wp2_with fail
            refine Ord.Seg.go hS5 (fun h => by cases h) ?_
            (try simp only [Act.put, List.setIfInBounds_toArray, List.set_cons_zero, List.set_cons_succ])
            ((with_reducible refine Ord.e_p (v := ?_) ?_ ?_ ?_ ?_); rotate_left; (· exact rfl); (· kernel_rfl); (· intro w2; go_simp; try with_reducible rfl))
            (try simp only [Act.put, List.setIfInBounds_toArray, List.set_cons_zero, List.set_cons_succ])
            refine Ord.e_nil ?_
            go_wp2
            go_roundw
            case rel => exact ⟨k + 1, m + n4, A5, c5, by omega, by go_num, rfl, by omega, hS5.1, hS5.2, by rw [He.out, List.map_append, List.flatMap_append, ← List.append_assoc]; simpa using hown5, hb5⟩
            case measure => simp [intOf]; omega
        · obtain rfl : k = 12 := by omega
          have ht : (V.zip V').take 12 = V.zip V' := List.take_of_length_le (by rw [Hzl.out]; exact Nat.le_refl _)
          rw [ht, chP_snd, List.append_assoc, HL.out, HM.out] at hown
          replace hown : wr.ownsRow (w.heap.size + 2) 5 1 (.slice A m c) m (bv (recD t V t' V')) := hown
          go_wp2
          go_ret
          exact ⟨A, c, m, rfl, own_mono hown (by omega), hb⟩

end Go.Proofs.Ytplgcfjcdjlnbaa
