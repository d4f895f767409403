/-
  rec.Key and the document's Key, walked.
-/
import Derived.Test.YtplgcfjcdjlnbaaRecOpen
import Derived.Test.YtplgcfjcdjlnbaaVary4
import Derived.Deep.MidRow
import Derived.Test.YtplgcfjcdjlnbaaBig2
import Derived.Test.YtplgcfjcdjlnbaaOctRefW
set_option linter.unusedSimpArgs false
set_option linter.unusedVariables false
namespace Go.Proofs.Ytplgcfjcdjlnbaa
open Go.RowKit NumLaw
attribute [local go_sem] Addr.add_mid

theorem rcC_size (t : Nat) (V : List Int) (hV : V.length = 12) : (rcC t V).length = 13 := by unfold rcC; rw [List.length_cons, List.length_map, hV]
/-- A record's block. -/
def RcB (w : World) (g t : Nat) (V : List Int) : Prop := w.heap[g]? = some (.cells (rcC t V).toArray 25)
theorem RcB.time {w : World} {g t : Nat} {V : List Int} (h : RcB w g t V) : w.cell? ⟨g, 0, none⟩ = some (.int .u32 (t : Int)) := blk_cell (i := 0) h rfl
theorem RcB.row {w : World} {g t : Nat} {V : List Int} (h : RcB w g t V) : w.rangeAt g 1 (V.map (Value.int .i32)) := fun j v hv => by
  refine blk_cell (i := 1 + j) h ?_
  rw [Nat.add_comm]
  simpa [rcC] using hv
theorem RcB.all {w : World} {g t : Nat} {V : List Int} (h : RcB w g t V) : w.rangeAt g 0 (rcC t V) := fun j v hv => by
  refine blk_cell (i := 0 + j) h ?_
  rw [Nat.zero_add]
  simpa using hv
theorem RcB.at_ {w : World} {g t : Nat} {V : List Int} (h : RcB w g t V) {k : Nat} {x : Int} (hx : V[k]? = some x) : w.cell? ⟨g, 1 + k, none⟩ = some (.int .i32 x) := h.row k _ (by simp [hx])
theorem i32_inf : (Try.prog.info? 21).map (fun i => (i.zero, i.size, i.bytes)) = some (some (.int .i32 0), 1, 4) := by kernel_rfl
theorem v12_index {V : List Int} (hV : V.length = 12) {k : Nat} {x : Int} (hx : V[k]? = some x) (w : World) : (Instr.index 23 (.agg (V.map (Value.int .i32)).toArray) (.int .i64 (k : Int))).run Try.prog w = .ok (.int .i32 x) w := by
  have hk : k < V.length := (List.getElem?_eq_some_iff.1 hx).1
  have hk12 : (k : Int) < 12 := by omega
  obtain ⟨i, hi⟩ := info_parts i32_inf
  simp [Instr.index, run_underlying Try.underlying23, asIntOf, go_sem, hk12, sizeOf, typeInfo, hi.1, hi.2.2.1, part, isAgg, run_underlying Try.underlying21, hx]
  intro h
  omega
set_option maxRecDepth 10000 in
set_option maxHeartbeats 2000000 in
theorem recKey_any (t : Nat) (V : List Int) (w : World) (ht : t < 4294967296) (hV : V.length = 12) (h32 : ∀ x ∈ V, in32 x) :
    Calls Try.prog 21 #[.agg (rcC t V).toArray] w (RetB w (recK t V)) := by
  have hb1 : Below w.heap.size w (w.alloc (.cells (rcC t V).toArray 25)) := (Below.refl _ _).alloc (Nat.le_refl _) _
  have hbox : RcB (w.alloc (.cells (rcC t V).toArray 25)) w.heap.size t V := heap_alloc_new w _
  go_enter Try.func21, Try.ntmps21
  go_wp2_with fail
  generalize (w.alloc (.cells (rcC t V).toArray 25)) = w1 at *
  have hf1 : fU 4 t = true := by
    unfold fU
    refine decide_eq_true ⟨by omega, by omega, ?_⟩
    show t < 4294967296
    exact ht
  have hf2 : ∀ x ∈ V, fI 4 x = true := fun x hx => by
    have := h32 x hx
    unfold in32 at this
    unfold fI
    refine decide_eq_true ⟨by omega, by omega, ?_⟩
    show -(128 * 256 ^ 3) ≤ x ∧ x < 128 * 256 ^ 3
    omega
  have Hf1 := Lib.hid hf1
  have Hf2 := Lib.hid hf2
  have H32 := Lib.hid h32
  have HV := Lib.hid hV
  have hwk : IntKind.u64.wrap (t : Int) = t := IntWalk.u64_in _ (by omega)
  clear hf1 hf2 h32 hV
  go_fit (wMake_any w1)
  rintro e w2 ⟨rfl, hw2, hb12⟩
  have hb2 := bnx hb1 hb12
  have hgw : w.heap.size ≤ w1.heap.size := hb1.size
  have hbox2 : RcB w2 w.heap.size t V := blk_old hbox hb12 (blk_lt hbox)
  have hlt := blk_lt hbox
  generalize w1.heap.size = g at *
  have c0 := hbox2.time
  clear hbox hb1 hb12
  go_wp2_with fail
  go_fit (wU_any g _ [] false 4 t w2 hw2 (by omega) (by simp))
  rintro e w3 ⟨rfl, v3, hw3, ha3, hu3⟩
  rw [Hf1.out] at hw3
  have hw3' : Wtr w3 g v3 (bytesN 4 t) false := hw3
  have hb3 := hb2.trans ((wtr_belowG hw2 ha3).mono hgw)
  have hbox3 : RcB w3 w.heap.size t V := (wtr_belowG hw2 ha3).block _ hlt |>.trans hbox2
  clear hw2 hw3 ha3 hu3 hb2 hbox2 c0 w2
  have hrow := hbox3.row
  have Hrow := Lib.hid hrow
  clear hrow
  go_wp2_with (first | (with_reducible refine stop_loadT 23 ?_) | (with_reducible refine stop_storeT 23 ?_))
  refine go_ (wpList_load_mid rfl _ _ rfl w.heap.size 1 rfl (V.map (Value.int .i32)) _ Hrow.out Try.underlying23 rfl (by rw [List.length_map, HV.out]; kernel_rfl) ?_)
  clear hbox3 Hrow
  go_wp2_with fail
  go_loopw [14] (fun i wr => ∃ (k : Nat) (v : Value) (lw : List UInt8), k ≤ 12 ∧ i = .int .i64 k ∧ Wtr wr g v lw false ∧ Below w.heap.size w wr ∧ lw.length ≤ 4 + 4 * k ∧ Hid (lw = bytesN 4 t ++ (V.take k).flatMap fun x => bytesN 4 (un x))) (fun i _ => 12 - (intOf i).toNat)
  case atStart => exact ⟨0, v3, bytesN 4 t, by omega, rfl, hw3', hb3, by rw [bytesN_len]; omega, Lib.hid (by simp)⟩
  case round =>
    clear hw3' hb3 w3
    obtain ⟨k, v, lw, hk, rfl, hw, hb, hlw, hlB⟩ := hrel
    by_cases hlt2 : k < 12
    · obtain ⟨x, hx⟩ : ∃ x, V[k]? = some x := ⟨V[k]'(by rw [HV.out]; exact hlt2), List.getElem?_eq_getElem _⟩
      have hxi := H32.out x (List.mem_of_getElem? hx)
      unfold in32 at hxi
      have hfx := Hf2.out x (List.mem_of_getElem? hx)
      have hts : V.take (k + 1) = V.take k ++ [x] := take_succ hx
      have Hts := Lib.hid hts
      have Hfx := Lib.hid hfx
      have Hx := Lib.hid hx
      clear hts hfx hx
      have hidx := fun w => v12_index HV.out Hx.out w
      go_wp2_with fail
      go_fit (wI_any g v lw false 4 x wr hw (by omega) (by omega))
      rintro e w6 ⟨rfl, v6, hw6, ha6, hu6⟩
      rw [Hfx.out] at hw6
      have hw6' : Wtr w6 g v6 (lw ++ bytesN 4 (un x)) false := hw6
      have hb6 := hb.trans ((wtr_belowG hw ha6).mono hgw)
      clear hw hw6 ha6 hu6 hb
      go_wp2
      go_roundw
      case rel => exact ⟨k + 1, v6, _, by omega, by go_num, hw6', hb6, by rw [List.length_append, bytesN_len]; omega, Lib.hid (by rw [Hts.out, List.flatMap_append, ← List.append_assoc, ← hlB.out]; simp)⟩
      case measure => simp [intOf]; omega
    · obtain rfl : k = 12 := by omega
      have e : lw = recK t V := by rw [hlB.out, List.take_of_length_le (by rw [HV.out]; exact Nat.le_refl _)]; rfl
      subst e
      go_wp2_with fail
      go_fit (wBytes_any g v _ false wr hw (by omega))
      rintro e w5 ⟨A5, c5, n5, rfl, hown5, hb5⟩
      go_wp2
      go_ret
      exact ⟨A5, c5, n5, rfl, own_mono hown5 hb.size, bnx hb hb5⟩

set_option maxRecDepth 10000 in
set_option maxHeartbeats 2000000 in
theorem qrecKey_any (t : Nat) (V : List Int) (w : World) (ht : t < 4294967296) (hV : V.length = 12) (h32 : ∀ x ∈ V, in32 x) :
    Calls Try.prog 22 #[.agg (rcC t V).toArray] w (RetB w (recK t V)) := by
  obtain ⟨i0, hi⟩ := info_parts u8_info
  have Hi := Lib.hid hi
  have hb1 : Below w.heap.size w (w.alloc (.cells (rcC t V).toArray 25)) := (Below.refl _ _).alloc (Nat.le_refl _) _
  have hbox : RcB (w.alloc (.cells (rcC t V).toArray 25)) w.heap.size t V := heap_alloc_new w _
  have H32 := Lib.hid h32
  have HV := Lib.hid hV
  have hwk : IntKind.u64.wrap (t : Int) = t := IntWalk.u64_in _ (by omega)
  have c0 := hbox.time
  have hb4 := fun w => qBytes_any 4 t w (by omega) (by omega)
  rw [show ((4 : Nat) : Int) = 4 from rfl] at hb4
  clear hi h32 hV
  go_enter Try.func22, Try.ntmps22
  go_wp2_with fail
  generalize (w.alloc (.cells (rcC t V).toArray 25)) = w1 at *
  go_fit (hb4 w1)
  rintro e w2 ⟨A2, c2, n2, rfl, hown2, hb12⟩
  have hl2 := own_len hown2
  rw [bytesN_len] at hl2
  subst hl2
  have hbox2 : RcB w2 w.heap.size t V := blk_old hbox hb12 (blk_lt hbox)
  have hb2 := bnx hb1 hb12
  have hgw : w.heap.size < w1.heap.size := blk_lt hbox
  have hw12 := hb12.size
  have hown3 := own_mono hown2 (base' := w.heap.size + 1) (by omega)
  clear hb4 hbox c0 hown2 hb12 hb1 hw12 hgw w1
  go_wp2_with fail
  go_loopw [3, 4] (fun s i wr => ∃ (k m : Nat) (A2 : Option Addr) (c2 : Nat), k ≤ 12 ∧ i = .int .i64 k ∧ s = .slice A2 m c2 ∧ m = 4 + 4 * k ∧ RcB wr w.heap.size t V ∧ wr.ownsRow (w.heap.size + 1) 5 1 (.slice A2 m c2) m (bv (bytesN 4 t ++ (V.take k).flatMap fun x => bytesN 4 (un x))) ∧ Below w.heap.size w wr) (fun _ i _ => 12 - (intOf i).toNat)
  case atStart => exact ⟨0, 4, A2, c2, by omega, rfl, rfl, rfl, hbox2, by simpa using hown3, hb2⟩
  case round =>
    clear hbox2 hown3 hb2 w2
    obtain ⟨k, m, A2, c2, hk, rfl, rfl, hm, hbox, hown, hb⟩ := hrel
    by_cases hlt2 : k < 12
    · obtain ⟨x, hx⟩ : ∃ x, V[k]? = some x := ⟨V[k]'(by rw [HV.out]; exact hlt2), List.getElem?_eq_getElem _⟩
      have hxi := H32.out x (List.mem_of_getElem? hx)
      unfold in32 at hxi
      have hts : V.take (k + 1) = V.take k ++ [x] := take_succ hx
      have Hts := Lib.hid hts
      have q0 := hbox.at_ hx
      have hun := un_wrap x
      have hult := un_lt x
      obtain ⟨ux, hux⟩ : ∃ u, u = un x := ⟨_, rfl⟩
      have Hux := Lib.hid hux
      rw [← hux] at hun hult
      have hb4 := qBytes_any 4 ux wr (by omega) hult
      rw [show ((4 : Nat) : Int) = 4 from rfl] at hb4
      have Hm := Lib.hid hm
      have hm60 : m ≤ 60 := by omega
      clear hts hx hux hm
      go_wp2_with fail
      go_fit hb4
      rintro e w6 ⟨A6, c6, n6, rfl, hown6, hb6⟩
      have hl6 := own_len hown6
      rw [bytesN_len] at hl6
      subst hl6
      have hr6 := Rd.own hown6
      have hcm6 := hr6.max
      unfold maxLen at hcm6
      have hownb := own_up hown hb6 (Nat.le_refl _)
      have hboxb : RcB w6 w.heap.size t V := blk_old hbox hb6 (blk_lt hbox)
      have hbb := bnx hb hb6
      have hlt := blk_lt hboxb
      clear q0 hun hb4 hown6 hb6 hown hbox hb
      go_wp2_with (at_builtin; refine stop_ ?_)
      refine go_ (wpList_appG (base := w.heap.size + 1) (n := m) Try.underlying26 Hi.out rfl (by omega) hownb rfl hr6 rfl (bv_one _) (k := m + 4) (ys := bv (bytesN 4 t ++ (V.take k).flatMap (fun x => bytesN 4 (un x)) ++ bytesN 4 ux)) rfl (bv_app _ _).symm (by unfold maxLen; omega) (by omega) (by omega) ?_)
      intro A7 c7 v7 hown7 hgr hob
      have hne6 : ∀ j, (Value.slice A2 m c2).ownBlock = some j → w.heap.size < j := fun j hj => by have := (own_blk hownb hj).1; omega
      have hbox7 : RcB v7 w.heap.size t V := (hgr.block _ hlt (fun e => by have := hne6 _ e.symm; omega)).trans hboxb
      have hb7 := Below.grown hbb hgr hbb.size (fun j hj => by have := hne6 j hj; omega)
      clear hgr hob hownb hboxb hbb hr6 hne6
      go_wp2
      go_roundw
      case rel =>
        refine ⟨k + 1, m + 4, A7, c7, by omega, by go_num, rfl, by rw [Hm.out]; omega, hbox7, ?_, hb7⟩
        rw [Hts.out, List.flatMap_append, ← List.append_assoc]
        simpa [← Hux.out] using hown7
      case measure => simp [intOf]; omega
    · obtain rfl : k = 12 := by omega
      have e : bytesN 4 t ++ (V.take 12).flatMap (fun x => bytesN 4 (un x)) = recK t V := by rw [List.take_of_length_le (by rw [HV.out]; exact Nat.le_refl _)]; rfl
      rw [e] at hown
      go_wp2
      go_ret
      exact ⟨A2, c2, m, rfl, own_mono hown (by omega), hb⟩

end Go.Proofs.Ytplgcfjcdjlnbaa
