/-
  find, Name, Parts walked (printed by gen_sch3.py).
-/
import Derived.Test.YtonejdjhdjckjaaGreatSch2S
import Derived.Test.YtonejdjhdjckjaaGreatSch2N
import Derived.Test.YtonejdjhdjckjaaGreatSch2A
import Derived.Test.YtonejdjhdjckjaaGreatSch2O
set_option linter.unusedSimpArgs false
set_option linter.unusedVariables false
namespace Go.Proofs.YtonejdjhdjckjaaGreat
open Go.RowKit NumLaw
attribute [local go_sem] Addr.add_mid

theorem ba_full {s : ByteArray} (h : ¬ s = ⟨#[]⟩) : s.toList.isEmpty = false := by
  rw [ByteArray.toList_eq]
  obtain ⟨⟨l⟩⟩ := s
  cases l with
  | nil => exact absurd rfl h
  | cons _ _ => rfl
theorem ba_empty {s : ByteArray} (h : s = ⟨#[]⟩) : s.toList.isEmpty = true := by
  rw [ByteArray.toList_eq, h]; rfl
/-- Halts in front of the store of that slot. -/
theorem stop_storeN (t : TypeId) (y : Operand) {P : Program} {w : World} {ops : Array Oper} {rest : List Oper} {a : Act} {Q : Exit → Act → World → Prop} {x : Operand} {d : Option Tmp} {ty : TypeId} {pos : String} {af : Array Edge}
    (h : Stop (wpList P ops Q (⟨d, .store t x y, ty, pos, af, none⟩ :: rest) a w)) : wpList P ops Q (⟨d, .store t x y, ty, pos, af, none⟩ :: rest) a w := h
structure FmR where
  s : ByteArray
  A : Option Addr
  n : Nat
  c : Nat
  L : List PtT
def fmC (r : FmR) : List Value := [.string r.s, .slice r.A r.n r.c]
set_option maxRecDepth 20000 in
set_option maxHeartbeats 8000000 in
theorem find_any (id : Int) (w : World) : Calls Tryz.prog 26 #[.int .i64 id] w (RetFm (frm id) w) := by
  have h1 := fun w => state_any id w
  have h2 := fun w => sensed_any id w
  have h3 := fun w => asked_any id w
  have h4 := fun w => own_any id w
  unfold frm
  generalize frmS id = p1 at *
  generalize frmN id = p2 at *
  generalize frmA id = p3 at *
  generalize frmO id = p4 at *
  have H1 := Lib.hid h1
  have H2 := Lib.hid h2
  have H3 := Lib.hid h3
  have H4 := Lib.hid h4
  have a0 := heap_alloc_new w (.cells #[.string ⟨#[]⟩, .slice none 0 0] 57)
  have hb : Below w.heap.size w (w.alloc (.cells #[.string ⟨#[]⟩, .slice none 0 0] 57)) := (Below.refl _ _).alloc (Nat.le_refl _) _
  clear h1 h2 h3 h4
  go_enter Tryz.func26, Tryz.ntmps26
  go_wp2_with fail
  generalize (w.alloc (.cells #[.string ⟨#[]⟩, .slice none 0 0] 57)) = w0 at *
  go_fit (H1.out w0)
  unfold RetFm
  rintro e w1 ⟨A1, n1, c1, rfl, hr1, hbx⟩
  replace a0 := blk_old a0 hbx (blk_lt a0)
  replace hb := bnx hb hbx
  clear hbx H1 w0
  go_wp2_with fail
  go_fit (H2.out w1)
  unfold RetFm
  rintro e w2 ⟨A2, n2, c2, rfl, hr2, hbx⟩
  replace a0 := blk_old a0 hbx (blk_lt a0)
  replace hb := bnx hb hbx
  replace hr1 : RdP _ _ A1 n1 c1 p1.2 := RdR.nx hr1 hbx
  clear hbx H2
  go_wp2_with fail
  go_fit (H3.out w2)
  unfold RetFm
  rintro e w3 ⟨A3, n3, c3, rfl, hr3, hbx⟩
  replace a0 := blk_old a0 hbx (blk_lt a0)
  replace hb := bnx hb hbx
  replace hr1 : RdP _ _ A1 n1 c1 p1.2 := RdR.nx hr1 hbx
  replace hr2 : RdP _ _ A2 n2 c2 p2.2 := RdR.nx hr2 hbx
  clear hbx H3
  go_wp2_with fail
  go_fit (H4.out w3)
  unfold RetFm
  rintro e w4 ⟨A4, n4, c4, rfl, hr4, hbx⟩
  replace a0 := blk_old a0 hbx (blk_lt a0)
  replace hb := bnx hb hbx
  replace hr1 : RdP _ _ A1 n1 c1 p1.2 := RdR.nx hr1 hbx
  replace hr2 : RdP _ _ A2 n2 c2 p2.2 := RdR.nx hr2 hbx
  replace hr3 : RdP _ _ A3 n3 c3 p3.2 := RdR.nx hr3 hbx
  clear hbx H4
  obtain ⟨F, hF⟩ : ∃ F : List FmR, F = [⟨p1.1, A1, n1, c1, p1.2⟩, ⟨p2.1, A2, n2, c2, p2.2⟩, ⟨p3.1, A3, n3, c3, p3.2⟩, ⟨p4.1, A4, n4, c4, p4.2⟩] := ⟨_, rfl⟩
  have hFl : F.length = 4 := by rw [hF]; rfl
  have hFp : F.map (fun r : FmR => ((r.s, r.L) : FmT)) = [p1, p2, p3, p4] := by rw [hF]; rfl
  have hFr : ∀ r ∈ F, RdP w4 w4.heap.size r.A r.n r.c r.L := by
    rw [hF]
    intro r hr
    simp only [List.mem_cons, List.not_mem_nil, or_false] at hr
    rcases hr with rfl | rfl | rfl | rfl
    · exact hr1
    · exact hr2
    · exact hr3
    · exact hr4
  have hlit := RdR.lit (size := 2) (e := 57) w4 (F.map fmC) #[.string p1.1, .slice A1 n1 c1, .string p2.1, .slice A2 n2 c2, .string p3.1, .slice A3 n3 c3, .string p4.1, .slice A4 n4 c4] (by rw [hF]; rfl) (by intro r hr; obtain ⟨f, _, rfl⟩ := List.mem_map.1 hr; rfl) (by rw [hF]; simp [maxLen]) 4 (by rw [hF]; rfl)
  have hbn : Below w4.heap.size w4 (w4.alloc (.cells #[.string p1.1, .slice A1 n1 c1, .string p2.1, .slice A2 n2 c2, .string p3.1, .slice A3 n3 c3, .string p4.1, .slice A4 n4 c4] 57)) := (Below.refl _ _).alloc (Nat.le_refl _) _
  have hsz : (w4.alloc (.cells #[.string p1.1, .slice A1 n1 c1, .string p2.1, .slice A2 n2 c2, .string p3.1, .slice A3 n3 c3, .string p4.1, .slice A4 n4 c4] 57)).heap.size = w4.heap.size + 1 := World.size_alloc _ _
  rw [← hsz] at hlit
  replace a0 := blk_old a0 hbn (blk_lt a0)
  replace hb := bnx hb hbn
  replace hFr := fun (r : FmR) (hr : r ∈ F) => (show RdP _ _ r.A r.n r.c r.L from RdR.nx (show RdR w4 w4.heap.size 4 r.A r.n r.c (r.L.map ptC) from hFr r hr) hbn)
  have HF := Lib.hid (And.intro hFl hFp)
  have HFr := Lib.hid hFr
  have Hlit := Lib.hid hlit
  clear hr1 hr2 hr3 hr4 hbn hsz hFl hFp hFr hlit hF
  go_wp2_with fail
  generalize (w4.alloc (.cells #[.string p1.1, .slice A1 n1 c1, .string p2.1, .slice A2 n2 c2, .string p3.1, .slice A3 n3 c3, .string p4.1, .slice A4 n4 c4] 57)) = w5 at *
  go_loopw [15] (fun i wr => ∃ k : Nat, k ≤ 4 ∧ i = .int .i64 k ∧ wr.heap[w.heap.size]? = some (.cells #[.string ⟨#[]⟩, .slice none 0 0] 57) ∧ Below w.heap.size w wr ∧ Below w5.heap.size w5 wr ∧ Hid (∀ r ∈ F.take k, r.s = ⟨#[]⟩)) (fun i _ => 4 - (intOf i).toNat)
  case atStart => exact ⟨0, by omega, rfl, a0, hb, Below.refl _ _, Lib.hid (by simp)⟩
  case round =>
    clear a0 hb
    obtain ⟨k, hk, rfl, a0, hb, hb5, He⟩ := hrel
    by_cases hlt : k < 4
    · have hlt' : (k : Int) < 4 := by omega
      obtain ⟨g, off, r, hA, hg, hx, hrl, hr⟩ := RdR.at_ Hlit.out hlt
      injection hA with hA
      injection hA with e1 e2 _
      subst e1
      subst e2
      obtain ⟨x, hxF⟩ : ∃ x, F[k]? = some x := ⟨_, List.getElem?_eq_getElem (by rw [HF.out.1]; exact hlt)⟩
      rw [List.getElem?_map, hxF] at hx
      injection hx with hx
      subst hx
      have k0 := (hb5.cell (p := ⟨w4.heap.size, 0 + k * 2 + 0, none⟩) hg).trans (hr 0 _ rfl)
      have k1 := (hb5.cell (p := ⟨w4.heap.size, 0 + k * 2 + 1, none⟩) hg).trans (hr 1 _ rfl)
      rw [Nat.zero_add, Nat.add_zero] at k0
      rw [Nat.zero_add] at k1
      have hxr : RdP wr wr.heap.size x.A x.n x.c x.L := RdR.nx (HFr.out x (List.mem_of_getElem? hxF)) hb5
      have HxF := Lib.hid hxF
      have hbn : Below wr.heap.size wr (wr.alloc (.cells #[.string x.s, .slice x.A x.n x.c] 57)) := (Below.refl _ _).alloc (Nat.le_refl _) _
      have hx3 := heap_alloc_new wr (.cells #[.string x.s, .slice x.A x.n x.c] 57)
      have d0 := blk_cell (i := 0) (v := .string x.s) hx3 rfl
      have d1 := blk_cell (i := 1) (v := .slice x.A x.n x.c) hx3 rfl
      replace a0 := blk_old a0 hbn (blk_lt a0)
      replace hb := bnx hb hbn
      have hb6 := bnx hb5 hbn
      replace hxr : RdP _ _ x.A x.n x.c x.L := RdR.nx hxr hbn
      clear hxF hr hrl hbn hx3 hb5
      by_cases hs : x.s = ⟨#[]⟩
      · have hsq := ba_empty hs
        have He2 := Lib.hid (show ∀ r ∈ F.take (k + 1), r.s = ⟨#[]⟩ by
          intro r hr
          rw [take_succ HxF.out] at hr
          rcases List.mem_append.1 hr with hr | hr
          · exact He.out r hr
          · rw [List.mem_singleton.1 hr]; exact hs)
        clear hxr hs
        go_wp2
        go_roundw
        case rel => exact ⟨k + 1, by omega, by go_num, a0, hb, hb6, He2⟩
        case measure => simp [intOf]; omega
      · have hsq := ba_full hs
        have hres := firstF_at (F.map (fun r : FmR => ((r.s, r.L) : FmT))) k (x.s, x.L) (by rw [List.getElem?_map, HxF.out]; rfl) hs (fun q hq => by
          rw [← List.map_take] at hq
          obtain ⟨r, hr, rfl⟩ := List.mem_map.1 hq
          exact He.out r hr)
        rw [HF.out.2] at hres
        have Hres := Lib.hid hres
        have hb' := below_setRow hb (Nat.le_refl _) (#[.string x.s, .slice x.A x.n x.c] : Array Value)
        have b0 := setRow_heap _ _ _ (#[.string x.s, .slice x.A x.n x.c] : Array Value) _ _ a0
        have hrq := rdP_set hxr a0 (#[.string x.s, .slice x.A x.n x.c] : Array Value)
        clear hres hxr hs
        go_wp2_with (first | (with_reducible refine stop_storeN 57 (.tmp 22) ?_))
        refine go_ (wpList_store_row rfl _ _ _ rfl w.heap.size #[.string x.s, .slice x.A x.n x.c] rfl rfl _ _ a0 (by kernel_rfl) rfl (by kernel_rfl) ?_)
        generalize ((wr.alloc (.cells #[.string x.s, .slice x.A x.n x.c] 57)).setRow w.heap.size #[.string x.s, .slice x.A x.n x.c]) = w9 at *
        have e0 := blk_cell (i := 0) (v := .string x.s) b0 rfl
        have e1 := blk_cell (i := 1) (v := .slice x.A x.n x.c) b0 rfl
        clear a0 b0 hb d0 d1 k0 k1
        go_wp2
        exact bodyPost_ret (v := .agg #[.string x.s, .slice x.A x.n x.c]) (by simp [results, go_sem, e0, e1]) rfl ⟨x.A, x.n, x.c, by rw [Hres.out], by rw [Hres.out]; exact hrq, hb'⟩
    · obtain rfl : k = 4 := by omega
      have hres := firstF_none (F.map (fun r : FmR => ((r.s, r.L) : FmT))) (fun q hq => by
        obtain ⟨r, hr, rfl⟩ := List.mem_map.1 hq
        exact He.out r (by rw [List.take_of_length_le (by rw [HF.out.1]; exact Nat.le_refl _)]; exact hr))
      rw [HF.out.2] at hres
      have Hres := Lib.hid hres
      have hb' := below_setRow hb (Nat.le_refl _) (#[.string ⟨#[]⟩, .slice none 0 0] : Array Value)
      have b0 := setRow_heap _ _ _ (#[.string ⟨#[]⟩, .slice none 0 0] : Array Value) _ _ a0
      clear hres
      go_wp2_with (first | (with_reducible refine stop_buildF 57 ?_))
      refine go_ ?_
      go_wp2_with (first | (with_reducible refine stop_storeT 57 ?_))
      refine go_ (wpList_store_row rfl _ _ _ rfl w.heap.size #[.string ⟨#[]⟩, .slice none 0 0] rfl rfl _ _ a0 (by kernel_rfl) rfl (by kernel_rfl) ?_)
      generalize (wr.setRow w.heap.size #[.string ⟨#[]⟩, .slice none 0 0]) = w9 at *
      have e0 := blk_cell (i := 0) (v := .string ⟨#[]⟩) b0 rfl
      have e1 := blk_cell (i := 1) (v := .slice none 0 0) b0 rfl
      clear a0 b0 hb
      go_wp2
      exact bodyPost_ret (v := .agg #[.string ⟨#[]⟩, .slice none 0 0]) (by simp [results, go_sem, e0, e1]) rfl ⟨none, 0, 0, by rw [Hres.out]; rfl, by rw [Hres.out]; exact RdR.none_ _ _ _, hb'⟩
theorem form_at (s : ByteArray) (A : Option Addr) (n c : Nat) (w : World) : (Instr.field 57 (.agg #[.string s, .slice A n c]) 0).run Tryz.prog w = .ok (.string s) w ∧ (Instr.field 57 (.agg #[.string s, .slice A n c]) 1).run Tryz.prog w = .ok (.slice A n c) w := by
  constructor
  all_goals
    simp [Instr.field, Sem.run_bind, asAgg, part, isAgg, run_underlying Tryz.underlying9, run_underlying Tryz.underlying55, run_underlying Tryz.underlying57, go_sem]
set_option maxRecDepth 20000 in
theorem parts31_any (id : Int) (w : World) : Calls Tryz.prog 43 #[.int .i64 id] w fun e w' => ∃ (A : Option Addr) (n c : Nat), e = .returned (.slice A n c) ∧ RdP w' w'.heap.size A n c (frm id).2 ∧ Below w.heap.size w w' := by
  have hf := find_any id w
  generalize frm id = p at *
  have Hf := Lib.hid hf
  clear hf
  go_enter Tryz.func43, Tryz.ntmps43
  go_wp2_with fail
  go_fit Hf.out
  unfold RetFm
  rintro e w1 ⟨A, n, c, rfl, hr, hb⟩
  have hfa := fun w => form_at p.1 A n c w
  have hf0 := fun w => (hfa w).1
  have hf1 := fun w => (hfa w).2
  clear hfa
  go_wp2
  go_ret
  exact ⟨A, n, c, rfl, hr, hb⟩

end Go.Proofs.YtonejdjhdjckjaaGreat
