/-
  The document's Take of layer 35 walked (printed by gen_blk7.py).
-/
import Derived.Test.YtplgcfjcdjlnbaaKBlk6
import Derived.Test.YtplgcfjcdjlnbaaKGE
import Derived.Test.YtplgcfjcdjlnbaaKRec10
set_option linter.unusedSimpArgs false
set_option linter.unusedVariables false
namespace Go.Proofs.Ytplgcfjcdjlnbaa
open Go.RowKit NumLaw CrcLaw
attribute [local go_sem] Addr.add_mid

theorem stop_build2 {P : Program} {w : World} {ops : Array Oper} {rest : List Oper} {a : Act} {Q : Exit → Act → World → Prop} {d : Option Tmp} {t ty : TypeId} {x y : Operand} {pos : String} {af : Array Edge}
    (h : Stop (wpList P ops Q (⟨d, .build t #[(0, x), (1, y)], ty, pos, af, none⟩ :: rest) a w)) : wpList P ops Q (⟨d, .build t #[(0, x), (1, y)], ty, pos, af, none⟩ :: rest) a w := h
theorem wpList_buildEn {w : World} {ops : Array Oper} {rest : List Oper} {a : Act} {Q : Exit → Act → World → Prop} {d : Option Tmp} {x y : Operand} {ty : TypeId} {pos : String} {af : Array Edge}
    {k : Bool} {t : Nat} {V : List Int} (hV : V.length = 12) (hx : a.eval x = .bool k) (hy : a.eval y = .agg (rcC t V).toArray)
    (h : wpList Try.prog ops Q rest (a.put d (.agg (enC ⟨k, t, V⟩).toArray)) w) : wpList Try.prog ops Q (⟨d, .build 46 #[(0, x), (1, y)], ty, pos, af, none⟩ :: rest) a w := by
  refine wpList_plain rfl fun _ hK => ?_
  unfold Oper.wp execOp
  simp only [List.map_toArray, List.map_cons, List.map_nil, hx, hy, Sem.run_bind, run_buildEn k t V hV w, Result.andThen_ok, Sem.run_pure]
  exact hK _ _ h
theorem entN_75 (V : List Int) (bg : Bool) (R : List UInt8) : entN V bg (75 :: R) = if keE R = 0 then 53 else 0 := by rw [entN_cons, if_pos rfl]
theorem entX_75 (t : Nat) (V : List Int) (bg : Bool) (R : List UInt8) (h : keE R = 0) : entX t V bg (75 :: R) = ⟨true, keT R, keV R⟩ := by rw [entX_cons, if_pos rfl, if_pos h]
theorem entN_68 (V : List Int) (R : List UInt8) : entN V false (68 :: R) = if recTE V R = 0 then recTn V R + 1 else 0 := by rw [entN_cons, if_neg (by decide), if_pos ⟨rfl, rfl⟩]
theorem entX_68 (t : Nat) (V : List Int) (R : List UInt8) (h : recTE V R = 0) : entX t V false (68 :: R) = ⟨false, recTt t V R, recTV V R⟩ := by rw [entX_cons, if_neg (by decide), if_pos ⟨rfl, rfl⟩, if_pos h]
theorem entN_no {V : List Int} {bg : Bool} {c : UInt8} {R : List UInt8} (h : ¬ c = 75) (h2 : ¬ (c = 68 ∧ bg = false)) : entN V bg (c :: R) = 0 := by rw [entN_cons, if_neg h, if_neg h2]

set_option maxRecDepth 10000 in
set_option maxHeartbeats 8000000 in
theorem qblkTake_new (A : Option Addr) (n c B : Nat) (s : List UInt8) (w : World) (h : Rd w B 1 A n c (bv s)) (hB : B ≤ w.heap.size) (hn : n ≤ 1000000) :
    Calls Try.prog 40 #[.slice A n c] w (RetTBn s w) := by
  have hlb := h.blen
  have hle := h.le
  have hmx := h.max
  unfold maxLen at hmx
  obtain ⟨i0, hi⟩ := info_parts u8_info
  obtain ⟨i1, hi1⟩ := info_parts en_info
  have hb1 : Below w.heap.size w (w.alloc (.cells #[.int .u32 0, .slice none 0 0] 41)) := (Below.refl _ _).alloc (Nat.le_refl _) _
  have hres := heap_alloc_new w (.cells #[.int .u32 0, .slice none 0 0] 41)
  have Hlb := Lib.hid hlb
  have Hi1 := Lib.hid hi1
  have Hi := Lib.hid hi
  by_cases h8 : n < 256
  · have E2 : Hid (2 = blkE s) := Lib.hid (by unfold blkE; rw [if_pos (by omega)])
    have h8' : (n : Int) < 256 := by omega
    clear hlb hi hi1
    go_enter Try.func40, Try.ntmps40
    go_wp2_with (first | (with_reducible refine stop_build0 41 ?_))
    refine go_ ?_
    generalize (w.alloc (.cells #[.int .u32 0, .slice none 0 0] 41)) = w1 at *
    go_wp2_with (first | (with_reducible refine stop_loadT 41 ?_) | (with_reducible refine stop_storeT 41 ?_))
    refine go_ (wpList_store_row rfl _ _ _ rfl w.heap.size #[.int .u32 0, .slice none 0 0] rfl rfl _ _ hres (by kernel_rfl) rfl (by kernel_rfl) ?_)
    have hresZ := setRow_heap _ _ _ (#[.int .u32 0, .slice none 0 0] : Array Value) _ _ hres
    have hbZ := below_setRow hb1 (Nat.le_refl _) (#[.int .u32 0, .slice none 0 0] : Array Value)
    generalize (w1.setRow w.heap.size #[.int .u32 0, .slice none 0 0]) = v5 at *
    have e0 := blk_cell (i := 0) (v := .int .u32 0) hresZ rfl
    have e1 := blk_cell (i := 1) (v := .slice none 0 0) hresZ rfl
    go_wp2
    exact bodyPost_ret (v := .tuple #[.agg #[.int .u32 0, .slice none 0 0], .int .i64 2]) (by simp [results, go_sem, e0, e1]) rfl (blkT_out (oE := 2) E2.out (by omega) hbZ)
  by_cases h9 : 256 < n
  · have E2 : Hid (7 = blkE s) := Lib.hid (by unfold blkE; rw [if_neg (by omega), if_pos (by omega)])
    have h8' : ¬ (n : Int) < 256 := by omega
    have h9' : (256 : Int) < (n : Int) := by omega
    clear hlb hi hi1
    go_enter Try.func40, Try.ntmps40
    go_wp2_with (first | (with_reducible refine stop_build0 41 ?_))
    refine go_ ?_
    generalize (w.alloc (.cells #[.int .u32 0, .slice none 0 0] 41)) = w1 at *
    go_wp2_with (first | (with_reducible refine stop_loadT 41 ?_) | (with_reducible refine stop_storeT 41 ?_))
    refine go_ (wpList_store_row rfl _ _ _ rfl w.heap.size #[.int .u32 0, .slice none 0 0] rfl rfl _ _ hres (by kernel_rfl) rfl (by kernel_rfl) ?_)
    have hresZ := setRow_heap _ _ _ (#[.int .u32 0, .slice none 0 0] : Array Value) _ _ hres
    have hbZ := below_setRow hb1 (Nat.le_refl _) (#[.int .u32 0, .slice none 0 0] : Array Value)
    generalize (w1.setRow w.heap.size #[.int .u32 0, .slice none 0 0]) = v5 at *
    have e0 := blk_cell (i := 0) (v := .int .u32 0) hresZ rfl
    have e1 := blk_cell (i := 1) (v := .slice none 0 0) hresZ rfl
    go_wp2
    exact bodyPost_ret (v := .tuple #[.agg #[.int .u32 0, .slice none 0 0], .int .i64 7]) (by simp [results, go_sem, e0, e1]) rfl (blkT_out (oE := 7) E2.out (by omega) hbZ)
  obtain rfl : n = 256 := by omega
  have hE := fun (h2 : openB s = true) => blkE_of (s := s) hlb h2
  have HE := Lib.hid hE
  have HEs := Lib.hid (blkE_sum (s := s) hlb)
  have HNo : Hid (blkNo s = if blkE s = 0 then NumLaw.num (((openL s).drop 2).take 4) else 0) := Lib.hid rfl
  have HLs : Hid (blkL s = if blkE s = 0 then pgL (openL s) else []) := Lib.hid rfl
  have hpl : openB s = true → (openL s).length = 254 := fun h2 => by
    have hm : moreN 65535 s = 0 := by unfold openB at h2; simpa using h2
    unfold openL
    rw [if_pos hm, List.length_take, hlb]
    rfl
  have Hpl := Lib.hid hpl
  have hop := ropen_any A 254 c B s _ (h.up (hb1.mono hB)) (Nat.le_trans hB hb1.size) (by omega)
  clear hlb hi hi1 hE h8 h9 hpl
  go_enter Try.func40, Try.ntmps40
  go_wp2_with fail
  generalize (w.alloc (.cells #[.int .u32 0, .slice none 0 0] 41)) = w1 at *
  go_fit hop
  rintro e w2 ⟨A2, c2, n2, rfl, own2, hb12⟩
  have hres2 := blk_old hres hb12 (blk_lt hres)
  have hb2 := bnx hb1 hb12
  replace own2 := own_mono own2 hb1.size
  clear hop hres hb1 hb12 h w1
  by_cases hok : openB s = false
  · have E2 : Hid (4 = blkE s) := Lib.hid (HEs.out hok).symm
    rw [hok]
    clear own2
    go_wp2_with (first | (with_reducible refine stop_build0 41 ?_))
    refine go_ ?_
    go_wp2_with (first | (with_reducible refine stop_loadT 41 ?_) | (with_reducible refine stop_storeT 41 ?_))
    refine go_ (wpList_store_row rfl _ _ _ rfl w.heap.size #[.int .u32 0, .slice none 0 0] rfl rfl _ _ hres2 (by kernel_rfl) rfl (by kernel_rfl) ?_)
    have hresZ := setRow_heap _ _ _ (#[.int .u32 0, .slice none 0 0] : Array Value) _ _ hres2
    have hbZ := below_setRow hb2 (Nat.le_refl _) (#[.int .u32 0, .slice none 0 0] : Array Value)
    generalize (w2.setRow w.heap.size #[.int .u32 0, .slice none 0 0]) = v5 at *
    have e0 := blk_cell (i := 0) (v := .int .u32 0) hresZ rfl
    have e1 := blk_cell (i := 1) (v := .slice none 0 0) hresZ rfl
    go_wp2
    exact bodyPost_ret (v := .tuple #[.agg #[.int .u32 0, .slice none 0 0], .int .i64 4]) (by simp [results, go_sem, e0, e1]) rfl (blkT_out (oE := 4) E2.out (by omega) hbZ)
  replace hok : openB s = true := by simpa using hok
  have hpl := Hpl.out hok
  have hE := HE.out hok
  rw [hok]
  generalize openL s = p at *
  have hln := own_len own2
  obtain rfl : n2 = 254 := by omega
  have hr2 := Rd.own own2
  have hle2 := hr2.le
  have hmx2 := hr2.max
  unfold maxLen at hmx2
  obtain ⟨gp, rfl, hgp1, hgp2, hpc⟩ := own_at own2 (by omega)
  obtain ⟨M, hM⟩ : ∃ M, M = w2.heap.size := ⟨_, rfl⟩
  rw [← hM] at hr2 hgp2
  have hMl : w.heap.size < M := by rw [hM]; exact blk_lt hres2
  match p, hpl, hr2, hpc with
  | a :: b :: q, hpl, hr2, hpc =>
  have hql : q.length = 252 := by simpa using hpl
  have kk0 : w2.cell? ⟨gp, 0, none⟩ = some (.int .u8 (a.toNat : Int)) := hpc 0 _ rfl
  have kk1 : w2.cell? ⟨gp, 1, none⟩ = some (.int .u8 (b.toNat : Int)) := hpc 1 _ rfl
  have hcut26 : ∀ w, (Instr.slice 26 (.slice (some ⟨gp, 0, none⟩) 254 c2) (some (.int .i64 2)) (some (.int .i64 6)) none).run Try.prog w = .ok (.slice (cutA (some ⟨gp, 0, none⟩) c2 2 1) 4 (c2 - 2)) w := run_cut_lh (P := Try.prog) Try.underlying26 Hi.out.1 Hi.out.2.2.1 (some ⟨gp, 0, none⟩) 254 c2 2 6 (by omega) (by omega)
  have hnum := number_any (cutA (some ⟨gp, 0, none⟩) c2 2 1) 4 (c2 - 2) M (q.take 4) w2 ((hr2.bdrop (k := 2) (by omega)).btake (k := 4) (by omega)) (by omega)
  have HE := Lib.hid hE
  have hal := a.toNat_lt
  have hbl := b.toNat_lt
  have hnl := num4_lt (q.take 4) (by rw [List.length_take]; omega)
  obtain ⟨no, hno⟩ : ∃ v, v = NumLaw.num (q.take 4) := ⟨_, rfl⟩
  have HNo2 : Hid (blkE s = 0 → blkNo s = no) := Lib.hid (fun h => by rw [HNo.out, if_pos h]; exact hno.symm)
  have HLs2 : Hid (blkE s = 0 → blkL s = pgL (a :: b :: q)) := Lib.hid (fun h => by rw [HLs.out, if_pos h])
  have Hql := Lib.hid hql
  have HM := Lib.hid hM
  rw [← hno] at hnl hnum
  have Hpc := Lib.hid hpc
  have Hr2 := Lib.hid hr2
  clear own2 hr2 hpl hln hE hok HNo HLs HEs Hpl hql hM hno hpc
  by_cases hh : ¬ (a = 76 ∧ b ≠ 0)
  · have E2 : Hid (3 = blkE s) := Lib.hid (by rw [HE.out, pg_head (p := a :: b :: q) hh]; rfl)
    by_cases ha : a = 76
    · subst ha
      obtain rfl : b = 0 := Decidable.not_not.mp (fun hb => hh ⟨rfl, hb⟩)
      rw [show ((76 : UInt8).toNat : Int) = 76 from rfl] at kk0
      rw [show ((0 : UInt8).toNat : Int) = 0 from rfl] at kk1
      clear hh HE
      go_wp2_with (first | (with_reducible refine stop_build0 41 ?_))
      refine go_ ?_
      go_wp2_with (first | (with_reducible refine stop_loadT 41 ?_) | (with_reducible refine stop_storeT 41 ?_))
      refine go_ (wpList_store_row rfl _ _ _ rfl w.heap.size #[.int .u32 0, .slice none 0 0] rfl rfl _ _ hres2 (by kernel_rfl) rfl (by kernel_rfl) ?_)
      have hresZ := setRow_heap _ _ _ (#[.int .u32 0, .slice none 0 0] : Array Value) _ _ hres2
      have hbZ := below_setRow hb2 (Nat.le_refl _) (#[.int .u32 0, .slice none 0 0] : Array Value)
      generalize (w2.setRow w.heap.size #[.int .u32 0, .slice none 0 0]) = v5 at *
      have e0 := blk_cell (i := 0) (v := .int .u32 0) hresZ rfl
      have e1 := blk_cell (i := 1) (v := .slice none 0 0) hresZ rfl
      go_wp2
      exact bodyPost_ret (v := .tuple #[.agg #[.int .u32 0, .slice none 0 0], .int .i64 3]) (by simp [results, go_sem, e0, e1]) rfl (blkT_out (oE := 3) E2.out (by omega) hbZ)
    · have ha' : ¬ (a.toNat : Int) = 76 := fun h => ha (UInt8.toNat_inj.1 (show _ = (76 : UInt8).toNat from by show a.toNat = 76; omega))
      clear hh HE
      go_wp2_with (first | (with_reducible refine stop_build0 41 ?_))
      refine go_ ?_
      go_wp2_with (first | (with_reducible refine stop_loadT 41 ?_) | (with_reducible refine stop_storeT 41 ?_))
      refine go_ (wpList_store_row rfl _ _ _ rfl w.heap.size #[.int .u32 0, .slice none 0 0] rfl rfl _ _ hres2 (by kernel_rfl) rfl (by kernel_rfl) ?_)
      have hresZ := setRow_heap _ _ _ (#[.int .u32 0, .slice none 0 0] : Array Value) _ _ hres2
      have hbZ := below_setRow hb2 (Nat.le_refl _) (#[.int .u32 0, .slice none 0 0] : Array Value)
      generalize (w2.setRow w.heap.size #[.int .u32 0, .slice none 0 0]) = v5 at *
      have e0 := blk_cell (i := 0) (v := .int .u32 0) hresZ rfl
      have e1 := blk_cell (i := 1) (v := .slice none 0 0) hresZ rfl
      go_wp2
      exact bodyPost_ret (v := .tuple #[.agg #[.int .u32 0, .slice none 0 0], .int .i64 3]) (by simp [results, go_sem, e0, e1]) rfl (blkT_out (oE := 3) E2.out (by omega) hbZ)
  obtain ⟨rfl, hbn⟩ := Decidable.not_not.mp hh
  have hbn' : ¬ (b.toNat : Int) = 0 := fun h => hbn (UInt8.toNat_inj.1 (show _ = (0 : UInt8).toNat from by show b.toNat = 0; omega))
  have hbq : ((b.toNat : Int) == 0) = false := by simpa using hbn'
  have Hbn := Lib.hid hbn
  rw [show ((76 : UInt8).toNat : Int) = 76 from rfl] at kk0
  have hpg := fun L R => pg_some (p := 76 :: b :: q) (L := L) (R := R) ⟨rfl, hbn⟩
  have Hpg := Lib.hid hpg
  have Hpn := Lib.hid (pg_none (p := 76 :: b :: q))
  have Hst := Lib.hid (tkP_start (76 :: b :: q))
  rw [show (76 :: b :: q).getD 1 0 = b from rfl] at Hst Hpn Hpg
  have Hpl2 : Hid ((76 :: b :: q).length = 254) := Lib.hid (by simp [Hql.out])
  clear hh hbn hpg
  generalize hp : 76 :: b :: q = p at *
  have hwn : IntKind.u32.wrap (no : Int) = (no : Int) := by rw [IntKind.wrap_u32]; omega
  have Hbd : Hid (p.getD 1 0 = b) := Lib.hid (by rw [← hp]; rfl)
  clear hp
  go_wp2_with fail
  go_fit hnum
  rintro e w3 ⟨rfl, rfl⟩
  have hbx : Below w2.heap.size w2 (w2.alloc (.cells #[.int .u32 (no : Int), .slice none 0 0] 41)) := (Below.refl _ _).alloc (Nat.le_refl _) _
  have hbox := heap_alloc_new w2 (.cells #[.int .u32 (no : Int), .slice none 0 0] 41)
  have hw7s : (w2.alloc (.cells #[.int .u32 (no : Int), .slice none 0 0] 41)).heap.size = M + 1 := by rw [HM.out]; simp
  rw [← HM.out] at hbx hbox
  have Hw7s := Lib.hid hw7s
  have kk1b := (hbx.cell (p := ⟨gp, 1, none⟩) hgp2).trans kk1
  clear hw7s hnum kk0 hcut26
  go_wp2_with (with_reducible refine stop_allocT 25 ?_)
  (try rw [← HM.out])
  generalize (w2.alloc (.cells #[.int .u32 (no : Int), .slice none 0 0] 41)) = w7 at *
  have hbx2 : Below w7.heap.size w7 (w7.alloc (.cells #[.int .u32 0, .int .i32 0, .int .i32 0, .int .i32 0, .int .i32 0, .int .i32 0, .int .i32 0, .int .i32 0, .int .i32 0, .int .i32 0, .int .i32 0, .int .i32 0, .int .i32 0] 25)) := (Below.refl _ _).alloc (Nat.le_refl _) _
  have hrc := heap_alloc_new w7 (.cells #[.int .u32 0, .int .i32 0, .int .i32 0, .int .i32 0, .int .i32 0, .int .i32 0, .int .i32 0, .int .i32 0, .int .i32 0, .int .i32 0, .int .i32 0, .int .i32 0, .int .i32 0] 25)
  have hbox8 := blk_old hbox hbx2 (blk_lt hbox)
  have hM7 : M ≤ w7.heap.size := by have := Hw7s.out; omega
  have hS8 := hbx.trans (hbx2.mono hM7)
  refine go_ ?_
  go_wp2_with (first | (with_reducible refine stop_loadT 25 ?_) | (with_reducible refine stop_storeT 25 ?_))
  generalize (w7.alloc (.cells #[.int .u32 0, .int .i32 0, .int .i32 0, .int .i32 0, .int .i32 0, .int .i32 0, .int .i32 0, .int .i32 0, .int .i32 0, .int .i32 0, .int .i32 0, .int .i32 0, .int .i32 0] 25)) = w8 at *
  rw [Hw7s.out] at hrc
  (try rw [Hw7s.out])
  replace hrc : RcB w8 (M + 1) 0 z12 := hrc
  clear hbx hbx2 hbox hM7 Hw7s kk1b
  refine go_ (wpList_store_row rfl _ _ _ rfl (M + 1) (rcC 0 z12).toArray rfl rfl _ _ hrc (by kernel_rfl) (by kernel_rfl) (by kernel_rfl) ?_)
  obtain ⟨hz0, hAz0⟩ := rc_store 0 z12 rfl w8 (M + 1) hrc
  have hB0 := below_awG (Below.refl M w8) hAz0 (fun k hk => by omega) (by have := blk_lt hrc; omega)
  replace hbox8 := hAz0.keep hbox8 (by omega)
  replace hS8 := hS8.trans hB0
  generalize (w8.setRow (M + 1) (rcC 0 z12).toArray) = w9 at *
  clear hAz0 hB0 hrc kk1
  go_wp2_with fail
  go_loopw [8, 9] (fun r i wr => ∃ (k m at_ : Nat) (pre : List En) (A3 : Option Addr) (c3 T : Nat) (V : List Int), r = .int .i64 at_ ∧ i = .int .i64 k ∧ at_ ≤ 254 ∧ k ≤ b.toNat ∧ k + m = b.toNat ∧ wr.heap[M]? = some (.cells #[.int .u32 (no : Int), .slice A3 k c3] 41) ∧ RcB wr (M + 1) T V ∧ wr.ownsRow (M + 2) 46 14 (.slice A3 k c3) k (pre.map enC).flatten ∧ Below M w2 wr ∧ Hid (TkP p k m pre T V (p.drop at_))) (fun _ i _ => b.toNat - (intOf i).toNat)
  case atStart => exact ⟨0, b.toNat, 6, [], none, 0, 0, z12, rfl, rfl, by omega, by omega, by omega, hbox8, hz0, World.ownsRow_nil _ _ _ _, hS8, Hst⟩
  case round =>
    clear hbox8 hz0 hS8 w9
    obtain ⟨k, m, at_, pre, A3, c3, T, V, rfl, rfl, hat, hkN, hkm, hbox, hrc, hown, hS, HT⟩ := hrel
    have hresr := (hS.block _ hMl).trans hres2
    have hb := hb2.trans (hS.mono (Nat.le_of_lt hMl))
    have hMs : M ≤ wr.heap.size := by have := blk_lt hbox; omega
    have k1 : wr.cell? ⟨gp, 1, none⟩ = some (.int .u8 (b.toNat : Int)) := (hS.cell (p := ⟨gp, 1, none⟩) hgp2).trans (by rw [Hpc.out 1 (.int .u8 (b.toNat : Int)) (bv_at (by have h1 := Hpl2.out; have h2 := Hbd.out; rw [List.getD_eq_getElem?_getD, List.getElem?_eq_getElem (by omega)] at h2; rw [List.getElem?_eq_getElem (by omega)]; simpa using h2))])
    by_cases hm : m = 0
    · subst hm
      obtain rfl : k = b.toNat := by omega
      have hend := tkP_end HT.out
      rw [Hbd.out] at hend
      obtain ⟨p1, p2⟩ := Hpg.out _ _ hend
      have P1 := Lib.hid p1
      have P2 := Lib.hid p2
      clear hend p1 p2
      go_wp2_with fail
      go_loop [14] (fun r => ∃ i : Nat, r = .int .i64 i ∧ at_ ≤ i ∧ i ≤ 254 ∧ Hid (nullB (p.drop at_) = nullB (p.drop i))) (fun r => 254 - (intOf r).toNat)
      case atStart => exact ⟨at_, rfl, by omega, hat, Lib.hid rfl⟩
      case round =>
        obtain ⟨i, rfl, hai, hi254, hn⟩ := hrel
        by_cases hlt : i < 254
        · have hlt' : (i : Int) < 254 := by omega
          obtain ⟨x, hx⟩ : ∃ x, p[i]? = some x := ⟨_, List.getElem?_eq_getElem (by have := Hpl2.out; omega)⟩
          have kx : wr.cell? ⟨gp, i, none⟩ = some (.int .u8 (x.toNat : Int)) := (hS.cell (p := ⟨gp, i, none⟩) hgp2).trans (Hpc.out i _ (bv_at hx))
          have hdr : p.drop i = x :: p.drop (i + 1) := by
            obtain ⟨h1, h2⟩ := List.getElem?_eq_some_iff.1 hx
            rw [List.drop_eq_getElem_cons h1, h2]
          have Hdr := Lib.hid hdr
          clear hx hdr
          by_cases hx0 : x = 0
          · subst hx0
            rw [show ((0 : UInt8).toNat : Int) = 0 from rfl] at kx
            have Hn2 : Hid (nullB (p.drop at_) = nullB (p.drop (i + 1))) := Lib.hid (by rw [hn.out, Hdr.out]; unfold nullB; rw [List.all_cons]; rfl)
            go_wp2
            go_round
            case rel => exact ⟨i + 1, by go_num, by omega, by omega, Hn2⟩
            case measure => simp [intOf]; omega
          · have hx0' : ¬ (x.toNat : Int) = 0 := fun h => hx0 (UInt8.toNat_inj.1 (show _ = (0 : UInt8).toNat from by show x.toNat = 0; omega))
            have E2 : Hid (3 = blkE s) := Lib.hid (by
              rw [HE.out, P1.out, hn.out, Hdr.out]
              unfold nullB
              rw [List.all_cons, show (x == 0) = false by simpa using hx0]
              rfl)
            go_wp2_with (first | (with_reducible refine stop_build0 41 ?_))
            refine go_ ?_
            go_wp2_with (first | (with_reducible refine stop_loadT 41 ?_) | (with_reducible refine stop_storeT 41 ?_))
            refine go_ (wpList_store_row rfl _ _ _ rfl w.heap.size #[.int .u32 0, .slice none 0 0] rfl rfl _ _ hresr (by kernel_rfl) rfl (by kernel_rfl) ?_)
            have hresZ := setRow_heap _ _ _ (#[.int .u32 0, .slice none 0 0] : Array Value) _ _ hresr
            have hbZ := below_setRow hb (Nat.le_refl _) (#[.int .u32 0, .slice none 0 0] : Array Value)
            generalize (wr.setRow w.heap.size #[.int .u32 0, .slice none 0 0]) = v5 at *
            have e0 := blk_cell (i := 0) (v := .int .u32 0) hresZ rfl
            have e1 := blk_cell (i := 1) (v := .slice none 0 0) hresZ rfl
            go_wp2
            exact bodyPost_ret (v := .tuple #[.agg #[.int .u32 0, .slice none 0 0], .int .i64 3]) (by simp [results, go_sem, e0, e1]) rfl (blkT_out (oE := 3) E2.out (by omega) hbZ)
        · obtain rfl : i = 254 := by omega
          have hz : nullB (p.drop at_) = true := by rw [hn.out, List.drop_eq_nil_of_le (by have := Hpl2.out; omega)]; rfl
          have E0 : blkE s = 0 := by rw [HE.out, P1.out, hz]; rfl
          have E1 := HNo2.out E0
          have E2 := (HLs2.out E0).trans (P2.out hz)
          have HE0 := Lib.hid E0
          have HE1 := Lib.hid E1
          have HE2 := Lib.hid E2
          clear E0 E1 E2 hz
          rw [show ((254 : Nat) : Int) = 254 from rfl]
          go_wp2_with (first | (with_reducible refine stop_loadT 41 ?_) | (with_reducible refine stop_storeT 41 ?_))
          refine go_ (wpList_load_row rfl _ _ rfl M rfl _ _ _ _ hbox Try.underlying41 rfl (by kernel_rfl) ?_)
          go_wp2_with (first | (with_reducible refine stop_loadT 41 ?_) | (with_reducible refine stop_storeT 41 ?_))
          refine go_ (wpList_store_row rfl _ _ _ rfl w.heap.size #[.int .u32 (no : Int), .slice A3 b.toNat c3] rfl rfl _ _ hresr (by kernel_rfl) rfl (by kernel_rfl) ?_)
          have hres6 := setRow_heap _ _ _ (#[.int .u32 (no : Int), .slice A3 b.toNat c3] : Array Value) _ _ hresr
          have hb6 := below_setRow hb (Nat.le_refl _) (#[.int .u32 (no : Int), .slice A3 b.toNat c3] : Array Value)
          have hown6 := own_aw hown (aw_setRow35 w.heap.size (#[.int .u32 (no : Int), .slice A3 b.toNat c3] : Array Value)) (fun k hk hu => by have := (own_blk hown hk).1; omega)
          generalize (wr.setRow w.heap.size #[.int .u32 (no : Int), .slice A3 b.toNat c3]) = v5 at *
          have e0 := blk_cell (i := 0) (v := .int .u32 (no : Int)) hres6 rfl
          have e1 := blk_cell (i := 1) (v := .slice A3 b.toNat c3) hres6 rfl
          have hrr := RdR.own (ls := pre.map enC) hown6 (by rw [List.length_map]; exact HT.out.2.1) (fun r hr => by obtain ⟨x, hx, rfl⟩ := List.mem_map.1 hr; exact enC_len x (HT.out.2.2.1 x hx).2.1)
          go_wp2
          refine bodyPost_ret (v := .tuple #[.agg #[.int .u32 (no : Int), .slice A3 b.toNat c3], .int .i64 0]) (by simp [results, go_sem, e0, e1]) rfl ⟨A3, b.toNat, c3, by rw [HE1.out, HE0.out]; rfl, by rw [HE2.out]; exact hrr, hb6, ofT_own hown6⟩
    · obtain ⟨m, rfl⟩ : ∃ j, m = j + 1 := ⟨m - 1, by omega⟩
      have hklt : (k : Int) < (b.toNat : Int) := by omega
      have HTV := Lib.hid HT.out.2.2.2.2.1
      have Hbad : Hid (entN V ((k : Int) == 0) (p.drop at_) = 0 → 3 = blkE s) := Lib.hid (fun h0 => by
        have := tkP_bad HT.out h0
        rw [Hbd.out] at this
        rw [HE.out, Hpn.out this]; rfl)
      have Hstep := Lib.hid (fun h0 => tkP_step HT.out h0)
      by_cases hlt : at_ < 254
      case neg =>
        obtain rfl : at_ = 254 := by omega
        have E2 : Hid (3 = blkE s) := Lib.hid (Hbad.out (by rw [List.drop_eq_nil_of_le (by have := Hpl2.out; omega)]; rfl))
        rw [show ((254 : Nat) : Int) = 254 from rfl]
        go_wp2_with (first | (with_reducible refine stop_build0 41 ?_))
        refine go_ ?_
        go_wp2_with (first | (with_reducible refine stop_loadT 41 ?_) | (with_reducible refine stop_storeT 41 ?_))
        refine go_ (wpList_store_row rfl _ _ _ rfl w.heap.size #[.int .u32 0, .slice none 0 0] rfl rfl _ _ hresr (by kernel_rfl) rfl (by kernel_rfl) ?_)
        have hresZ := setRow_heap _ _ _ (#[.int .u32 0, .slice none 0 0] : Array Value) _ _ hresr
        have hbZ := below_setRow hb (Nat.le_refl _) (#[.int .u32 0, .slice none 0 0] : Array Value)
        generalize (wr.setRow w.heap.size #[.int .u32 0, .slice none 0 0]) = v5 at *
        have e0 := blk_cell (i := 0) (v := .int .u32 0) hresZ rfl
        have e1 := blk_cell (i := 1) (v := .slice none 0 0) hresZ rfl
        go_wp2
        exact bodyPost_ret (v := .tuple #[.agg #[.int .u32 0, .slice none 0 0], .int .i64 3]) (by simp [results, go_sem, e0, e1]) rfl (blkT_out (oE := 3) E2.out (by omega) hbZ)
      have hlt' : (at_ : Int) < 254 := by omega
      have hge' : ¬ (254 : Int) ≤ (at_ : Int) := by omega
      obtain ⟨x, hx⟩ : ∃ x, p[at_]? = some x := ⟨_, List.getElem?_eq_getElem (by have := Hpl2.out; omega)⟩
      have kx : wr.cell? ⟨gp, at_, none⟩ = some (.int .u8 (x.toNat : Int)) := (hS.cell (p := ⟨gp, at_, none⟩) hgp2).trans (Hpc.out at_ _ (bv_at hx))
      have hdr : p.drop at_ = x :: p.drop (at_ + 1) := by
        obtain ⟨h1, h2⟩ := List.getElem?_eq_some_iff.1 hx
        rw [List.drop_eq_getElem_cons h1, h2]
      rw [hdr] at Hbad Hstep
      have hrR := (Hr2.out.up hS).bdrop (k := at_ + 1) (by omega)
      have hcut : ∀ w, (Instr.slice 26 (.slice (some ⟨gp, 0, none⟩) 254 c2) (some (.int .i64 ((at_ : Int) + 1))) none none).run Try.prog w = .ok (.slice (cutA (some ⟨gp, 0, none⟩) c2 (at_ + 1) 1) (254 - (at_ + 1)) (c2 - (at_ + 1))) w := run_cut_l (P := Try.prog) Try.underlying26 Hi.out.1 Hi.out.2.2.1 (some ⟨gp, 0, none⟩) 254 c2 (at_ + 1) (by omega)
      have Hdd : Hid (∀ j, p.drop (at_ + 1 + j) = (p.drop (at_ + 1)).drop j) := Lib.hid (fun j => by rw [List.drop_drop])
      have HRl : Hid ((p.drop (at_ + 1)).length = 254 - (at_ + 1)) := Lib.hid (by rw [List.length_drop, Hpl2.out])
      obtain ⟨Ar, hAr⟩ : ∃ v, v = cutA (some (⟨gp, 0, none⟩ : Addr)) c2 (at_ + 1) 1 := ⟨_, rfl⟩
      obtain ⟨nr, hnr⟩ : ∃ v, v = 254 - (at_ + 1) := ⟨_, rfl⟩
      obtain ⟨cr, hcr⟩ : ∃ v, v = c2 - (at_ + 1) := ⟨_, rfl⟩
      rw [← hAr, ← hnr, ← hcr] at hcut hrR
      rw [← hnr] at HRl
      have Hnr := Lib.hid hnr
      have hnr254 : nr ≤ 254 := by omega
      have hatn : at_ + 1 + nr = 254 := by omega
      have Hatn := Lib.hid hatn
      clear hx hdr hAr hnr hcr hatn
      generalize hR : p.drop (at_ + 1) = R at *
      clear hR
      by_cases h75 : x = 75
      · subst h75
        rw [show ((75 : UInt8).toNat : Int) = 75 from rfl] at kx
        have HK := Lib.hid (fun w1 (h1 : Rd w1 M 1 Ar nr cr (bv R)) (hB1 : M ≤ w1.heap.size) => qTakeKey_any Ar nr cr M R w1 h1 hB1 (by omega))
        have HVl := Lib.hid (keV_len R)
        have HN := Lib.hid (entN_75 V ((k : Int) == 0) R)
        have HX := Lib.hid (entX_75 T V ((k : Int) == 0) R)
        have HnN : Hid (keE R = 0 → keN R = 52 ∧ 52 ≤ R.length) := Lib.hid (fun h => by
          unfold keE at h; unfold keN
          split at h
          · cases h
          · rename_i h0; rw [if_neg h0]; exact ⟨rfl, by omega⟩)
        generalize keE R = ke at *
        generalize keT R = kt at *
        generalize keV R = kv at *
        generalize keN R = kn at *
        go_wp2_with (with_reducible refine stop_allocT 25 ?_)
        have hbx : Below wr.heap.size wr (wr.alloc (.cells #[.int .u32 0, .int .i32 0, .int .i32 0, .int .i32 0, .int .i32 0, .int .i32 0, .int .i32 0, .int .i32 0, .int .i32 0, .int .i32 0, .int .i32 0, .int .i32 0, .int .i32 0] 25)) := (Below.refl _ _).alloc (Nat.le_refl _) _
        have r6 := heap_alloc_new wr (.cells #[.int .u32 0, .int .i32 0, .int .i32 0, .int .i32 0, .int .i32 0, .int .i32 0, .int .i32 0, .int .i32 0, .int .i32 0, .int .i32 0, .int .i32 0, .int .i32 0, .int .i32 0] 25)
        have hg69 : M + 1 < wr.heap.size := blk_lt hrc
        have hne : ∀ j, (Value.slice A3 k c3).ownBlock = some j → j ≠ wr.heap.size := fun j hj => by have := (own_blk hown hj).2; omega
        replace hrR := hrR.up (hbx.mono hMs)
        replace hbox := blk_old hbox hbx (blk_lt hbox)
        replace hrc : RcB _ (M + 1) T V := blk_old hrc hbx (blk_lt hrc)
        replace hown := own_up hown hbx (Nat.le_refl _)
        replace hS := hS.trans (hbx.mono hMs)
        clear hbx k1 kx hresr hb
        refine go_ ?_
        go_wp2_with (first | (with_reducible refine stop_loadT 25 ?_) | (with_reducible refine stop_storeT 25 ?_))
        generalize (wr.alloc (.cells #[.int .u32 0, .int .i32 0, .int .i32 0, .int .i32 0, .int .i32 0, .int .i32 0, .int .i32 0, .int .i32 0, .int .i32 0, .int .i32 0, .int .i32 0, .int .i32 0, .int .i32 0] 25)) = wp at *
        generalize wr.heap.size = g6 at *
        replace r6 : RcB wp g6 0 z12 := r6
        refine go_ (wpList_store_row rfl _ _ _ rfl g6 (rcC 0 z12).toArray rfl rfl _ _ r6 (by kernel_rfl) (by kernel_rfl) (by kernel_rfl) ?_)
        obtain ⟨hz, hAz⟩ := rc_store 0 z12 rfl wp g6 r6
        have hBz := below_awG (Below.refl M wp) hAz (fun k hk => by omega) (by have := blk_lt r6; omega)
        replace r6 := hz
        replace hown := own_aw hown hAz (fun j hj hu => hne j hj hu)
        replace hrc : RcB _ (M + 1) T V := hAz.keep hrc (by omega)
        replace hbox := hAz.keep hbox (by omega)
        replace hrR := hrR.up hBz
        replace hS := hS.trans hBz
        generalize (wp.setRow g6 (rcC 0 z12).toArray) = wq at *
        replace hMs : M ≤ wq.heap.size := by have := blk_lt hbox; omega
        clear hAz hBz hz wp
        go_wp2_with fail
        go_fit (HK.out wq hrR hMs)
        rintro e wt ⟨rfl, hbx⟩
        replace hbox := blk_old hbox hbx (blk_lt hbox)
        replace hrc : RcB wt (M + 1) T V := blk_old hrc hbx (blk_lt hrc)
        replace r6 : RcB wt g6 0 z12 := blk_old r6 hbx (blk_lt r6)
        replace hown := own_up hown hbx (Nat.le_refl _)
        replace hS := hS.trans (hbx.mono hMs)
        clear hbx hMs hrR HK
        go_wp2_with (first | (with_reducible refine stop_loadT 25 ?_) | (with_reducible refine stop_storeT 25 ?_) | (with_reducible refine stop_loadG 25 ?_))
        refine go_ (wpList_store_row rfl _ _ _ rfl g6 (rcC kt kv).toArray rfl rfl _ _ r6 (by rw [List.size_toArray, rcC_size kt kv HVl.out]; kernel_rfl) (by rw [List.size_toArray, List.size_toArray, rcC_size kt kv HVl.out]; rfl) (all_oneCell_toArray (rcC_one kt kv)) ?_)
        obtain ⟨hz, hAz⟩ := rc_store kt kv HVl.out wt g6 r6
        have hBz := below_awG (Below.refl M wt) hAz (fun k hk => by omega) (by have := blk_lt r6; omega)
        replace r6 := hz
        replace hown := own_aw hown hAz (fun j hj hu => hne j hj hu)
        replace hrc : RcB _ (M + 1) T V := hAz.keep hrc (by omega)
        replace hbox := hAz.keep hbox (by omega)
        replace hS := hS.trans hBz
        generalize (wt.setRow g6 (rcC kt kv).toArray) = wu at *
        clear hAz hBz hz
        by_cases hke : ¬ ke = 0
        · have hke' : ¬ (ke : Int) = 0 := by omega
          have E2 : Hid (3 = blkE s) := Lib.hid (Hbad.out (by rw [HN.out, if_neg hke]))
          have hresr := (hS.block _ hMl).trans hres2
          have hb := hb2.trans (hS.mono (Nat.le_of_lt hMl))
          go_wp2_with (first | (with_reducible refine stop_build0 41 ?_))
          refine go_ ?_
          go_wp2_with (first | (with_reducible refine stop_loadT 41 ?_) | (with_reducible refine stop_storeT 41 ?_))
          refine go_ (wpList_store_row rfl _ _ _ rfl w.heap.size #[.int .u32 0, .slice none 0 0] rfl rfl _ _ hresr (by kernel_rfl) rfl (by kernel_rfl) ?_)
          have hresZ := setRow_heap _ _ _ (#[.int .u32 0, .slice none 0 0] : Array Value) _ _ hresr
          have hbZ := below_setRow hb (Nat.le_refl _) (#[.int .u32 0, .slice none 0 0] : Array Value)
          generalize (wu.setRow w.heap.size #[.int .u32 0, .slice none 0 0]) = v5 at *
          have e0 := blk_cell (i := 0) (v := .int .u32 0) hresZ rfl
          have e1 := blk_cell (i := 1) (v := .slice none 0 0) hresZ rfl
          go_wp2
          exact bodyPost_ret (v := .tuple #[.agg #[.int .u32 0, .slice none 0 0], .int .i64 3]) (by simp [results, go_sem, e0, e1]) rfl (blkT_out (oE := 3) E2.out (by omega) hbZ)
        replace hke := Decidable.not_not.mp hke
        subst hke
        obtain ⟨rfl, hkn⟩ := HnN.out rfl
        have hkn' : 52 ≤ nr := by rw [HRl.out] at hkn; exact hkn
        have hst := Hstep.out (by rw [HN.out, if_pos rfl]; omega)
        rw [HX.out rfl, HN.out, if_pos rfl, show (75 :: R).drop 53 = R.drop 52 from rfl, ← Hdd.out 52] at hst
        have HSt := Lib.hid hst
        clear hst hkn
        rw [show ((0 : Nat) : Int) = 0 from rfl, show ((52 : Nat) : Int) = 52 from rfl]
        have HEV : Hid ((⟨true, kt, kv⟩ : En).V.length = 12) := Lib.hid HVl.out
        have k1 : wu.cell? ⟨M, 1, none⟩ = some (.slice A3 k c3) := blk_cell hbox rfl
        go_wp2_with (first | (with_reducible refine stop_loadT 25 ?_) | (with_reducible refine stop_storeT 25 ?_) | (with_reducible refine stop_loadG 25 ?_))
        refine go_ (wpList_load_mid rfl _ _ rfl g6 0 rfl _ _ r6.all Try.underlying25 rfl (by rw [rcC_size kt kv HVl.out]; kernel_rfl) ?_)
        go_wp2_with (with_reducible refine stop_build2 ?_)
        refine go_ (wpList_buildEn (k := true) HVl.out rfl rfl ?_)
        go_wp2_with (with_reducible refine stop_bs ?_)
        refine go_ (wpList_bs1 Try.underlying39 Hi1.out (by kernel_rfl) (by omega) (by omega) (enC_len _ HEV.out) rfl ?_)
        have hbn : Below wu.heap.size wu (wu.alloc (.cells (enC ⟨true, kt, kv⟩).toArray 46)) := (Below.refl _ _).alloc (Nat.le_refl _) _
        have hrd : Rd (wu.alloc (.cells (enC ⟨true, kt, kv⟩).toArray 46)) (wu.heap.size + 1) 14 (some ⟨wu.heap.size, 0, none⟩) 1 1 (enC ⟨true, kt, kv⟩) := by
          have := (RdR.lit (size := 14) (e := 46) wu [enC ⟨true, kt, kv⟩] (enC ⟨true, kt, kv⟩).toArray (by simp) (by intro r hr; rw [List.mem_singleton.1 hr]; exact enC_len _ HEV.out) (by simp [maxLen]) 1 rfl).rd (by omega)
          simpa using this
        have hMs : M ≤ wu.heap.size := by have := blk_lt hbox; omega
        replace hbox := blk_old hbox hbn (blk_lt hbox)
        replace hrc : RcB _ (M + 1) T V := blk_old hrc hbn (blk_lt hrc)
        replace r6 : RcB _ g6 kt kv := blk_old r6 hbn (blk_lt r6)
        replace hown := own_up hown hbn (Nat.le_refl _)
        replace hS := hS.trans (hbn.mono hMs)
        clear hbn k1
        generalize (wu.alloc (.cells (enC ⟨true, kt, kv⟩).toArray 46)) = wc at *
        generalize wu.heap.size = gb at *
        clear hMs
        go_wp2_with (at_builtin; refine stop_ ?_)
        refine go_ (wpList_appG (base := M + 2) (n := k) Try.underlying39 Hi1.out (by kernel_rfl) (by omega) hown rfl hrd rfl (enC_one _) (k := k + 1) (ys := ((pre ++ [(⟨true, kt, kv⟩ : En)]).map enC).flatten) rfl (by simp) (by unfold maxLen; omega) (by omega) (by have := blk_lt hrc; omega) ?_)
        intro A7 c7 wd hown7 hgr hob
        have hne6 : ∀ j, (Value.slice A3 k c3).ownBlock = some j → M + 1 < j := fun j hj => by have := (own_blk hown hj).1; omega
        have hne7 : ∀ j, (Value.slice A7 (k + 1) c7).ownBlock = some j → M + 1 < j := fun j hj => by have := (own_blk hown7 hj).1; omega
        replace hbox := (hgr.block _ (blk_lt hbox) (fun e => by have := hne6 _ e.symm; omega)).trans hbox
        replace hrc : RcB wd (M + 1) T V := (hgr.block _ (blk_lt hrc) (fun e => by have := hne6 _ e.symm; omega)).trans hrc
        replace r6 : RcB wd g6 kt kv := (hgr.block _ (blk_lt r6) (fun e => hne _ e.symm rfl)).trans r6
        have hBd : Below M wc wd := Below.grown (Below.refl M wc) hgr (by have := hS.size; have := HM.out; omega) (fun j hj => by have := hne6 j hj; omega)
        replace hS := hS.trans hBd
        clear hgr hob hown hBd hrd hne hne6
        have s1 : wd.cell? ⟨M, 1, none⟩ = some (.slice A3 k c3) := blk_cell hbox rfl
        have s2 : wd.frozen? ⟨M, 1, none⟩ = false := blk_free (i := 1) hbox
        have hbox8 := blk_set (i := 1) hbox (.slice A7 (k + 1) c7)
        have haw8 : Aw (fun j => j = M) wd (wd.setCell ⟨M, 1, none⟩ (.slice A7 (k + 1) c7)) := (Aw.refl _ _).set (p := ⟨M, 1, none⟩) _ rfl
        have hrc8 : RcB _ (M + 1) T V := haw8.keep hrc (by omega)
        have hown8 := own_aw hown7 haw8 (fun j hj hu => by have := hne7 j hj; omega)
        have hB8 := below_awG (Below.refl M wd) haw8 (fun j hj => by omega) (by have := blk_lt hrc; omega)
        have hS8 := hS.trans hB8
        have r68 : RcB _ g6 kt kv := haw8.keep r6 (by omega)
        clear hB8 haw8 hS hown7 hrc r6
        go_wp2_with (first | (with_reducible refine stop_loadT 25 ?_) | (with_reducible refine stop_storeT 25 ?_) | (with_reducible refine stop_loadG 25 ?_))
        clear s1 s2 hbox
        generalize (wd.setCell ⟨M, 1, none⟩ (.slice A7 (k + 1) c7)) = wf at *
        clear wd
        refine go_ (wpList_load_mid rfl _ _ rfl g6 0 rfl _ _ r68.all Try.underlying25 rfl (by rw [rcC_size kt kv HVl.out]; kernel_rfl) ?_)
        go_wp2_with (first | (with_reducible refine stop_loadT 25 ?_) | (with_reducible refine stop_storeT 25 ?_) | (with_reducible refine stop_loadG 25 ?_))
        refine go_ (wpList_store_row rfl _ _ _ rfl (M + 1) (rcC kt kv).toArray rfl rfl _ _ hrc8 (by rw [List.size_toArray, rcC_size kt kv HVl.out]; kernel_rfl) (by rw [List.size_toArray, List.size_toArray, rcC_size kt kv HVl.out, rcC_size T V HTV.out]) (all_oneCell_toArray (rcC_one kt kv)) ?_)
        obtain ⟨hz, hAz⟩ := rc_store kt kv HVl.out wf (M + 1) hrc8
        have hBz := below_awG (Below.refl M wf) hAz (fun k hk => by omega) (by have := blk_lt hrc8; omega)
        have hown9 := own_aw hown8 hAz (fun j hj hu => by have := hne7 j hj; omega)
        have hbox9 := hAz.keep hbox8 (by omega)
        have hS9 := hS8.trans hBz
        generalize (wf.setRow (M + 1) (rcC kt kv).toArray) = wg at *
        have hat2 : at_ + 1 + 52 ≤ 254 := by have := Hatn.out; omega
        clear hAz hBz hrc8 hown8 hbox8 r68 hS8
        go_wp2
        go_roundw
        case rel => exact ⟨k + 1, m, at_ + 1 + 52, pre ++ [⟨true, kt, kv⟩], A7, c7, kt, kv, by go_num, by go_num, hat2, by omega, by omega, hbox9, hz, hown9, hS9, HSt⟩
        case measure => simp [intOf]; omega
      by_cases h68 : x = 68 ∧ ((k : Int) == 0) = false
      · obtain ⟨rfl, hk0⟩ := h68
        have hk0' : ¬ (k : Int) = 0 := by simpa using hk0
        rw [show ((68 : UInt8).toNat : Int) = 68 from rfl] at kx
        rw [hk0] at Hbad Hstep
        have HK := Lib.hid (fun w1 (h1 : Rd w1 M 1 Ar nr cr (bv R)) (hB1 : M ≤ w1.heap.size) => qTakeDelta_any T V Ar nr cr M R w1 HT.out.2.2.2.1 HT.out.2.2.2.2.1 HT.out.2.2.2.2.2.1 h1 hB1 (by omega))
        have HVl := Lib.hid (recTV_len35 (b := R) HT.out.2.2.2.1 HT.out.2.2.2.2.1 HT.out.2.2.2.2.2.1)
        have HN := Lib.hid (entN_68 V R)
        have HX := Lib.hid (entX_68 T V R)
        have HnN : Hid (recTE V R = 0 → recTn V R ≤ R.length) := Lib.hid (fun h => (rec_back (t := T) HT.out.2.2.2.1 HT.out.2.2.2.2.1 HT.out.2.2.2.2.2.1 h).2.1)
        generalize recTE V R = ke at *
        generalize recTt T V R = kt at *
        generalize recTV V R = kv at *
        generalize recTn V R = kn at *
        have hwa : IntKind.i64.wrap ((at_ : Int) + 1) = (at_ : Int) + 1 := IntWalk.i64_in _ (by omega)
        clear h75
        go_wp2_with (with_reducible refine stop_allocT 25 ?_)
        have hbx : Below wr.heap.size wr (wr.alloc (.cells #[.int .u32 0, .int .i32 0, .int .i32 0, .int .i32 0, .int .i32 0, .int .i32 0, .int .i32 0, .int .i32 0, .int .i32 0, .int .i32 0, .int .i32 0, .int .i32 0, .int .i32 0] 25)) := (Below.refl _ _).alloc (Nat.le_refl _) _
        have r6 := heap_alloc_new wr (.cells #[.int .u32 0, .int .i32 0, .int .i32 0, .int .i32 0, .int .i32 0, .int .i32 0, .int .i32 0, .int .i32 0, .int .i32 0, .int .i32 0, .int .i32 0, .int .i32 0, .int .i32 0] 25)
        have hg69 : M + 1 < wr.heap.size := blk_lt hrc
        have hne : ∀ j, (Value.slice A3 k c3).ownBlock = some j → j ≠ wr.heap.size := fun j hj => by have := (own_blk hown hj).2; omega
        replace hrR := hrR.up (hbx.mono hMs)
        replace hbox := blk_old hbox hbx (blk_lt hbox)
        replace hrc : RcB _ (M + 1) T V := blk_old hrc hbx (blk_lt hrc)
        replace hown := own_up hown hbx (Nat.le_refl _)
        replace hS := hS.trans (hbx.mono hMs)
        clear hbx k1 kx hresr hb
        refine go_ ?_
        go_wp2_with (first | (with_reducible refine stop_loadT 25 ?_) | (with_reducible refine stop_storeT 25 ?_))
        generalize (wr.alloc (.cells #[.int .u32 0, .int .i32 0, .int .i32 0, .int .i32 0, .int .i32 0, .int .i32 0, .int .i32 0, .int .i32 0, .int .i32 0, .int .i32 0, .int .i32 0, .int .i32 0, .int .i32 0] 25)) = wp at *
        generalize wr.heap.size = g6 at *
        replace r6 : RcB wp g6 0 z12 := r6
        refine go_ (wpList_store_row rfl _ _ _ rfl g6 (rcC 0 z12).toArray rfl rfl _ _ r6 (by kernel_rfl) (by kernel_rfl) (by kernel_rfl) ?_)
        obtain ⟨hz, hAz⟩ := rc_store 0 z12 rfl wp g6 r6
        have hBz := below_awG (Below.refl M wp) hAz (fun k hk => by omega) (by have := blk_lt r6; omega)
        replace r6 := hz
        replace hown := own_aw hown hAz (fun j hj hu => hne j hj hu)
        replace hrc : RcB _ (M + 1) T V := hAz.keep hrc (by omega)
        replace hbox := hAz.keep hbox (by omega)
        replace hrR := hrR.up hBz
        replace hS := hS.trans hBz
        generalize (wp.setRow g6 (rcC 0 z12).toArray) = wq at *
        replace hMs : M ≤ wq.heap.size := by have := blk_lt hbox; omega
        clear hAz hBz hz wp
        go_wp2_with fail
        refine Ord.region_ (fun w' => RcB w' (M + 1) T V) false [] (by kernel_rfl) (by kernel_rfl) hrc ?_
        replace hrc : RcB wq.drew (M + 1) T V := hrc
        replace hbox : wq.drew.heap[M]? = _ := hbox
        replace r6 : RcB wq.drew g6 0 z12 := r6
        replace hown := own_up hown (w' := wq.drew) (Below.refl _ _).drew (Nat.le_refl _)
        replace hrR := hrR.up (w' := wq.drew) (Below.refl _ _).drew
        replace hS := hS.drew
        replace hMs : M ≤ wq.drew.heap.size := hMs
        generalize wq.drew = wq2 at *
        refine Ord.e_rowS Try.underlying25 rfl (by rw [rcC_size T V HTV.out]; kernel_rfl) rfl (by unfold rcC; simp) (fun w' hS => (show RcB w' (M + 1) T V from hS).all) hrc (by kernel_rfl) ?_
        (try simp only [Act.put, List.setIfInBounds_toArray, List.set_cons_zero, List.set_cons_succ])
        ((with_reducible refine Ord.e_p (v := ?_) ?_ ?_ ?_ ?_); rotate_left; (· exact rfl); (· kernel_rfl); (· intro w2; go_simp; try with_reducible rfl))
        (try simp only [Act.put, List.setIfInBounds_toArray, List.set_cons_zero, List.set_cons_succ])
        ((with_reducible refine Ord.e_p (v := ?_) ?_ ?_ ?_ ?_); rotate_left; (· exact rfl); (· kernel_rfl); (· intro w2; go_simp; try with_reducible rfl))
        (try simp only [Act.put, List.setIfInBounds_toArray, List.set_cons_zero, List.set_cons_succ])
        ((with_reducible refine Ord.e_p (v := ?_) ?_ ?_ ?_ ?_); rotate_left; (· exact rfl); (· kernel_rfl); (· intro w2; go_simp; try with_reducible rfl))
        (try simp only [Act.put, List.setIfInBounds_toArray, List.set_cons_zero, List.set_cons_succ])
        ((with_reducible refine Ord.e_p (v := ?_) ?_ ?_ ?_ ?_); rotate_left; (· exact rfl); (· kernel_rfl); (· intro w2; go_simp; try with_reducible rfl))
        (try simp only [Act.put, List.setIfInBounds_toArray, List.set_cons_zero, List.set_cons_succ])
        refine Ord.e_x rfl (by kernel_rfl) ?_
        go_wp2_with fail
        go_fit (HK.out wq2 hrR hMs)
        rintro e wt ⟨rfl, hbx⟩
        replace hbox := blk_old hbox hbx (blk_lt hbox)
        replace hrc : RcB wt (M + 1) T V := blk_old hrc hbx (blk_lt hrc)
        replace r6 : RcB wt g6 0 z12 := blk_old r6 hbx (blk_lt r6)
        replace hown := own_up hown hbx (Nat.le_refl _)
        replace hS := hS.trans (hbx.mono hMs)
        clear hbx hMs hrR HK
        go_wp2_with fail
        refine Ord.Seg.go hrc (fun h => by cases h) ?_
        (try simp only [Act.put, List.setIfInBounds_toArray, List.set_cons_zero, List.set_cons_succ])
        ((with_reducible refine Ord.e_p (v := ?_) ?_ ?_ ?_ ?_); rotate_left; (· exact rfl); (· kernel_rfl); (· intro w2; go_simp; try with_reducible rfl))
        (try simp only [Act.put, List.setIfInBounds_toArray, List.set_cons_zero, List.set_cons_succ])
        ((with_reducible refine Ord.e_p (v := ?_) ?_ ?_ ?_ ?_); rotate_left; (· exact rfl); (· kernel_rfl); (· intro w2; go_simp; try with_reducible rfl))
        (try simp only [Act.put, List.setIfInBounds_toArray, List.set_cons_zero, List.set_cons_succ])
        ((with_reducible refine Ord.e_p (v := ?_) ?_ ?_ ?_ ?_); rotate_left; (· exact rfl); (· kernel_rfl); (· intro w2; go_simp; try with_reducible rfl))
        (try simp only [Act.put, List.setIfInBounds_toArray, List.set_cons_zero, List.set_cons_succ])
        ((with_reducible refine Ord.e_p (v := ?_) ?_ ?_ ?_ ?_); rotate_left; (· exact rfl); (· kernel_rfl); (· intro w2; go_simp; try with_reducible rfl))
        (try simp only [Act.put, List.setIfInBounds_toArray, List.set_cons_zero, List.set_cons_succ])
        refine Ord.e_x rfl (by kernel_rfl) ?_
        refine wpList_store_row rfl _ _ _ rfl g6 (rcC kt kv).toArray rfl rfl _ _ r6 (by rw [List.size_toArray, rcC_size kt kv HVl.out]; kernel_rfl) (by rw [List.size_toArray, List.size_toArray, rcC_size kt kv HVl.out]; rfl) (all_oneCell_toArray (rcC_one kt kv)) ?_
        obtain ⟨hz, hAz⟩ := rc_store kt kv HVl.out wt g6 r6
        have hBz := below_awG (Below.refl M wt) hAz (fun k hk => by omega) (by have := blk_lt r6; omega)
        replace r6 := hz
        replace hown := own_aw hown hAz (fun j hj hu => hne j hj hu)
        replace hrc : RcB _ (M + 1) T V := hAz.keep hrc (by omega)
        replace hbox := hAz.keep hbox (by omega)
        replace hS := hS.trans hBz
        generalize (wt.setRow g6 (rcC kt kv).toArray) = wu at *
        clear hAz hBz hz
        go_wp2_with fail
        refine Ord.Seg.go hrc (fun h => by cases h) ?_
        (try simp only [Act.put, List.setIfInBounds_toArray, List.set_cons_zero, List.set_cons_succ])
        ((with_reducible refine Ord.e_p (v := ?_) ?_ ?_ ?_ ?_); rotate_left; (· exact rfl); (· kernel_rfl); (· intro w2; go_simp; try with_reducible rfl))
        (try simp only [Act.put, List.setIfInBounds_toArray, List.set_cons_zero, List.set_cons_succ])
        ((with_reducible refine Ord.e_p (v := ?_) ?_ ?_ ?_ ?_); rotate_left; (· exact rfl); (· kernel_rfl); (· intro w2; go_simp; try with_reducible rfl))
        (try simp only [Act.put, List.setIfInBounds_toArray, List.set_cons_zero, List.set_cons_succ])
        refine Ord.e_nil ?_
        by_cases hke : ¬ ke = 0
        · have hke' : ¬ (ke : Int) = 0 := by omega
          have E2 : Hid (3 = blkE s) := Lib.hid (Hbad.out (by rw [HN.out, if_neg hke]))
          have hresr := (hS.block _ hMl).trans hres2
          have hb := hb2.trans (hS.mono (Nat.le_of_lt hMl))
          go_wp2_with (first | (with_reducible refine stop_build0 41 ?_))
          refine go_ ?_
          go_wp2_with (first | (with_reducible refine stop_loadT 41 ?_) | (with_reducible refine stop_storeT 41 ?_))
          refine go_ (wpList_store_row rfl _ _ _ rfl w.heap.size #[.int .u32 0, .slice none 0 0] rfl rfl _ _ hresr (by kernel_rfl) rfl (by kernel_rfl) ?_)
          have hresZ := setRow_heap _ _ _ (#[.int .u32 0, .slice none 0 0] : Array Value) _ _ hresr
          have hbZ := below_setRow hb (Nat.le_refl _) (#[.int .u32 0, .slice none 0 0] : Array Value)
          generalize (wu.setRow w.heap.size #[.int .u32 0, .slice none 0 0]) = v5 at *
          have e0 := blk_cell (i := 0) (v := .int .u32 0) hresZ rfl
          have e1 := blk_cell (i := 1) (v := .slice none 0 0) hresZ rfl
          go_wp2
          exact bodyPost_ret (v := .tuple #[.agg #[.int .u32 0, .slice none 0 0], .int .i64 3]) (by simp [results, go_sem, e0, e1]) rfl (blkT_out (oE := 3) E2.out (by omega) hbZ)
        replace hke := Decidable.not_not.mp hke
        subst hke
        have hkn := HnN.out rfl
        have hkn' : kn ≤ nr := by rw [HRl.out] at hkn; exact hkn
        have hst := Hstep.out (by rw [HN.out, if_pos rfl]; omega)
        rw [HX.out rfl, HN.out, if_pos rfl, show (68 :: R).drop (kn + 1) = R.drop kn from rfl, ← Hdd.out kn] at hst
        have HSt := Lib.hid hst
        clear hst hkn
        rw [show ((0 : Nat) : Int) = 0 from rfl]
        have HEV : Hid ((⟨false, kt, kv⟩ : En).V.length = 12) := Lib.hid HVl.out
        have k1 : wu.cell? ⟨M, 1, none⟩ = some (.slice A3 k c3) := blk_cell hbox rfl
        go_wp2_with (first | (with_reducible refine stop_loadT 25 ?_) | (with_reducible refine stop_storeT 25 ?_) | (with_reducible refine stop_loadG 25 ?_))
        refine go_ (wpList_load_mid rfl _ _ rfl g6 0 rfl _ _ r6.all Try.underlying25 rfl (by rw [rcC_size kt kv HVl.out]; kernel_rfl) ?_)
        go_wp2_with (with_reducible refine stop_build2 ?_)
        refine go_ (wpList_buildEn (k := false) HVl.out rfl rfl ?_)
        go_wp2_with (with_reducible refine stop_bs ?_)
        refine go_ (wpList_bs1 Try.underlying39 Hi1.out (by kernel_rfl) (by omega) (by omega) (enC_len _ HEV.out) rfl ?_)
        have hbn : Below wu.heap.size wu (wu.alloc (.cells (enC ⟨false, kt, kv⟩).toArray 46)) := (Below.refl _ _).alloc (Nat.le_refl _) _
        have hrd : Rd (wu.alloc (.cells (enC ⟨false, kt, kv⟩).toArray 46)) (wu.heap.size + 1) 14 (some ⟨wu.heap.size, 0, none⟩) 1 1 (enC ⟨false, kt, kv⟩) := by
          have := (RdR.lit (size := 14) (e := 46) wu [enC ⟨false, kt, kv⟩] (enC ⟨false, kt, kv⟩).toArray (by simp) (by intro r hr; rw [List.mem_singleton.1 hr]; exact enC_len _ HEV.out) (by simp [maxLen]) 1 rfl).rd (by omega)
          simpa using this
        have hMs : M ≤ wu.heap.size := by have := blk_lt hbox; omega
        replace hbox := blk_old hbox hbn (blk_lt hbox)
        replace hrc : RcB _ (M + 1) T V := blk_old hrc hbn (blk_lt hrc)
        replace r6 : RcB _ g6 kt kv := blk_old r6 hbn (blk_lt r6)
        replace hown := own_up hown hbn (Nat.le_refl _)
        replace hS := hS.trans (hbn.mono hMs)
        clear hbn k1
        generalize (wu.alloc (.cells (enC ⟨false, kt, kv⟩).toArray 46)) = wc at *
        generalize wu.heap.size = gb at *
        clear hMs
        go_wp2_with (at_builtin; refine stop_ ?_)
        refine go_ (wpList_appG (base := M + 2) (n := k) Try.underlying39 Hi1.out (by kernel_rfl) (by omega) hown rfl hrd rfl (enC_one _) (k := k + 1) (ys := ((pre ++ [(⟨false, kt, kv⟩ : En)]).map enC).flatten) rfl (by simp) (by unfold maxLen; omega) (by omega) (by have := blk_lt hrc; omega) ?_)
        intro A7 c7 wd hown7 hgr hob
        have hne6 : ∀ j, (Value.slice A3 k c3).ownBlock = some j → M + 1 < j := fun j hj => by have := (own_blk hown hj).1; omega
        have hne7 : ∀ j, (Value.slice A7 (k + 1) c7).ownBlock = some j → M + 1 < j := fun j hj => by have := (own_blk hown7 hj).1; omega
        replace hbox := (hgr.block _ (blk_lt hbox) (fun e => by have := hne6 _ e.symm; omega)).trans hbox
        replace hrc : RcB wd (M + 1) T V := (hgr.block _ (blk_lt hrc) (fun e => by have := hne6 _ e.symm; omega)).trans hrc
        replace r6 : RcB wd g6 kt kv := (hgr.block _ (blk_lt r6) (fun e => hne _ e.symm rfl)).trans r6
        have hBd : Below M wc wd := Below.grown (Below.refl M wc) hgr (by have := hS.size; have := HM.out; omega) (fun j hj => by have := hne6 j hj; omega)
        replace hS := hS.trans hBd
        clear hgr hob hown hBd hrd hne hne6
        have s1 : wd.cell? ⟨M, 1, none⟩ = some (.slice A3 k c3) := blk_cell hbox rfl
        have s2 : wd.frozen? ⟨M, 1, none⟩ = false := blk_free (i := 1) hbox
        have hbox8 := blk_set (i := 1) hbox (.slice A7 (k + 1) c7)
        have haw8 : Aw (fun j => j = M) wd (wd.setCell ⟨M, 1, none⟩ (.slice A7 (k + 1) c7)) := (Aw.refl _ _).set (p := ⟨M, 1, none⟩) _ rfl
        have hrc8 : RcB _ (M + 1) T V := haw8.keep hrc (by omega)
        have hown8 := own_aw hown7 haw8 (fun j hj hu => by have := hne7 j hj; omega)
        have hB8 := below_awG (Below.refl M wd) haw8 (fun j hj => by omega) (by have := blk_lt hrc; omega)
        have hS8 := hS.trans hB8
        have r68 : RcB _ g6 kt kv := haw8.keep r6 (by omega)
        clear hB8 haw8 hS hown7 hrc r6
        go_wp2_with (first | (with_reducible refine stop_loadT 25 ?_) | (with_reducible refine stop_storeT 25 ?_) | (with_reducible refine stop_loadG 25 ?_))
        clear s1 s2 hbox
        generalize (wd.setCell ⟨M, 1, none⟩ (.slice A7 (k + 1) c7)) = wf at *
        clear wd
        refine go_ (wpList_load_mid rfl _ _ rfl g6 0 rfl _ _ r68.all Try.underlying25 rfl (by rw [rcC_size kt kv HVl.out]; kernel_rfl) ?_)
        go_wp2_with (first | (with_reducible refine stop_loadT 25 ?_) | (with_reducible refine stop_storeT 25 ?_) | (with_reducible refine stop_loadG 25 ?_))
        refine go_ (wpList_store_row rfl _ _ _ rfl (M + 1) (rcC kt kv).toArray rfl rfl _ _ hrc8 (by rw [List.size_toArray, rcC_size kt kv HVl.out]; kernel_rfl) (by rw [List.size_toArray, List.size_toArray, rcC_size kt kv HVl.out, rcC_size T V HTV.out]) (all_oneCell_toArray (rcC_one kt kv)) ?_)
        obtain ⟨hz, hAz⟩ := rc_store kt kv HVl.out wf (M + 1) hrc8
        have hBz := below_awG (Below.refl M wf) hAz (fun k hk => by omega) (by have := blk_lt hrc8; omega)
        have hown9 := own_aw hown8 hAz (fun j hj hu => by have := hne7 j hj; omega)
        have hbox9 := hAz.keep hbox8 (by omega)
        have hS9 := hS8.trans hBz
        generalize (wf.setRow (M + 1) (rcC kt kv).toArray) = wg at *
        have hat2 : at_ + 1 + kn ≤ 254 := by have := Hatn.out; omega
        clear hAz hBz hrc8 hown8 hbox8 r68 hS8
        go_wp2
        go_roundw
        case rel => exact ⟨k + 1, m, at_ + 1 + kn, pre ++ [⟨false, kt, kv⟩], A7, c7, kt, kv, by go_num, by go_num, hat2, by omega, by omega, hbox9, hz, hown9, hS9, HSt⟩
        case measure => simp [intOf]; omega
      have E2 : Hid (3 = blkE s) := Lib.hid (Hbad.out (entN_no h75 h68))
      have hx75 : ¬ (x.toNat : Int) = 75 := fun h => h75 (UInt8.toNat_inj.1 (show _ = (75 : UInt8).toNat from by show x.toNat = 75; omega))
      by_cases hx68 : x = 68
      · subst hx68
        have hk0 : ((k : Int) == 0) = true := by
          cases h0 : ((k : Int) == 0) with
          | true => rfl
          | false => exact absurd ⟨rfl, h0⟩ h68
        have hk1 : k = 0 := by simpa using hk0
        subst hk1
        rw [show ((68 : UInt8).toNat : Int) = 68 from rfl] at kx
        clear h75 h68 hcut hrR
        rw [show ((0 : Nat) : Int) = 0 from rfl]
        go_wp2_with (first | (with_reducible refine stop_build0 41 ?_))
        refine go_ ?_
        go_wp2_with (first | (with_reducible refine stop_loadT 41 ?_) | (with_reducible refine stop_storeT 41 ?_))
        refine go_ (wpList_store_row rfl _ _ _ rfl w.heap.size #[.int .u32 0, .slice none 0 0] rfl rfl _ _ hresr (by kernel_rfl) rfl (by kernel_rfl) ?_)
        have hresZ := setRow_heap _ _ _ (#[.int .u32 0, .slice none 0 0] : Array Value) _ _ hresr
        have hbZ := below_setRow hb (Nat.le_refl _) (#[.int .u32 0, .slice none 0 0] : Array Value)
        generalize (wr.setRow w.heap.size #[.int .u32 0, .slice none 0 0]) = v5 at *
        have e0 := blk_cell (i := 0) (v := .int .u32 0) hresZ rfl
        have e1 := blk_cell (i := 1) (v := .slice none 0 0) hresZ rfl
        go_wp2
        exact bodyPost_ret (v := .tuple #[.agg #[.int .u32 0, .slice none 0 0], .int .i64 3]) (by simp [results, go_sem, e0, e1]) rfl (blkT_out (oE := 3) E2.out (by omega) hbZ)
      · have hx68' : ¬ (x.toNat : Int) = 68 := fun h => hx68 (UInt8.toNat_inj.1 (show _ = (68 : UInt8).toNat from by show x.toNat = 68; omega))
        clear h75 h68 hcut hrR
        go_wp2_with (first | (with_reducible refine stop_build0 41 ?_))
        refine go_ ?_
        go_wp2_with (first | (with_reducible refine stop_loadT 41 ?_) | (with_reducible refine stop_storeT 41 ?_))
        refine go_ (wpList_store_row rfl _ _ _ rfl w.heap.size #[.int .u32 0, .slice none 0 0] rfl rfl _ _ hresr (by kernel_rfl) rfl (by kernel_rfl) ?_)
        have hresZ := setRow_heap _ _ _ (#[.int .u32 0, .slice none 0 0] : Array Value) _ _ hresr
        have hbZ := below_setRow hb (Nat.le_refl _) (#[.int .u32 0, .slice none 0 0] : Array Value)
        generalize (wr.setRow w.heap.size #[.int .u32 0, .slice none 0 0]) = v5 at *
        have e0 := blk_cell (i := 0) (v := .int .u32 0) hresZ rfl
        have e1 := blk_cell (i := 1) (v := .slice none 0 0) hresZ rfl
        go_wp2
        exact bodyPost_ret (v := .tuple #[.agg #[.int .u32 0, .slice none 0 0], .int .i64 3]) (by simp [results, go_sem, e0, e1]) rfl (blkT_out (oE := 3) E2.out (by omega) hbZ)

theorem qblkTake_any (A : Option Addr) (n c B : Nat) (s : List UInt8) (w : World) (h : Rd w B 1 A n c (bv s)) (hB : B ≤ w.heap.size) (hn : n ≤ 1000000) :
    Calls Try.prog 40 #[.slice A n c] w (RetTBk s w) :=
  (qblkTake_new A n c B s w h hB hn).mono fun _ _ h => h.any

end Go.Proofs.Ytplgcfjcdjlnbaa
