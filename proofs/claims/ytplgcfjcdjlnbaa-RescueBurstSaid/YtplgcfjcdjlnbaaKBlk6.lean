/-
  block.Take walked (printed by gen_blk6.py).
-/
import Derived.Test.YtplgcfjcdjlnbaaKGQ
import Derived.Test.YtplgcfjcdjlnbaaKGF
set_option linter.unusedSimpArgs false
set_option linter.unusedVariables false
namespace Go.Proofs.Ytplgcfjcdjlnbaa
open Go.RowKit NumLaw CrcLaw
attribute [local go_sem] Addr.add_mid

theorem short_ne35 {l : List UInt8} (h : l.length < 2) : moreN 65535 l ≠ 0 := by
  intro h0
  rw [moreN_eq] at h0
  have hn := CrcLaw.num_lt l
  have h1 : CrcLaw.num l < 65536 := by
    rcases (by omega : l.length = 0 ∨ l.length = 1) with h' | h' <;> rw [h'] at hn <;> simp at hn <;> omega
  have h2 := xor_zero_eq (Tn_zero_of _ (xor_lt (by omega) h1) h0)
  rcases (by omega : l.length = 0 ∨ l.length = 1) with h' | h' <;> rw [h'] at hn <;> simp at hn <;> omega
theorem rd1G (l : List UInt8) (h : ¬ l.length < 1) : rdF (nU 1) l false = false ∧ rdB (nU 1) l false = l.take 1 ∧ rdL (nU 1) l false = l.drop 1 := by
  have h1 : rdF (nU 1) l false = false := by
    unfold rdF
    rw [show nU 1 = 1 from rfl]
    simp
    omega
  refine ⟨h1, ?_, ?_⟩
  · unfold rdB; rw [h1]; rfl
  · unfold rdL; rw [h1]; rfl
/-- What Take of a block hands back. -/
def RetTBk (s : List UInt8) (w : World) (e : Ending) (w' : World) : Prop :=
  ∃ (A : Option Addr) (n c : Nat), e = .returned (.tuple #[.agg #[.int .u32 (blkNo s : Int), .slice A n c], .int .i64 (blkE s : Int)]) ∧ RdE w' w'.heap.size A n c (blkL s) ∧ Below w.heap.size w w'
/-- What a slice lies in has cells of that type. -/
def OfT (w : World) (e : TypeId) (v : Value) : Prop := ∀ j, v.ownBlock = some j → ∃ cur, w.heap[j]? = some (.cells cur e (0, 0))
theorem ofT_own {w : World} {base : Nat} {e : TypeId} {size n : Nat} {v : Value} {xs : List Value} (h : w.ownsRow base e size v n xs) : OfT w e v := fun j hj => by
  rcases h.2 with ⟨rfl, _⟩ | ⟨g, cap, cur, rfl, _, hg, _⟩
  · cases hj
  · injection hj with hj
    subst hj
    exact ⟨cur, hg⟩
theorem ofT_none (w : World) (e : TypeId) (n c : Nat) : OfT w e (.slice none n c) := fun j hj => by cases hj
theorem ofT_below {w w' : World} {e : TypeId} {v : Value} (h : OfT w e v) (hb : Below w.heap.size w w') : OfT w' e v := fun j hj => by
  obtain ⟨cur, hc⟩ := h j hj
  exact ⟨cur, blk_old hc hb (blk_lt hc)⟩
theorem ofT_aw {U : Nat → Prop} {w w' : World} {e : TypeId} {v : Value} (h : OfT w e v) (ha : Aw U w w') (hu : ∀ k, U k → ∀ cur, w.heap[k]? ≠ some (.cells cur e (0, 0))) : OfT w' e v := fun j hj => by
  obtain ⟨cur, hc⟩ := h j hj
  exact ⟨cur, ha.keep hc (fun hk => hu j hk cur hc)⟩
/-- As RetTBk; the entries lie in a block of entries. -/
def RetTBn (s : List UInt8) (w : World) (e : Ending) (w' : World) : Prop :=
  ∃ (A : Option Addr) (n c : Nat), e = .returned (.tuple #[.agg #[.int .u32 (blkNo s : Int), .slice A n c], .int .i64 (blkE s : Int)]) ∧ RdE w' w'.heap.size A n c (blkL s) ∧ Below w.heap.size w w' ∧ OfT w' 46 (.slice A n c)
theorem RetTBn.any {s : List UInt8} {w w' : World} {e : Ending} (h : RetTBn s w e w') : RetTBk s w e w' := by
  obtain ⟨A, n, c, h1, h2, h3, _⟩ := h
  exact ⟨A, n, c, h1, h2, h3⟩
theorem rdE_none (w : World) (B : Nat) : RdE w B none 0 0 [] := RdR.none_ w B 14
theorem blkT_out {s : List UInt8} {w w5 : World} {oE : Nat} (he : oE = blkE s) (h0 : oE ≠ 0) (hb : Below w.heap.size w w5) : RetTBn s w (.returned (.tuple #[.agg #[.int .u32 0, .slice none 0 0], .int .i64 (oE : Int)])) w5 := by
  obtain ⟨h1, h2⟩ := blk_bad (s := s) (by rw [← he]; exact h0)
  exact ⟨none, 0, 0, by rw [h1, he]; rfl, by rw [h2]; exact rdE_none _ _, hb, ofT_none _ _ _ _⟩
theorem takeL_no {m t : Nat} {V : List Int} {bg : Bool} {R : List UInt8} (h : entN V bg R = 0) : takeL (m + 1) t V bg R = none := by
  unfold takeL
  rw [if_pos h]
theorem takeL_yes {m t : Nat} {V : List Int} {bg : Bool} {R : List UInt8} (h : entN V bg R ≠ 0) : takeL (m + 1) t V bg R = (takeL m (entX t V bg R).t (entX t V bg R).V false (R.drop (entN V bg R))).map fun p => (entX t V bg R :: p.1, p.2) := by
  conv => lhs; unfold takeL
  rw [if_neg h]
theorem aw_setRow35 {w : World} (g : Nat) (cs : Array Value) : Aw (fun k => k = g) w (w.setRow g cs) :=
  ⟨setRow_os w _ _, setRow_tape w _ _, setRow_output w _ _, by rw [setRow_size]; exact Nat.le_refl _, fun k _ hu => setRow_other w _ k _ hu⟩
theorem entX_len35 {t : Nat} {V : List Int} {bg : Bool} {R : List UInt8} (ht : t < 4294967296) (hV : V.length = 12) (h32 : ∀ z ∈ V, in32 z) : (entX t V bg R).V.length = 12 := by
  match R with
  | [] => rfl
  | c :: R =>
    rw [entX_cons]
    split
    · split
      · exact keV_len R
      · rfl
    · split
      · split
        · exact recTV_len35 (t := t) ht hV h32
        · rfl
      · rfl
/-- What Take's rounds keep, of the plain law. -/
def TkP (p : List UInt8) (k m : Nat) (pre : List En) (T : Nat) (V : List Int) (R : List UInt8) : Prop :=
  k + m = (p.getD 1 0).toNat ∧ pre.length = k ∧ (∀ x ∈ pre, EnQ x) ∧ T < 4294967296 ∧ V.length = 12 ∧ (∀ z ∈ V, in32 z) ∧
    takeL (p.getD 1 0).toNat 0 z12L true (p.drop 6) = (takeL m T V ((k : Int) == 0) R).map fun q => (pre ++ q.1, q.2)
theorem tkP_start (p : List UInt8) : TkP p 0 (p.getD 1 0).toNat [] 0 z12 (p.drop 6) := by
  refine ⟨by omega, rfl, by simp, by omega, rfl, z12_32, ?_⟩
  rw [show (((0 : Nat) : Int) == 0) = true from rfl]
  show _ = Option.map (fun q => ([] ++ q.1, q.2)) (takeL _ 0 z12L true _)
  simp
theorem tkP_bad {p : List UInt8} {k m T : Nat} {pre : List En} {V : List Int} {R : List UInt8} (h : TkP p k (m + 1) pre T V R) (h0 : entN V ((k : Int) == 0) R = 0) : takeL (p.getD 1 0).toNat 0 z12L true (p.drop 6) = none := by
  rw [h.2.2.2.2.2.2, takeL_no h0]
  rfl
theorem tkP_step {p : List UInt8} {k m T : Nat} {pre : List En} {V : List Int} {R : List UInt8} (h : TkP p k (m + 1) pre T V R) (h0 : entN V ((k : Int) == 0) R ≠ 0) :
    TkP p (k + 1) m (pre ++ [entX T V ((k : Int) == 0) R]) (entX T V ((k : Int) == 0) R).t (entX T V ((k : Int) == 0) R).V (R.drop (entN V ((k : Int) == 0) R)) := by
  obtain ⟨a1, a2, a3, a4, a5, a6, a7⟩ := h
  obtain ⟨_, _, _, hq, _⟩ := ent_back a4 a5 a6 h0
  refine ⟨by omega, by rw [List.length_append, a2]; rfl, fun x hx => ?_, hq.1, hq.2.1, hq.2.2, ?_⟩
  · rcases List.mem_append.1 hx with hx | hx
    · exact a3 x hx
    · rw [List.mem_singleton.1 hx]; exact hq
  · rw [a7, takeL_yes h0, show (((k + 1 : Nat) : Int) == 0) = false from by simp; omega, Option.map_map]
    congr 1
    funext q
    simp
theorem tkP_end {p : List UInt8} {k T : Nat} {pre : List En} {V : List Int} {R : List UInt8} (h : TkP p k 0 pre T V R) : takeL (p.getD 1 0).toNat 0 z12L true (p.drop 6) = some (pre, R) := by
  rw [h.2.2.2.2.2.2]
  show Option.map _ (some ([], R)) = _
  simp
theorem blkE_of {s : List UInt8} (h1 : s.length = 256) (h2 : openB s = true) : blkE s = if pgOk (openL s) = true then 0 else 3 := by
  unfold blkE
  rw [if_neg (by omega), if_neg (by omega), if_neg (by rw [h2]; simp)]
theorem pg_head {p : List UInt8} (h : ¬ (p.getD 0 0 = 76 ∧ p.getD 1 0 ≠ 0)) : pgOk p = false := by
  unfold pgOk pgT
  rw [if_neg h]
theorem pg_none {p : List UInt8} (h : takeL (p.getD 1 0).toNat 0 z12L true (p.drop 6) = none) : pgOk p = false := by
  unfold pgOk pgT
  split <;> rename_i h1
  · rfl
  · split at h1
    · rw [h] at h1; cases h1
    · cases h1
theorem pg_some {p : List UInt8} {L : List En} {R : List UInt8} (h0 : p.getD 0 0 = 76 ∧ p.getD 1 0 ≠ 0) (h : takeL (p.getD 1 0).toNat 0 z12L true (p.drop 6) = some (L, R)) : pgOk p = nullB R ∧ (nullB R = true → pgL p = L) := by
  have e : pgT p = some (L, R) := by unfold pgT; rw [if_pos h0, h]
  constructor
  · unfold pgOk; rw [e]
  · intro hn; unfold pgL; rw [e]; exact if_pos hn

set_option maxRecDepth 10000 in
set_option maxHeartbeats 8000000 in
theorem blkTake_new (A : Option Addr) (n c B : Nat) (s : List UInt8) (w : World) (h : Rd w B 1 A n c (bv s)) (hB : B ≤ w.heap.size) (hn : n ≤ 1000000) :
    Calls Try.prog 39 #[.slice A n c] w (RetTBn s w) := by
  have hlb := h.blen
  have hle := h.le
  have hmx := h.max
  unfold maxLen at hmx
  obtain ⟨i0, hi⟩ := info_parts u8_info
  obtain ⟨i1, hi1⟩ := info_parts en_info
  have hb1 : Below w.heap.size w (w.alloc (.cells #[.int .u32 0, .slice none 0 0] 41)) := (Below.refl _ _).alloc (Nat.le_refl _) _
  have hres := heap_alloc_new w (.cells #[.int .u32 0, .slice none 0 0] 41)
  have Hlb := Lib.hid hlb
  have Hi1 := Lib.hid hi1
  have Hi := Lib.hid hi
  by_cases h8 : n < 256
  · have E2 : Hid (2 = blkE s) := Lib.hid (by unfold blkE; rw [if_pos (by omega)])
    have h8' : (n : Int) < 256 := by omega
    clear hlb hi hi1
    go_enter Try.func39, Try.ntmps39
    go_wp2_with (first | (with_reducible refine stop_build0 41 ?_))
    refine go_ ?_
    generalize (w.alloc (.cells #[.int .u32 0, .slice none 0 0] 41)) = w1 at *
    go_wp2_with (first | (with_reducible refine stop_loadT 41 ?_) | (with_reducible refine stop_storeT 41 ?_))
    refine go_ (wpList_store_row rfl _ _ _ rfl w.heap.size #[.int .u32 0, .slice none 0 0] rfl rfl _ _ hres (by kernel_rfl) rfl (by kernel_rfl) ?_)
    have hresZ := setRow_heap _ _ _ (#[.int .u32 0, .slice none 0 0] : Array Value) _ _ hres
    have hbZ := below_setRow hb1 (Nat.le_refl _) (#[.int .u32 0, .slice none 0 0] : Array Value)
    generalize (w1.setRow w.heap.size #[.int .u32 0, .slice none 0 0]) = v5 at *
    have e0 := blk_cell (i := 0) (v := .int .u32 0) hresZ rfl
    have e1 := blk_cell (i := 1) (v := .slice none 0 0) hresZ rfl
    go_wp2
    exact bodyPost_ret (v := .tuple #[.agg #[.int .u32 0, .slice none 0 0], .int .i64 2]) (by simp [results, go_sem, e0, e1]) rfl (blkT_out (oE := 2) E2.out (by omega) hbZ)
  by_cases h9 : 256 < n
  · have E2 : Hid (7 = blkE s) := Lib.hid (by unfold blkE; rw [if_neg (by omega), if_pos (by omega)])
    have h8' : ¬ (n : Int) < 256 := by omega
    have h9' : (256 : Int) < (n : Int) := by omega
    clear hlb hi hi1
    go_enter Try.func39, Try.ntmps39
    go_wp2_with (first | (with_reducible refine stop_build0 41 ?_))
    refine go_ ?_
    generalize (w.alloc (.cells #[.int .u32 0, .slice none 0 0] 41)) = w1 at *
    go_wp2_with (first | (with_reducible refine stop_loadT 41 ?_) | (with_reducible refine stop_storeT 41 ?_))
    refine go_ (wpList_store_row rfl _ _ _ rfl w.heap.size #[.int .u32 0, .slice none 0 0] rfl rfl _ _ hres (by kernel_rfl) rfl (by kernel_rfl) ?_)
    have hresZ := setRow_heap _ _ _ (#[.int .u32 0, .slice none 0 0] : Array Value) _ _ hres
    have hbZ := below_setRow hb1 (Nat.le_refl _) (#[.int .u32 0, .slice none 0 0] : Array Value)
    generalize (w1.setRow w.heap.size #[.int .u32 0, .slice none 0 0]) = v5 at *
    have e0 := blk_cell (i := 0) (v := .int .u32 0) hresZ rfl
    have e1 := blk_cell (i := 1) (v := .slice none 0 0) hresZ rfl
    go_wp2
    exact bodyPost_ret (v := .tuple #[.agg #[.int .u32 0, .slice none 0 0], .int .i64 7]) (by simp [results, go_sem, e0, e1]) rfl (blkT_out (oE := 7) E2.out (by omega) hbZ)
  obtain rfl : n = 256 := by omega
  have hE := fun (h2 : openB s = true) => blkE_of (s := s) hlb h2
  have HE := Lib.hid hE
  have HEs := Lib.hid (blkE_sum (s := s) hlb)
  have HNo : Hid (blkNo s = if blkE s = 0 then NumLaw.num (((openL s).drop 2).take 4) else 0) := Lib.hid rfl
  have HLs : Hid (blkL s = if blkE s = 0 then pgL (openL s) else []) := Lib.hid rfl
  have hpl : openB s = true → (openL s).length = 254 := fun h2 => by
    have hm : moreN 65535 s = 0 := by unfold openB at h2; simpa using h2
    unfold openL
    rw [if_pos hm, List.length_take, hlb]
    rfl
  have Hpl := Lib.hid hpl
  have hop := open_any A 254 c B s _ (h.up (hb1.mono hB)) (Nat.le_trans hB hb1.size) (by omega)
  clear hlb hi hi1 hE h8 h9 hpl
  go_enter Try.func39, Try.ntmps39
  go_wp2_with fail
  generalize (w.alloc (.cells #[.int .u32 0, .slice none 0 0] 41)) = w1 at *
  go_fit hop
  rintro e w2 ⟨A2, c2, n2, rfl, own2, hb12⟩
  have hres2 := blk_old hres hb12 (blk_lt hres)
  have hb2 := bnx hb1 hb12
  replace own2 := own_mono own2 hb1.size
  clear hop hres hb1 hb12 h w1
  by_cases hok : openB s = false
  · have E2 : Hid (4 = blkE s) := Lib.hid (HEs.out hok).symm
    rw [hok]
    clear own2
    go_wp2_with (first | (with_reducible refine stop_build0 41 ?_))
    refine go_ ?_
    go_wp2_with (first | (with_reducible refine stop_loadT 41 ?_) | (with_reducible refine stop_storeT 41 ?_))
    refine go_ (wpList_store_row rfl _ _ _ rfl w.heap.size #[.int .u32 0, .slice none 0 0] rfl rfl _ _ hres2 (by kernel_rfl) rfl (by kernel_rfl) ?_)
    have hresZ := setRow_heap _ _ _ (#[.int .u32 0, .slice none 0 0] : Array Value) _ _ hres2
    have hbZ := below_setRow hb2 (Nat.le_refl _) (#[.int .u32 0, .slice none 0 0] : Array Value)
    generalize (w2.setRow w.heap.size #[.int .u32 0, .slice none 0 0]) = v5 at *
    have e0 := blk_cell (i := 0) (v := .int .u32 0) hresZ rfl
    have e1 := blk_cell (i := 1) (v := .slice none 0 0) hresZ rfl
    go_wp2
    exact bodyPost_ret (v := .tuple #[.agg #[.int .u32 0, .slice none 0 0], .int .i64 4]) (by simp [results, go_sem, e0, e1]) rfl (blkT_out (oE := 4) E2.out (by omega) hbZ)
  replace hok : openB s = true := by simpa using hok
  have hpl := Hpl.out hok
  have hE := HE.out hok
  rw [hok]
  generalize openL s = p at *
  have hln := own_len own2
  obtain rfl : n2 = 254 := by omega
  have hr2 := Rd.own own2
  have hle2 := hr2.le
  have hmx2 := hr2.max
  unfold maxLen at hmx2
  obtain ⟨M, hM⟩ : ∃ M, M = w2.heap.size := ⟨_, rfl⟩
  rw [← hM] at hr2
  have hMl : w.heap.size < M := by rw [hM]; exact blk_lt hres2
  have hS2 : Below M w2 w2 := Below.refl _ _
  match p, hpl, hr2 with
  | a :: b :: q, hpl, hr2 =>
  have hql : q.length = 252 := by simpa using hpl
  have hcut6 : ∀ w, (Instr.slice 26 (.slice A2 254 c2) none (some (.int .i64 6)) none).run Try.prog w = .ok (.slice A2 6 c2) w := run_cut_h (P := Try.prog) Try.underlying26 Hi.out.1 A2 254 c2 6 (by omega)
  have hcutl : ∀ w, (Instr.slice 26 (.slice A2 254 c2) (some (.int .i64 6)) none none).run Try.prog w = .ok (.slice (cutA A2 c2 6 1) 248 (c2 - 6)) w := run_cut_l (P := Try.prog) Try.underlying26 Hi.out.1 Hi.out.2.2.1 A2 254 c2 6 (by omega)
  have hnew := rNew_any A2 6 c2 M ((a :: b :: q).take 6) w2 (hr2.btake (by omega)) (by omega) (by omega)
  have hR0 : Rd w2 M 1 (cutA A2 c2 6 1) 248 (c2 - 6) (bv ((a :: b :: q).drop 6)) := hr2.bdrop (k := 6) (by omega)
  have HE := Lib.hid hE
  have hal := a.toNat_lt
  have hbl := b.toNat_lt
  have hnl := num4_lt (q.take 4) (by rw [List.length_take]; omega)
  obtain ⟨no, hno⟩ : ∃ v, v = NumLaw.num (q.take 4) := ⟨_, rfl⟩
  have HNo2 : Hid (blkE s = 0 → blkNo s = no) := Lib.hid (fun h => by rw [HNo.out, if_pos h]; exact hno.symm)
  have HLs2 : Hid (blkE s = 0 → blkL s = pgL (a :: b :: q)) := Lib.hid (fun h => by rw [HLs.out, if_pos h])
  have Hql := Lib.hid hql
  have HM := Lib.hid hM
  rw [← hno] at hnl
  have Hno := Lib.hid hno
  clear own2 hr2 hpl hln hE hok HNo HLs HEs Hpl hql hM hno
  go_wp2_with fail
  go_fit hnew
  rintro e w3 ⟨g, rfl, hrd3, hlg, hbx⟩
  rw [← HM.out] at hbx hlg
  have hS3 := hS2.trans hbx
  clear hnew hbx hS2
  obtain ⟨f1, f2, f3⟩ := rd1G ((a :: b :: q).take 6) (by simp)
  go_wp2_with fail
  go_fit (rU_any w2.heap.size g _ false 1 w3 hrd3)
  rw [f1, f2, f3, show NumLaw.num (((a :: b :: q).take 6).take 1) = a.toNat from by show a.toNat + 256 * 0 = _; omega, show ((a :: b :: q).take 6).drop 1 = b :: q.take 4 from rfl]
  rintro e w4 ⟨rfl, hrd4, hgr⟩
  have hS4 := Below.grown hS3 hgr (by have := hS3.size; have := HM.out; omega) (fun j hj => by injection hj with hj; omega)
  clear hrd3 hgr hS3 f1 f2 f3
  obtain ⟨f1, f2, f3⟩ := rd1G (b :: q.take 4) (by simp)
  go_wp2_with fail
  go_fit (rU_any w2.heap.size g _ false 1 w4 hrd4)
  rw [f1, f2, f3, show NumLaw.num ((b :: q.take 4).take 1) = b.toNat from by show b.toNat + 256 * 0 = _; omega, show (b :: q.take 4).drop 1 = q.take 4 from rfl]
  rintro e w5 ⟨rfl, hrd5, hgr⟩
  have hS5 := Below.grown hS4 hgr (by have := hS4.size; have := HM.out; omega) (fun j hj => by injection hj with hj; omega)
  clear hrd4 hgr hS4 f1 f2 f3
  obtain ⟨f1, f2, f3⟩ := rd4G (q.take 4) (by rw [List.length_take, Hql.out]; decide)
  have hwn : IntKind.u32.wrap (no : Int) = (no : Int) := by rw [IntKind.wrap_u32]; omega
  go_wp2_with fail
  go_fit (rU_any w2.heap.size g _ false 4 w5 hrd5)
  rw [f1, f2, f3, List.take_take, show min 4 4 = 4 from rfl, ← Hno.out]
  rintro e w6 ⟨rfl, hrd6, hgr⟩
  have hS6 := Below.grown hS5 hgr (by have := hS5.size; have := HM.out; omega) (fun j hj => by injection hj with hj; omega)
  have hlg6 : g < w6.heap.size := hrd6.1.elim fun _ h => h.elim fun _ h => h.elim fun _ h => h.1.lt
  clear hrd5 hrd6 hgr hS5 f1 f2 f3 hlg6 hcut6
  have hbx : Below w6.heap.size w6 (w6.alloc (.cells #[.int .u32 (no : Int), .slice none 0 0] 41)) := (Below.refl _ _).alloc (Nat.le_refl _) _
  have hbox := heap_alloc_new w6 (.cells #[.int .u32 (no : Int), .slice none 0 0] 41)
  have hM6 : M ≤ w6.heap.size := by have := hS6.size; have := HM.out; omega
  have hS7 := hS6.trans (hbx.mono hM6)
  clear hbx
  by_cases hh : ¬ (a = 76 ∧ b ≠ 0)
  · have E2 : Hid (3 = blkE s) := Lib.hid (by rw [HE.out, pg_head (p := a :: b :: q) hh]; rfl)
    have hres7 := (hS7.block _ hMl).trans hres2
    have hb7 := hb2.trans (hS7.mono (Nat.le_of_lt hMl))
    by_cases ha : a = 76
    · subst ha
      obtain rfl : b = 0 := Decidable.not_not.mp (fun hb => hh ⟨rfl, hb⟩)
      rw [show ((76 : UInt8).toNat : Int) = 76 from rfl, show ((0 : UInt8).toNat : Int) = 0 from rfl]
      clear hh hR0 HE
      go_wp2_with (first | (with_reducible refine stop_build0 41 ?_))
      refine go_ ?_
      generalize (w6.alloc (.cells #[.int .u32 (no : Int), .slice none 0 0] 41)) = w7 at *
      go_wp2_with (first | (with_reducible refine stop_loadT 41 ?_) | (with_reducible refine stop_storeT 41 ?_))
      refine go_ (wpList_store_row rfl _ _ _ rfl w.heap.size #[.int .u32 0, .slice none 0 0] rfl rfl _ _ hres7 (by kernel_rfl) rfl (by kernel_rfl) ?_)
      have hresZ := setRow_heap _ _ _ (#[.int .u32 0, .slice none 0 0] : Array Value) _ _ hres7
      have hbZ := below_setRow hb7 (Nat.le_refl _) (#[.int .u32 0, .slice none 0 0] : Array Value)
      generalize (w7.setRow w.heap.size #[.int .u32 0, .slice none 0 0]) = v5 at *
      have e0 := blk_cell (i := 0) (v := .int .u32 0) hresZ rfl
      have e1 := blk_cell (i := 1) (v := .slice none 0 0) hresZ rfl
      go_wp2
      exact bodyPost_ret (v := .tuple #[.agg #[.int .u32 0, .slice none 0 0], .int .i64 3]) (by simp [results, go_sem, e0, e1]) rfl (blkT_out (oE := 3) E2.out (by omega) hbZ)
    · have ha' : ¬ (a.toNat : Int) = 76 := fun h => ha (UInt8.toNat_inj.1 (show _ = (76 : UInt8).toNat from by show a.toNat = 76; omega))
      clear hh hR0 HE
      go_wp2_with (first | (with_reducible refine stop_build0 41 ?_))
      refine go_ ?_
      generalize (w6.alloc (.cells #[.int .u32 (no : Int), .slice none 0 0] 41)) = w7 at *
      go_wp2_with (first | (with_reducible refine stop_loadT 41 ?_) | (with_reducible refine stop_storeT 41 ?_))
      refine go_ (wpList_store_row rfl _ _ _ rfl w.heap.size #[.int .u32 0, .slice none 0 0] rfl rfl _ _ hres7 (by kernel_rfl) rfl (by kernel_rfl) ?_)
      have hresZ := setRow_heap _ _ _ (#[.int .u32 0, .slice none 0 0] : Array Value) _ _ hres7
      have hbZ := below_setRow hb7 (Nat.le_refl _) (#[.int .u32 0, .slice none 0 0] : Array Value)
      generalize (w7.setRow w.heap.size #[.int .u32 0, .slice none 0 0]) = v5 at *
      have e0 := blk_cell (i := 0) (v := .int .u32 0) hresZ rfl
      have e1 := blk_cell (i := 1) (v := .slice none 0 0) hresZ rfl
      go_wp2
      exact bodyPost_ret (v := .tuple #[.agg #[.int .u32 0, .slice none 0 0], .int .i64 3]) (by simp [results, go_sem, e0, e1]) rfl (blkT_out (oE := 3) E2.out (by omega) hbZ)
  obtain ⟨rfl, hbn⟩ := Decidable.not_not.mp hh
  have hbn' : ¬ (b.toNat : Int) = 0 := fun h => hbn (UInt8.toNat_inj.1 (show _ = (0 : UInt8).toNat from by show b.toNat = 0; omega))
  have hbq : ((b.toNat : Int) == 0) = false := by simpa using hbn'
  have Hbn := Lib.hid hbn
  rw [show ((76 : UInt8).toNat : Int) = 76 from rfl]
  have hpg := fun L R => pg_some (p := 76 :: b :: q) (L := L) (R := R) ⟨rfl, hbn⟩
  have Hpg := Lib.hid hpg
  have Hpn := Lib.hid (pg_none (p := 76 :: b :: q))
  have Hst := Lib.hid (tkP_start (76 :: b :: q))
  rw [show (76 :: b :: q).getD 1 0 = b from rfl, show (76 :: b :: q).drop 6 = q.drop 4 from rfl] at Hst Hpn Hpg
  have HtN : Hid (∀ {k m T : Nat} {pre : List En} {V : List Int} {R : List UInt8}, TkP (76 :: b :: q) k m pre T V R → k + m = b.toNat) := Lib.hid (fun h => h.1)
  clear hh hbn hpg hS6
  have hR7 := hR0.up hS7
  clear hR0
  obtain ⟨g9, hg9⟩ : ∃ v, v = w6.heap.size := ⟨_, rfl⟩
  have hM9 : M ≤ g9 := by omega
  have hw7s : (w6.alloc (.cells #[.int .u32 (no : Int), .slice none 0 0] 41)).heap.size = g9 + 1 := by rw [hg9]; simp
  rw [← hg9] at hbox
  have Hw7s := Lib.hid hw7s
  have Hg9 := Lib.hid hg9
  clear hw7s hg9
  go_wp2_with (with_reducible refine stop_allocT 25 ?_)
  (try rw [← Hg9.out])
  generalize (w6.alloc (.cells #[.int .u32 (no : Int), .slice none 0 0] 41)) = w7 at *
  have hbx : Below w7.heap.size w7 (w7.alloc (.cells #[.int .u32 0, .int .i32 0, .int .i32 0, .int .i32 0, .int .i32 0, .int .i32 0, .int .i32 0, .int .i32 0, .int .i32 0, .int .i32 0, .int .i32 0, .int .i32 0, .int .i32 0] 25)) := (Below.refl _ _).alloc (Nat.le_refl _) _
  have hrc := heap_alloc_new w7 (.cells #[.int .u32 0, .int .i32 0, .int .i32 0, .int .i32 0, .int .i32 0, .int .i32 0, .int .i32 0, .int .i32 0, .int .i32 0, .int .i32 0, .int .i32 0, .int .i32 0, .int .i32 0] 25)
  have hbox8 := blk_old hbox hbx (blk_lt hbox)
  have hM7 : M ≤ w7.heap.size := by have := Hw7s.out; omega
  have hS8 := hS7.trans (hbx.mono hM7)
  have hR8 := hR7.up (hbx.mono hM7)
  refine go_ ?_
  go_wp2_with fail
  generalize (w7.alloc (.cells #[.int .u32 0, .int .i32 0, .int .i32 0, .int .i32 0, .int .i32 0, .int .i32 0, .int .i32 0, .int .i32 0, .int .i32 0, .int .i32 0, .int .i32 0, .int .i32 0, .int .i32 0] 25)) = w8 at *
  rw [Hw7s.out] at hrc
  (try rw [Hw7s.out])
  replace hrc : RcB w8 (g9 + 1) 0 z12 := hrc
  clear hbx hbox hS7 hR7 hM7 hcutl Hw7s Hg9 hM6
  go_loopw [10, 55] (fun r i wr => ∃ (k m nr : Nat) (pre : List En) (R : List UInt8) (Ar A3 : Option Addr) (cr c3 T : Nat) (V : List Int), r = .slice Ar nr cr ∧ i = .int .i64 k ∧ nr ≤ 248 ∧ k ≤ b.toNat ∧ k + m = b.toNat ∧ Rd wr M 1 Ar nr cr (bv R) ∧ wr.heap[g9]? = some (.cells #[.int .u32 (no : Int), .slice A3 k c3] 41) ∧ RcB wr (g9 + 1) T V ∧ wr.ownsRow (g9 + 2) 46 14 (.slice A3 k c3) k (pre.map enC).flatten ∧ Below M w2 wr ∧ Hid (TkP (76 :: b :: q) k m pre T V R)) (fun _ i _ => b.toNat - (intOf i).toNat)
  case atStart => exact ⟨0, b.toNat, 248, [], q.drop 4, cutA A2 c2 6 1, none, c2 - 6, 0, 0, z12, rfl, rfl, by omega, by omega, by omega, hR8, hbox8, hrc, World.ownsRow_nil _ _ _ _, hS8, Hst⟩
  case round =>
    clear hR8 hbox8 hrc hS8 w8
    obtain ⟨k, m, nr, pre, R, Ar, A3, cr, c3, T, V, rfl, rfl, hnr, hkN, hkm, hR, hbox, hrc, hown, hS, HT⟩ := hrel
    have hresr := (hS.block _ hMl).trans hres2
    have hb := hb2.trans (hS.mono (Nat.le_of_lt hMl))
    have hMs : M ≤ wr.heap.size := by have := blk_lt hbox; omega
    have hleR := hR.le
    have hmxR := hR.max
    unfold maxLen at hmxR
    by_cases hm : m = 0
    · subst hm
      obtain rfl : k = b.toNat := by omega
      have hend := tkP_end HT.out
      obtain ⟨p1, p2⟩ := Hpg.out _ _ hend
      have P1 := Lib.hid p1
      have P2 := Lib.hid p2
      have Hlr := Lib.hid (show RdR _ _ 14 A3 b.toNat c3 (pre.map enC) from RdR.own (ls := pre.map enC) hown (by rw [List.length_map]; exact HT.out.2.1) (fun r hr => by obtain ⟨x, hx, rfl⟩ := List.mem_map.1 hr; exact enC_len x (HT.out.2.2.1 x hx).2.1))
      clear hend p1 p2
      go_wp2_with fail
      go_fit (nought_any Ar nr cr M R wr hR)
      rintro e wn ⟨rfl, rfl⟩
      by_cases hz : nullB R = true
      · have E0 : blkE s = 0 := by rw [HE.out, P1.out, hz]; rfl
        have E1 := HNo2.out E0
        have E2 := (HLs2.out E0).trans (P2.out hz)
        have HE0 := Lib.hid E0
        have HE1 := Lib.hid E1
        have HE2 := Lib.hid E2
        rw [hz]
        clear E0 E1 E2 hz
        go_wp2_with (first | (with_reducible refine stop_loadT 41 ?_) | (with_reducible refine stop_storeT 41 ?_))
        refine go_ (wpList_load_row rfl _ _ rfl g9 rfl _ _ _ _ hbox Try.underlying41 rfl (by kernel_rfl) ?_)
        go_wp2_with (first | (with_reducible refine stop_loadT 41 ?_) | (with_reducible refine stop_storeT 41 ?_))
        refine go_ (wpList_store_row rfl _ _ _ rfl w.heap.size #[.int .u32 (no : Int), .slice A3 b.toNat c3] rfl rfl _ _ hresr (by kernel_rfl) rfl (by kernel_rfl) ?_)
        have hres6 := setRow_heap _ _ _ (#[.int .u32 (no : Int), .slice A3 b.toNat c3] : Array Value) _ _ hresr
        have hb6 := below_setRow hb (Nat.le_refl _) (#[.int .u32 (no : Int), .slice A3 b.toNat c3] : Array Value)
        have hown6 := own_aw hown (aw_setRow35 w.heap.size (#[.int .u32 (no : Int), .slice A3 b.toNat c3] : Array Value)) (fun k hk hu => by have := (own_blk hown hk).1; omega)
        generalize (wn.setRow w.heap.size #[.int .u32 (no : Int), .slice A3 b.toNat c3]) = v5 at *
        have e0 := blk_cell (i := 0) (v := .int .u32 (no : Int)) hres6 rfl
        have e1 := blk_cell (i := 1) (v := .slice A3 b.toNat c3) hres6 rfl
        have hrr := RdR.own (ls := pre.map enC) hown6 (by rw [List.length_map]; exact HT.out.2.1) (fun r hr => by obtain ⟨x, hx, rfl⟩ := List.mem_map.1 hr; exact enC_len x (HT.out.2.2.1 x hx).2.1)
        go_wp2
        refine bodyPost_ret (v := .tuple #[.agg #[.int .u32 (no : Int), .slice A3 b.toNat c3], .int .i64 0]) (by simp [results, go_sem, e0, e1]) rfl ⟨A3, b.toNat, c3, by rw [HE1.out, HE0.out]; rfl, by rw [HE2.out]; exact hrr, hb6, ofT_own hown6⟩
      · have E2 : Hid (3 = blkE s) := Lib.hid (by rw [HE.out, P1.out, if_neg hz])
        replace hz : nullB R = false := by simpa using hz
        rw [hz]
        go_wp2_with (first | (with_reducible refine stop_build0 41 ?_))
        refine go_ ?_
        go_wp2_with (first | (with_reducible refine stop_loadT 41 ?_) | (with_reducible refine stop_storeT 41 ?_))
        refine go_ (wpList_store_row rfl _ _ _ rfl w.heap.size #[.int .u32 0, .slice none 0 0] rfl rfl _ _ hresr (by kernel_rfl) rfl (by kernel_rfl) ?_)
        have hresZ := setRow_heap _ _ _ (#[.int .u32 0, .slice none 0 0] : Array Value) _ _ hresr
        have hbZ := below_setRow hb (Nat.le_refl _) (#[.int .u32 0, .slice none 0 0] : Array Value)
        generalize (wn.setRow w.heap.size #[.int .u32 0, .slice none 0 0]) = v5 at *
        have e0 := blk_cell (i := 0) (v := .int .u32 0) hresZ rfl
        have e1 := blk_cell (i := 1) (v := .slice none 0 0) hresZ rfl
        go_wp2
        exact bodyPost_ret (v := .tuple #[.agg #[.int .u32 0, .slice none 0 0], .int .i64 3]) (by simp [results, go_sem, e0, e1]) rfl (blkT_out (oE := 3) E2.out (by omega) hbZ)
    · obtain ⟨m, rfl⟩ : ∃ j, m = j + 1 := ⟨m - 1, by omega⟩
      have hklt : (k : Int) < (b.toNat : Int) := by omega
      have HTV := Lib.hid HT.out.2.2.2.2.1
      have Hent := Lib.hid (entry_any T V Ar nr cr M R ((k : Int) == 0) wr HT.out.2.2.2.1 HT.out.2.2.2.2.1 HT.out.2.2.2.2.2.1 hR hMs (by omega))
      have Hbad := Lib.hid (fun h0 => tkP_bad HT.out h0)
      have Hstep := Lib.hid (fun h0 => tkP_step HT.out h0)
      have Hbk := Lib.hid (fun h0 => ent_back (t := T) (bg := ((k : Int) == 0)) (R := R) HT.out.2.2.2.1 HT.out.2.2.2.2.1 HT.out.2.2.2.2.2.1 h0)
      obtain ⟨x, hx⟩ : ∃ v, v = entX T V ((k : Int) == 0) R := ⟨_, rfl⟩
      obtain ⟨n4, hn4⟩ : ∃ v, v = entN V ((k : Int) == 0) R := ⟨_, rfl⟩
      rw [← hx, ← hn4] at Hent Hbk Hstep
      rw [← hn4] at Hbad
      have HxV : Hid (x.V.length = 12) := Lib.hid (by
        by_cases h0 : n4 = 0
        · rw [hx]
          exact entX_len35 HT.out.2.2.2.1 HT.out.2.2.2.2.1 HT.out.2.2.2.2.2.1
        · exact (Hbk.out h0).2.2.2.1.2.1)
      clear hx hn4
      go_wp2_with (first | (with_reducible refine stop_loadT 25 ?_) | (with_reducible refine stop_storeT 25 ?_) | (with_reducible refine stop_loadG 25 ?_))
      refine go_ (wpList_load_mid rfl _ _ rfl (g9 + 1) 0 rfl _ _ hrc.all Try.underlying25 rfl (by rw [rcC_size T V HTV.out]; kernel_rfl) ?_)
      go_wp2_with fail
      go_fit Hent.out
      rintro e w9 ⟨rfl, hbx⟩
      replace hR := hR.up (hbx.mono hMs)
      replace hbox := blk_old hbox hbx (blk_lt hbox)
      replace hrc : RcB w9 (g9 + 1) T V := blk_old hrc hbx (blk_lt hrc)
      replace hown := own_up hown hbx (Nat.le_refl _)
      replace hS := hS.trans (hbx.mono hMs)
      replace hMs : M ≤ w9.heap.size := by have := blk_lt hbox; omega
      clear hbx hresr hb Hent wr
      go_wp2_with (first | (with_reducible refine stop_loadT 46 ?_) | (with_reducible refine stop_storeT 46 ?_) | (with_reducible refine stop_loadG 46 ?_))
      have hbx : Below w9.heap.size w9 (w9.alloc (.cells #[.bool false, .int .u32 0, .int .i32 0, .int .i32 0, .int .i32 0, .int .i32 0, .int .i32 0, .int .i32 0, .int .i32 0, .int .i32 0, .int .i32 0, .int .i32 0, .int .i32 0, .int .i32 0] 46)) := (Below.refl _ _).alloc (Nat.le_refl _) _
      have r6 := heap_alloc_new w9 (.cells #[.bool false, .int .u32 0, .int .i32 0, .int .i32 0, .int .i32 0, .int .i32 0, .int .i32 0, .int .i32 0, .int .i32 0, .int .i32 0, .int .i32 0, .int .i32 0, .int .i32 0, .int .i32 0] 46)
      have hg69 : g9 + 1 < w9.heap.size := blk_lt hrc
      have hne : ∀ j, (Value.slice A3 k c3).ownBlock = some j → j ≠ w9.heap.size := fun j hj => by have := (own_blk hown hj).2; omega
      replace hR := hR.up (hbx.mono hMs)
      replace hbox := blk_old hbox hbx (blk_lt hbox)
      replace hrc : RcB _ (g9 + 1) T V := blk_old hrc hbx (blk_lt hrc)
      replace hown := own_up hown hbx (Nat.le_refl _)
      replace hS := hS.trans (hbx.mono hMs)
      generalize (w9.alloc (.cells #[.bool false, .int .u32 0, .int .i32 0, .int .i32 0, .int .i32 0, .int .i32 0, .int .i32 0, .int .i32 0, .int .i32 0, .int .i32 0, .int .i32 0, .int .i32 0, .int .i32 0, .int .i32 0] 46)) = wa at *
      generalize w9.heap.size = g6 at *
      replace r6 : EnB wa g6 zen := r6
      clear hbx w9
      refine go_ (wpList_store_row rfl _ _ _ rfl g6 (enC x).toArray rfl rfl _ _ r6 (by rw [List.size_toArray, enC_len x HxV.out]; kernel_rfl) (by rw [List.size_toArray, List.size_toArray, enC_len x HxV.out]; rfl) (all_oneCell_toArray (enC_one x)) ?_)
      obtain ⟨x6, hAz⟩ := en_store x HxV.out wa g6 r6
      have hBz := below_awG (Below.refl M wa) hAz (fun k hk => by omega) (by have := blk_lt r6; omega)
      replace hown := own_aw hown hAz (fun j hj hu => hne j hj hu)
      replace hrc : RcB _ (g9 + 1) T V := hAz.keep hrc (by omega)
      replace hbox := hAz.keep hbox (by omega)
      replace hR := hR.up hBz
      replace hS := hS.trans hBz
      generalize (wa.setRow g6 (enC x).toArray) = wb at *
      clear hAz hBz r6 wa
      by_cases h0 : n4 = 0
      · have E2 : Hid (3 = blkE s) := Lib.hid (by rw [HE.out, Hpn.out (Hbad.out h0)]; rfl)
        have hresr := (hS.block _ hMl).trans hres2
        have hb := hb2.trans (hS.mono (Nat.le_of_lt hMl))
        subst h0
        rw [show ((0 : Nat) : Int) = 0 from rfl]
        go_wp2_with (first | (with_reducible refine stop_build0 41 ?_))
        refine go_ ?_
        go_wp2_with (first | (with_reducible refine stop_loadT 41 ?_) | (with_reducible refine stop_storeT 41 ?_))
        refine go_ (wpList_store_row rfl _ _ _ rfl w.heap.size #[.int .u32 0, .slice none 0 0] rfl rfl _ _ hresr (by kernel_rfl) rfl (by kernel_rfl) ?_)
        have hresZ := setRow_heap _ _ _ (#[.int .u32 0, .slice none 0 0] : Array Value) _ _ hresr
        have hbZ := below_setRow hb (Nat.le_refl _) (#[.int .u32 0, .slice none 0 0] : Array Value)
        generalize (wb.setRow w.heap.size #[.int .u32 0, .slice none 0 0]) = v5 at *
        have e0 := blk_cell (i := 0) (v := .int .u32 0) hresZ rfl
        have e1 := blk_cell (i := 1) (v := .slice none 0 0) hresZ rfl
        go_wp2
        exact bodyPost_ret (v := .tuple #[.agg #[.int .u32 0, .slice none 0 0], .int .i64 3]) (by simp [results, go_sem, e0, e1]) rfl (blkT_out (oE := 3) E2.out (by omega) hbZ)
      have h0' : ¬ (n4 : Int) = 0 := by omega
      obtain ⟨_, hle4, _, _, _⟩ := Hbk.out h0
      rw [hR.blen] at hle4
      have hcutn : ∀ w, (Instr.slice 26 (.slice Ar nr cr) (some (.int .i64 (n4 : Int))) none none).run Try.prog w = .ok (.slice (cutA Ar cr n4 1) (nr - n4) (cr - n4)) w := run_cut_l (P := Try.prog) Try.underlying26 Hi.out.1 Hi.out.2.2.1 Ar nr cr n4 hle4
      have hRn := hR.bdrop hle4
      have k1 : wb.cell? ⟨g9, 1, none⟩ = some (.slice A3 k c3) := blk_cell hbox rfl
      go_wp2_with (first | (with_reducible refine stop_loadT 46 ?_) | (with_reducible refine stop_storeT 46 ?_) | (with_reducible refine stop_loadG 46 ?_))
      refine go_ (wpList_load_mid rfl _ _ rfl g6 0 rfl _ _ x6.all Try.underlying46 rfl (by rw [enC_len x HxV.out]; kernel_rfl) ?_)
      go_wp2_with (with_reducible refine stop_bs ?_)
      refine go_ (wpList_bs1 Try.underlying39 Hi1.out (by kernel_rfl) (by omega) (by omega) (enC_len x HxV.out) rfl ?_)
      have hbn : Below wb.heap.size wb (wb.alloc (.cells (enC x).toArray 46)) := (Below.refl _ _).alloc (Nat.le_refl _) _
      have hrd : Rd (wb.alloc (.cells (enC x).toArray 46)) (wb.heap.size + 1) 14 (some ⟨wb.heap.size, 0, none⟩) 1 1 (enC x) := by
        have := (RdR.lit (size := 14) (e := 46) wb [enC x] (enC x).toArray (by simp) (by intro r hr; rw [List.mem_singleton.1 hr]; exact enC_len x HxV.out) (by simp [maxLen]) 1 rfl).rd (by omega)
        simpa using this
      replace hMs : M ≤ wb.heap.size := by have := blk_lt hbox; omega
      replace hRn := hRn.up (hbn.mono hMs)
      replace hbox := blk_old hbox hbn (blk_lt hbox)
      replace hrc : RcB _ (g9 + 1) T V := blk_old hrc hbn (blk_lt hrc)
      replace x6 : EnB _ g6 x := blk_old x6 hbn (blk_lt x6)
      replace hown := own_up hown hbn (Nat.le_refl _)
      replace hS := hS.trans (hbn.mono hMs)
      clear hbn k1 hR
      generalize (wb.alloc (.cells (enC x).toArray 46)) = wc at *
      generalize wb.heap.size = gb at *
      clear hMs wb
      go_wp2_with (at_builtin; refine stop_ ?_)
      refine go_ (wpList_appG (base := g9 + 2) (n := k) Try.underlying39 Hi1.out (by kernel_rfl) (by omega) hown rfl hrd rfl (enC_one x) (k := k + 1) (ys := ((pre ++ [x]).map enC).flatten) rfl (by simp) (by unfold maxLen; omega) (by omega) (by have := blk_lt hrc; omega) ?_)
      intro A7 c7 wd hown7 hgr hob
      have hne6 : ∀ j, (Value.slice A3 k c3).ownBlock = some j → g9 + 1 < j := fun j hj => by have := (own_blk hown hj).1; omega
      have hne7 : ∀ j, (Value.slice A7 (k + 1) c7).ownBlock = some j → g9 + 1 < j := fun j hj => by have := (own_blk hown7 hj).1; omega
      replace hbox := (hgr.block _ (blk_lt hbox) (fun e => by have := hne6 _ e.symm; omega)).trans hbox
      replace hrc : RcB wd (g9 + 1) T V := (hgr.block _ (blk_lt hrc) (fun e => by have := hne6 _ e.symm; omega)).trans hrc
      replace x6 : EnB wd g6 x := (hgr.block _ (blk_lt x6) (fun e => hne _ e.symm rfl)).trans x6
      have hBd : Below M wc wd := Below.grown (Below.refl M wc) hgr (by have := hS.size; have := HM.out; omega) (fun j hj => by have := hne6 j hj; omega)
      replace hRn := hRn.up hBd
      replace hS := hS.trans hBd
      clear hgr hob hown hBd hrd hne hne6
      have s1 : wd.cell? ⟨g9, 1, none⟩ = some (.slice A3 k c3) := blk_cell hbox rfl
      have s2 : wd.frozen? ⟨g9, 1, none⟩ = false := blk_free (i := 1) hbox
      have hbox8 := blk_set (i := 1) hbox (.slice A7 (k + 1) c7)
      have haw8 : Aw (fun j => j = g9) wd (wd.setCell ⟨g9, 1, none⟩ (.slice A7 (k + 1) c7)) := (Aw.refl _ _).set (p := ⟨g9, 1, none⟩) _ rfl
      have hrc8 : RcB _ (g9 + 1) T V := haw8.keep hrc (by omega)
      have hown8 := own_aw hown7 haw8 (fun j hj hu => by have := hne7 j hj; omega)
      have hB8 := below_awG (Below.refl M wd) haw8 (fun j hj => by omega) (by have := blk_lt hrc; omega)
      have hR8 := hRn.up hB8
      have hS8 := hS.trans hB8
      have x68 : EnB _ g6 x := haw8.keep x6 (by omega)
      clear hB8 haw8 hRn hS hown7 hrc x6
      go_wp2_with fail
      clear s1 s2 hbox
      generalize (wd.setCell ⟨g9, 1, none⟩ (.slice A7 (k + 1) c7)) = we at *
      clear wd
      refine Ord.region_ (fun w' => EnB w' g6 x) false [] (by kernel_rfl) (by kernel_rfl) x68 ?_
      replace x68 : EnB we.drew g6 x := x68
      replace hbox8 : we.drew.heap[g9]? = _ := hbox8
      replace hrc8 : RcB we.drew (g9 + 1) T V := hrc8
      replace hown8 := own_up hown8 (w' := we.drew) (Below.refl _ _).drew (Nat.le_refl _)
      replace hR8 := hR8.up (w' := we.drew) (Below.refl _ _).drew
      replace hS8 := hS8.drew
      generalize we.drew = wf at *
      ((with_reducible refine Ord.e_p (v := ?_) ?_ ?_ ?_ ?_); rotate_left; (· exact rfl); (· kernel_rfl); (· intro w2; go_simp; try with_reducible rfl))
      (try simp only [Act.put, List.setIfInBounds_toArray, List.set_cons_zero, List.set_cons_succ])
      refine Ord.e_rowS (b := g6) (o := 1) Try.underlying25 rfl (by rw [rcC_size x.t x.V HxV.out]; kernel_rfl) rfl (by unfold rcC; simp) (fun w' hS => (show EnB w' g6 x from hS).rec_) x68 (by kernel_rfl) ?_
      (try simp only [Act.put, List.setIfInBounds_toArray, List.set_cons_zero, List.set_cons_succ])
      ((with_reducible refine Ord.e_p (v := ?_) ?_ ?_ ?_ ?_); rotate_left; (· exact rfl); (· kernel_rfl); (· intro w2; go_simp; try with_reducible rfl))
      (try simp only [Act.put, List.setIfInBounds_toArray, List.set_cons_zero, List.set_cons_succ])
      ((with_reducible refine Ord.e_p (v := ?_) ?_ ?_ ?_ ?_); rotate_left; (· exact rfl); (· kernel_rfl); (· intro w2; go_simp; try with_reducible rfl))
      (try simp only [Act.put, List.setIfInBounds_toArray, List.set_cons_zero, List.set_cons_succ])
      ((with_reducible refine Ord.e_p (v := ?_) ?_ ?_ ?_ ?_); rotate_left; (· exact rfl); (· kernel_rfl); (· intro w2; go_simp; try with_reducible rfl))
      (try simp only [Act.put, List.setIfInBounds_toArray, List.set_cons_zero, List.set_cons_succ])
      refine Ord.e_x rfl (by kernel_rfl) ?_
      refine wpList_store_row rfl _ _ _ rfl (g9 + 1) (rcC x.t x.V).toArray rfl rfl _ _ hrc8 (by rw [List.size_toArray, rcC_size x.t x.V HxV.out]; kernel_rfl) (by rw [List.size_toArray, List.size_toArray, rcC_size x.t x.V HxV.out, rcC_size T V HTV.out]) (all_oneCell_toArray (rcC_one x.t x.V)) ?_
      obtain ⟨hz, hAz⟩ := rc_store x.t x.V HxV.out wf (g9 + 1) hrc8
      have hBz := below_awG (Below.refl M wf) hAz (fun k hk => by omega) (by have := blk_lt hrc8; omega)
      have hown9 := own_aw hown8 hAz (fun j hj hu => by have := hne7 j hj; omega)
      have hbox9 := hAz.keep hbox8 (by omega)
      have x69 : EnB _ g6 x := hAz.keep x68 (by omega)
      have hR9 := hR8.up hBz
      have hS9 := hS8.trans hBz
      generalize (wf.setRow (g9 + 1) (rcC x.t x.V).toArray) = wg at *
      go_wp2_with fail
      refine Ord.Seg.go x69 (fun h => by cases h) ?_
      (try simp only [Act.put, List.setIfInBounds_toArray, List.set_cons_zero, List.set_cons_succ])
      ((with_reducible refine Ord.e_p (v := ?_) ?_ ?_ ?_ ?_); rotate_left; (· exact rfl); (· kernel_rfl); (· intro w2; go_simp; try with_reducible rfl))
      (try simp only [Act.put, List.setIfInBounds_toArray, List.set_cons_zero, List.set_cons_succ])
      refine Ord.e_nil ?_
      clear hAz hBz hrc8 hown8 hbox8 x68 x69 hR8 hS8
      go_wp2
      go_roundw
      case rel => exact ⟨k + 1, m, nr - n4, pre ++ [x], R.drop n4, cutA Ar cr n4 1, A7, cr - n4, c7, x.t, x.V, rfl, by go_num, by omega, by omega, by omega, hR9, hbox9, hz, hown9, hS9, Lib.hid (Hstep.out h0)⟩
      case measure => simp [intOf]; omega

theorem blkTake_any (A : Option Addr) (n c B : Nat) (s : List UInt8) (w : World) (h : Rd w B 1 A n c (bv s)) (hB : B ≤ w.heap.size) (hn : n ≤ 1000000) :
    Calls Try.prog 39 #[.slice A n c] w (RetTBk s w) :=
  (blkTake_new A n c B s w h hB hn).mono fun _ _ h => h.any

end Go.Proofs.Ytplgcfjcdjlnbaa
