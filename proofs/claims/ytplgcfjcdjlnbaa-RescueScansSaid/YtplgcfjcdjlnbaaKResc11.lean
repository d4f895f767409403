/-
  What is found, as rows; the document's Scan, found walked (printed by gen_resc11.py).
-/
import Derived.Test.YtplgcfjcdjlnbaaKRescTr
set_option linter.unusedSimpArgs false
set_option linter.unusedVariables false
namespace Go.Proofs.Ytplgcfjcdjlnbaa
open Go.RowKit NumLaw CrcLaw
attribute [local go_sem] Addr.add_mid

/-- A block that was found: its place, its number, the slice of its entries, and what they are. -/
structure FdT where
  p : Nat
  no : Nat
  A : Option Addr
  n : Nat
  c : Nat
  L : List En
def fdC (f : FdT) : List Value := [.int .i64 (f.p : Int), .int .u32 (f.no : Int), .slice f.A f.n f.c]
def fdK (f : FdT) : Nat × Nat × List En := (f.p, f.no, f.L)
def fndS (l : List UInt8) (P : List Nat) : List (Nat × Nat × List En) := P.map fun p => (p, blkNo (pgP l p), blkL (pgP l p))
/-- The entries lie in memory of entries. -/
def FdE (w : World) (f : FdT) : Prop := RdE w w.heap.size f.A f.n f.c f.L ∧ OfT w 46 (.slice f.A f.n f.c) ∧ f.no < 4294967296
def RdFd (w : World) (B : Nat) (A : Option Addr) (n c : Nat) (G : List FdT) : Prop := RdR w B 3 A n c (G.map fdC)
def RetFd (F : List (Nat × Nat × List En)) (w : World) (e : Ending) (w' : World) : Prop :=
  ∃ (A : Option Addr) (n c : Nat) (G : List FdT), e = .returned (.slice A n c) ∧ RdFd w' w'.heap.size A n c G ∧ (∀ f ∈ G, FdE w' f) ∧ G.map fdK = F ∧ Below w.heap.size w w'
theorem fd_one (f : FdT) : ∀ u ∈ fdC f, u.oneCell' = true := fun u hu => by
  simp only [fdC, List.mem_cons, List.not_mem_nil, or_false] at hu
  rcases hu with rfl | rfl | rfl <;> rfl
theorem fd_len (G : List FdT) : ∀ r ∈ G.map fdC, r.length = 3 := fun r hr => by obtain ⟨f, _, rfl⟩ := List.mem_map.1 hr; rfl
theorem RdFd.at_ {w : World} {B : Nat} {A : Option Addr} {n c : Nat} {G : List FdT} (h : RdFd w B A n c G) {k : Nat} (hk : k < n) : ∃ g off x, A = some ⟨g, off, none⟩ ∧ g < B ∧ G[k]? = some x ∧ w.rangeAt g (off + k * 3) (fdC x) := by
  obtain ⟨g, off, r, h1, h2, h3, h4, h5⟩ := RdR.at_ h hk
  rw [List.getElem?_map] at h3
  cases hx : G[k]? with
  | none => rw [hx] at h3; cases h3
  | some x =>
    rw [hx] at h3
    injection h3 with h3
    subst h3
    exact ⟨g, off, x, h1, h2, rfl, h5⟩
theorem RdFd.len {w : World} {B : Nat} {A : Option Addr} {n c : Nat} {G : List FdT} (h : RdFd w B A n c G) : G.length = n := by have := h.1; rwa [List.length_map] at this
theorem FdE.nx {w w' : World} {f : FdT} (h : FdE w f) (hb : Below w.heap.size w w') : FdE w' f := ⟨RdR.nx h.1 hb, ofT_below h.2.1 hb, h.2.2⟩
/-- What turns no memory of entries leaves them. -/
theorem FdE.aw {U : Nat → Prop} {w w' : World} {f : FdT} (h : FdE w f) (ha : Aw U w w') (hu : ∀ k, U k → ∀ cur, w.heap[k]? ≠ some (.cells cur 46 (0, 0))) : FdE w' f := by
  refine ⟨?_, ofT_aw h.2.1 ha hu, h.2.2⟩
  have h1 := h.1
  have h2 := h.2.1
  unfold RdE at h1 ⊢
  refine ⟨h1.1, h1.2.1, h1.2.2.1, h1.2.2.2.1, fun hn => ?_⟩
  obtain ⟨g', off, e, hlt, hr⟩ := h1.2.2.2.2 hn
  have hne : ¬ U g' := fun hk => by
    obtain ⟨cur, hc⟩ := h2 g' (by rw [e]; rfl)
    exact hu g' hk cur hc
  refine ⟨g', off, e, by have := ha.size; omega, fun k r hk j v hv => ?_⟩
  have := hr k r hk j v hv
  rw [World.cell?] at this ⊢
  rw [show (⟨g', off + k * 14 + j, none⟩ : Addr).block = g' from rfl] at this ⊢
  rw [ha.block g' hlt hne]
  exact this
/-- An owned row of another type is no memory of entries. -/
theorem own_other {w : World} {base : Nat} {e t : TypeId} {size n : Nat} {v : Value} {xs : List Value} (h : w.ownsRow base e size v n xs) (hne : e ≠ t) : ∀ k, v.ownBlock = some k → ∀ cur, w.heap[k]? ≠ some (.cells cur t (0, 0)) := fun k hk cur hc => by
  obtain ⟨cur', hc'⟩ := ofT_own h k hk
  rw [hc'] at hc
  injection hc with hc
  injection hc with _ h2 _
  exact hne h2
def FdS (w : World) (l : List UInt8) (pre : List Nat) (G : List FdT) (n : Nat) : Prop := G.length = n ∧ G.map fdK = fndS l pre ∧ ∀ f ∈ G, FdE w f
theorem FdS.nx {w w' : World} {l : List UInt8} {pre : List Nat} {G : List FdT} {n : Nat} (h : FdS w l pre G n) (hb : Below w.heap.size w w') : FdS w' l pre G n := ⟨h.1, h.2.1, fun f hf => (h.2.2 f hf).nx hb⟩
theorem FdS.aw {U : Nat → Prop} {w w' : World} {l : List UInt8} {pre : List Nat} {G : List FdT} {n : Nat} (h : FdS w l pre G n) (ha : Aw U w w') (hu : ∀ k, U k → ∀ cur, w.heap[k]? ≠ some (.cells cur 46 (0, 0))) : FdS w' l pre G n := ⟨h.1, h.2.1, fun f hf => (h.2.2 f hf).aw ha hu⟩
theorem FdS.snoc {w : World} {l : List UInt8} {pre : List Nat} {G : List FdT} {n : Nat} (h : FdS w l pre G n) {f : FdT} (hf : FdE w f) {p : Nat} (hk : fdK f = (p, blkNo (pgP l p), blkL (pgP l p))) : FdS w l (pre ++ [p]) (G ++ [f]) (n + 1) := by
  refine ⟨by rw [List.length_append, h.1]; rfl, by rw [List.map_append, h.2.1]; unfold fndS; rw [List.map_append, List.map_cons, List.map_nil, List.map_cons, List.map_nil, hk], fun g hg => ?_⟩
  rcases List.mem_append.1 hg with hg | hg
  · exact h.2.2 g hg
  · rw [List.mem_singleton.1 hg]; exact hf
theorem fd_flat (G : List FdT) (f : FdT) : (G.map fdC).flatten ++ fdC f = ((G ++ [f]).map fdC).flatten := by simp
theorem qfd_info : (Try.prog.info? 146).map (fun i => (i.zero, i.size, i.bytes)) = some (some (.agg #[.int .i64 0, .int .u32 0, .slice none 0 0]), 3, 40) := by kernel_rfl
theorem fd_info : (Try.prog.info? 102).map (fun i => (i.zero, i.size, i.bytes)) = some (some (.agg #[.int .i64 0, .int .u32 0, .slice none 0 0]), 3, 40) := by kernel_rfl
theorem no_lt (s : List UInt8) : blkNo s < 4294967296 := by
  by_cases he : blkE s = 0
  · exact (blk_back he).2.2.1
  · rw [(blk_bad he).1]; omega

set_option maxRecDepth 10000 in
set_option maxHeartbeats 8000000 in
theorem qscan_any (A : Option Addr) (n c B : Nat) (l : List UInt8) (w : World) (h : Rd w B 1 A n c (bv l)) (hB : B ≤ w.heap.size) (hn : n ≤ 100000) :
    Calls Try.prog 64 #[.slice A n c] w (RetFd (fndS l (scnAll l)) w) := by
  have hlb := h.blen
  have hle := h.le
  have hmx := h.max
  unfold maxLen at hmx
  obtain ⟨i0, hi⟩ := info_parts u8_info
  obtain ⟨i1, hi1⟩ := info_parts qfd_info
  have Hi := Lib.hid hi
  have Hi1 := Lib.hid hi1
  have Hlb := Lib.hid hlb
  obtain ⟨xs, hxs⟩ : ∃ v, v = scnAll l := ⟨_, rfl⟩
  have Hxs := Lib.hid hxs
  rw [← hxs]
  clear hlb hi hi1 hxs
  go_enter Try.func64, Try.ntmps64
  go_wp2_with fail
  go_loopw [3, 4] (fun o at_ wr => ∃ (p f n3 c3 : Nat) (A3 : Option Addr) (pre : List Nat) (G : List FdT), p ≤ n ∧ n3 ≤ p ∧ at_ = .int .i64 p ∧ o = .slice A3 n3 c3 ∧ Below w.heap.size w wr ∧ wr.ownsRow w.heap.size 146 3 (.slice A3 n3 c3) n3 (G.map fdC).flatten ∧ Hid (FdS wr l pre G n3) ∧ Hid (xs = pre ++ scnP l f p ∧ n < f + p)) (fun _ i _ => n - (intOf i).toNat)
  case atStart => exact ⟨0, n + 1, 0, 0, none, [], [], by omega, by omega, rfl, rfl, Below.refl _ _, World.ownsRow_nil _ _ _ _, Lib.hid ⟨rfl, rfl, by simp⟩, Lib.hid ⟨by rw [Hxs.out]; unfold scnAll; rw [Hlb.out]; rfl, by omega⟩⟩
  case round =>
    obtain ⟨p, f, n3, c3, A3, pre, G, hp, hn3, rfl, rfl, hb, own3, HG, Hp⟩ := hrel
    have hwk : IntKind.i64.wrap ((p : Int) + 256) = (p : Int) + 256 := IntWalk.i64_in _ (by omega)
    by_cases hlt : p + 256 ≤ n
    · have hlt' : (p : Int) + 256 ≤ (n : Int) := by omega
      obtain ⟨f', hf, hst⟩ := scnP_step (l := l) (f := f) (p := p) (by rw [Hlb.out]; exact hlt) (by rw [Hlb.out]; exact Hp.out.2)
      have Hst := Lib.hid hst
      have Hf := Lib.hid (show n < f' + 1 + p by rw [← hf]; exact Hp.out.2)
      have hr := h.up (hb.mono hB)
      have hpg : Rd wr B 1 (cutA A c p 1) 256 (c - p) (bv (pgP l p)) := (hr.bdrop (k := p) (by omega)).btake (k := 256) (by omega)
      have htk := qblkTake_new (cutA A c p 1) 256 (c - p) B (pgP l p) wr hpg (Nat.le_trans hB hb.size) (by omega)
      have Htk := Lib.hid htk
      have hno := no_lt (pgP l p)
      have HdE : Hid ((((blkE (pgP l p) : Nat) : Int) == 0) = decide (blkE (pgP l p) = 0)) := Lib.hid (by rw [Bool.eq_iff_iff]; simp)
      have hcut : ∀ w, (Instr.slice 26 (.slice A n c) (some (.int .i64 (p : Int))) (some (.int .i64 ((p : Int) + 256))) none).run Try.prog w = .ok (.slice (cutA A c p 1) 256 (c - p)) w := fun w => by
        have := run_cut_lh (P := Try.prog) Try.underlying26 Hi.out.1 Hi.out.2.2.1 A n c p (p + 256) (by omega) (by omega) w
        rwa [show ((p + 256 : Nat) : Int) = (p : Int) + 256 by omega, show p + 256 - p = 256 by omega] at this
      clear hr hpg htk hst hf
      go_wp2_with fail
      go_fit Htk.out
      unfold RetTBn
      rintro e w2 ⟨A2, n2, c2, rfl, hr2, hbx, ho2⟩
      have hbn : Below w2.heap.size w2 (w2.alloc (.cells #[.int .u32 (blkNo (pgP l p) : Int), .slice A2 n2 c2] 41)) := (Below.refl _ _).alloc (Nat.le_refl _) _
      have hx3 := heap_alloc_new w2 (.cells #[.int .u32 (blkNo (pgP l p) : Int), .slice A2 n2 c2] 41)
      have k0 := blk_cell (i := 0) (v := .int .u32 (blkNo (pgP l p) : Int)) hx3 rfl
      have k1 := blk_cell (i := 1) (v := .slice A2 n2 c2) hx3 rfl
      have hE : FdE (w2.alloc (.cells #[.int .u32 (blkNo (pgP l p) : Int), .slice A2 n2 c2] 41)) ⟨p, blkNo (pgP l p), A2, n2, c2, blkL (pgP l p)⟩ := FdE.nx ⟨hr2, ho2, hno⟩ hbn
      have hb3 := bnx (bnx hb hbx) hbn
      replace own3 := own_up (own_up own3 hbx (Nat.le_refl _)) hbn (Nat.le_refl _)
      have HG3 := Lib.hid ((HG.out.nx hbx).nx hbn)
      clear hcut Htk hbx hbn hr2 ho2 hb hx3 HG
      by_cases hE0 : blkE (pgP l p) = 0
      · rw [hE0, show ((0 : Nat) : Int) = 0 from rfl]
        have Hst2 := Lib.hid (show xs = (pre ++ [p]) ++ scnP l f' (p + 256) by rw [Hp.out.1, Hst.out, if_pos hE0, List.append_assoc]; rfl)
        have hz3 := Lib.hid (World.size_alloc w2 (.cells #[.int .u32 (blkNo (pgP l p) : Int), .slice A2 n2 c2] 41))
        clear HdE Hst
        have hbn : Below (w2.alloc (.cells #[.int .u32 (blkNo (pgP l p) : Int), .slice A2 n2 c2] 41)).heap.size (w2.alloc (.cells #[.int .u32 (blkNo (pgP l p) : Int), .slice A2 n2 c2] 41)) ((w2.alloc (.cells #[.int .u32 (blkNo (pgP l p) : Int), .slice A2 n2 c2] 41)).alloc (.cells #[.int .i64 (p : Int), .int .u32 (blkNo (pgP l p) : Int), .slice A2 n2 c2] 146)) := (Below.refl _ _).alloc (Nat.le_refl _) _
        have hrd : Rd _ _ 3 _ 1 1 (fdC ⟨p, blkNo (pgP l p), A2, n2, c2, blkL (pgP l p)⟩) := RdR.rd (RdR.lit (size := 3) (e := 146) (w2.alloc (.cells #[.int .u32 (blkNo (pgP l p) : Int), .slice A2 n2 c2] 41)) [fdC ⟨p, blkNo (pgP l p), A2, n2, c2, blkL (pgP l p)⟩] #[.int .i64 (p : Int), .int .u32 (blkNo (pgP l p) : Int), .slice A2 n2 c2] rfl (by intro r hr; rw [List.mem_singleton.1 hr]; rfl) (by simp [maxLen]) 1 rfl) (by omega)
        rw [hz3.out] at hrd
        have hb4 := bnx hb3 hbn
        have own4 := own_up own3 hbn (Nat.le_refl _)
        have hE4 := hE.nx hbn
        have HG4 := Lib.hid (HG3.out.nx hbn)
        clear own3 hE HG3 hb3 hbn
        go_wp2_with (at_builtin; refine stop_ ?_)
        generalize ((w2.alloc (.cells #[.int .u32 (blkNo (pgP l p) : Int), .slice A2 n2 c2] 41)).alloc (.cells #[.int .i64 (p : Int), .int .u32 (blkNo (pgP l p) : Int), .slice A2 n2 c2] 146)) = w4 at *
        refine go_ (wpList_appG (base := w.heap.size) (n := n3) Try.underlying96 Hi1.out rfl (by omega) own4 rfl hrd rfl (fd_one _) (k := n3 + 1) rfl (fd_flat _ _) (by unfold maxLen; omega) (by omega) hb4.size ?_)
        clear k0 k1
        intro A5 c5 w5 own5 hgr hob
        have haw5 := Aw.of_grown hgr
        have hun := own_other own4 (t := 46) (by decide)
        have hb5 := Below.grown hb4 hgr hb4.size (fun j hj => (own_blk own4 hj).1)
        have HG5 := Lib.hid ((HG4.out.aw haw5 hun).snoc (hE4.aw haw5 hun) rfl)
        clear hgr hob own4 hrd HG4 hE4 hb4 haw5 hun
        go_wp2
        go_roundw
        case rel => exact ⟨p + 256, f', n3 + 1, c5, A5, pre ++ [p], _, by omega, by omega, by go_num, rfl, hb5, own5, HG5, Lib.hid ⟨Hst2.out, by have := Hf.out; omega⟩⟩
        case measure => simp [intOf]; omega
      · have hne : ¬ (blkE (pgP l p) : Int) = 0 := by omega
        have hnq : ((blkE (pgP l p) : Int) == 0) = false := by rw [beq_eq_false_iff_ne]; exact hne
        have Hst2 := Lib.hid (show xs = pre ++ scnP l f' (p + 1) by rw [Hp.out.1, Hst.out, if_neg hE0])
        clear HdE Hst hE k0 k1
        go_wp2
        go_roundw
        case rel => exact ⟨p + 1, f', n3, c3, A3, pre, G, by omega, by omega, by go_num, rfl, hb3, own3, HG3, Lib.hid ⟨Hst2.out, by have := Hf.out; omega⟩⟩
        case measure => simp [intOf]; omega
    · have hlt' : ¬ (p : Int) + 256 ≤ (n : Int) := by omega
      have he : xs = pre := by rw [Hp.out.1, scnP_end (by rw [Hlb.out]; exact hlt), List.append_nil]
      have hrf : RdFd wr wr.heap.size A3 n3 c3 G := RdR.own (ls := G.map fdC) own3 (by rw [List.length_map]; exact HG.out.1) (fd_len G)
      have He := Lib.hid he
      clear own3 he
      go_wp2
      go_ret
      exact ⟨A3, n3, c3, G, rfl, hrf, HG.out.2.2, by rw [He.out]; exact HG.out.2.1, hb⟩

set_option maxRecDepth 10000 in
set_option maxHeartbeats 8000000 in
theorem found_any (A : Option Addr) (n c : Nat) (G : List FdT) (w : World) (h : RdFd w w.heap.size A n c G) (hG : ∀ f ∈ G, FdE w f) (hn : n ≤ 100000) :
    Calls Try.prog 63 #[.slice A n c] w fun e w' => ∃ (A' : Option Addr) (c' : Nat), e = .returned (.slice A' n c') ∧ RdFd w' w'.heap.size A' n c' G ∧ (∀ f ∈ G, FdE w' f) ∧ Below w.heap.size w w' := by
  have hll := h.len
  have hmx := h.2.2.2.1
  have hle := h.2.2.1
  unfold maxLen at hmx
  obtain ⟨i1, hi1⟩ := info_parts qfd_info
  have Hi1 := Lib.hid hi1
  have Hll := Lib.hid hll
  clear hll hi1
  go_enter Try.func63, Try.ntmps63
  go_wp2_with fail
  go_loopw [3, 4] (fun o i wr => ∃ (k c3 : Nat) (A3 : Option Addr), k ≤ n ∧ i = .int .i64 k ∧ o = .slice A3 k c3 ∧ Below w.heap.size w wr ∧ wr.ownsRow w.heap.size 146 3 (.slice A3 k c3) k ((G.take k).map fdC).flatten) (fun _ i _ => n - (intOf i).toNat)
  case atStart => exact ⟨0, 0, none, by omega, rfl, rfl, Below.refl _ _, World.ownsRow_nil _ _ _ _⟩
  case round =>
    obtain ⟨k, c3, A3, hk, rfl, rfl, hb, own3⟩ := hrel
    by_cases hlt : k < n
    · have hlt' : (k : Int) < (n : Int) := by omega
      obtain ⟨g, off, x, rfl, hg, hx, hr⟩ := RdFd.at_ h hlt
      have Hr := Lib.hid (show ∀ wq, Below w.heap.size w wq → wq.rangeAt g (off + k * 3) (fdC x) from fun wq hbq j v hv => (hbq.cell (p := ⟨g, off + k * 3 + j, none⟩) hg).trans (hr j v hv))
      have Htx := Lib.hid (take_succ hx)
      obtain ⟨p, no, A2, n2, c2, L2⟩ := x
      clear hx hr
      go_wp2_with fail
      refine Ord.region_ (fun w' => Below w.heap.size w w') false [] (by kernel_rfl) (by kernel_rfl) hb.drew ?_
      replace hb := hb.drew
      replace own3 := own_up own3 (w' := wr.drew) (Below.refl _ _).drew (Nat.le_refl _)
      generalize wr.drew = wd at *
      ((with_reducible refine Ord.e_p (v := ?_) ?_ ?_ ?_ ?_); rotate_left; (· exact rfl); (· kernel_rfl); (· intro w2; go_simp; try with_reducible rfl))
      (try simp only [Act.put, List.setIfInBounds_toArray, List.set_cons_zero, List.set_cons_succ])
      ((with_reducible refine Ord.e_p (v := ?_) ?_ ?_ ?_ ?_); rotate_left; (· exact rfl); (· kernel_rfl); (· intro w2; go_simp; try with_reducible rfl))
      (try simp only [Act.put, List.setIfInBounds_toArray, List.set_cons_zero, List.set_cons_succ])
      ((with_reducible refine Ord.e_p (v := ?_) ?_ ?_ ?_ ?_); rotate_left; (· exact rfl); (· kernel_rfl); (· intro w2; go_simp; try with_reducible rfl))
      (try simp only [Act.put, List.setIfInBounds_toArray, List.set_cons_zero, List.set_cons_succ])
      ((with_reducible refine Ord.e_p (v := ?_) ?_ ?_ ?_ ?_); rotate_left; (· exact rfl); (· kernel_rfl); (· intro w2; go_simp; try with_reducible rfl))
      (try simp only [Act.put, List.setIfInBounds_toArray, List.set_cons_zero, List.set_cons_succ])
      ((with_reducible refine Ord.e_p (v := ?_) ?_ ?_ ?_ ?_); rotate_left; (· exact rfl); (· kernel_rfl); (· intro w2; go_simp; try with_reducible rfl))
      (try simp only [Act.put, List.setIfInBounds_toArray, List.set_cons_zero, List.set_cons_succ])
      refine Ord.e_loadS (ad := ⟨g, off + k * 3, none⟩) (v := .int .i64 (p : Int)) Try.underlying3 rfl (fun w' hS => Hr.out w' hS 0 _ rfl) hb rfl (by kernel_rfl) ?_
      (try simp only [Act.put, List.setIfInBounds_toArray, List.set_cons_zero, List.set_cons_succ])
      ((with_reducible refine Ord.e_p (v := ?_) ?_ ?_ ?_ ?_); rotate_left; (· exact rfl); (· kernel_rfl); (· intro w2; go_simp; try with_reducible rfl))
      (try simp only [Act.put, List.setIfInBounds_toArray, List.set_cons_zero, List.set_cons_succ])
      ((with_reducible refine Ord.e_p (v := ?_) ?_ ?_ ?_ ?_); rotate_left; (· exact rfl); (· kernel_rfl); (· intro w2; go_simp; try with_reducible rfl))
      (try simp only [Act.put, List.setIfInBounds_toArray, List.set_cons_zero, List.set_cons_succ])
      ((with_reducible refine Ord.e_p (v := ?_) ?_ ?_ ?_ ?_); rotate_left; (· exact rfl); (· kernel_rfl); (· intro w2; go_simp; try with_reducible rfl))
      (try simp only [Act.put, List.setIfInBounds_toArray, List.set_cons_zero, List.set_cons_succ])
      ((with_reducible refine Ord.e_p (v := ?_) ?_ ?_ ?_ ?_); rotate_left; (· exact rfl); (· kernel_rfl); (· intro w2; go_simp; try with_reducible rfl))
      (try simp only [Act.put, List.setIfInBounds_toArray, List.set_cons_zero, List.set_cons_succ])
      refine Ord.e_rowS (cs := [.int .u32 (no : Int), .slice A2 n2 c2]) (b := g) (o := off + k * 3 + 1) Try.underlying41 rfl (by kernel_rfl) rfl (by simp) (fun w' hS j v hv => (by
        have := Hr.out w' hS (1 + j) v (by unfold fdC; rw [Nat.add_comm, List.getElem?_cons_succ]; exact hv)
        rwa [← Nat.add_assoc] at this)) hb (by kernel_rfl) ?_
      (try simp only [Act.put, List.setIfInBounds_toArray, List.set_cons_zero, List.set_cons_succ])
      ((with_reducible refine Ord.e_p (v := ?_) ?_ ?_ ?_ ?_); rotate_left; (· exact rfl); (· kernel_rfl); (· intro w2; go_simp; try with_reducible rfl))
      (try simp only [Act.put, List.setIfInBounds_toArray, List.set_cons_zero, List.set_cons_succ])
      refine Ord.e_x rfl (by kernel_rfl) ?_
      go_wp2_with fail
      have hbn : Below wd.heap.size wd (wd.alloc (.cells #[.int .i64 (p : Int), .int .u32 (no : Int), .slice A2 n2 c2] 146)) := (Below.refl _ _).alloc (Nat.le_refl _) _
      have hrd : Rd _ _ 3 _ 1 1 (fdC ⟨p, no, A2, n2, c2, L2⟩) := RdR.rd (RdR.lit (size := 3) (e := 146) wd [fdC ⟨p, no, A2, n2, c2, L2⟩] #[.int .i64 (p : Int), .int .u32 (no : Int), .slice A2 n2 c2] rfl (by intro r hr; rw [List.mem_singleton.1 hr]; rfl) (by simp [maxLen]) 1 rfl) (by omega)
      replace hb := bnx hb hbn
      replace own3 := own_up own3 hbn (Nat.le_refl _)
      refine Ord.Seg.go hb (fun h => by cases h) ?_
      (try simp only [Act.put, List.setIfInBounds_toArray, List.set_cons_zero, List.set_cons_succ])
      generalize (wd.alloc (.cells #[.int .i64 (p : Int), .int .u32 (no : Int), .slice A2 n2 c2] 146)) = w4 at *
      clear hbn
      refine Ord.e_x rfl (by kernel_rfl) ?_
      refine wpList_appG (base := w.heap.size) (n := k) Try.underlying96 Hi1.out rfl (by omega) own3 rfl hrd rfl (fd_one _) (k := k + 1) (ys := ((G.take (k + 1)).map fdC).flatten) rfl (by rw [Htx.out]; exact fd_flat _ _) (by unfold maxLen; omega) (by omega) hb.size ?_
      intro A5 c5 w5 own5 hgr hob
      replace hb := Below.grown hb hgr hb.size (fun j hj => (own_blk own3 hj).1)
      clear hgr hob own3 hrd
      go_wp2_with fail
      refine Ord.Seg.go hb (fun h => by cases h) ?_
      (try simp only [Act.put, List.setIfInBounds_toArray, List.set_cons_zero, List.set_cons_succ])
      ((with_reducible refine Ord.e_p (v := ?_) ?_ ?_ ?_ ?_); rotate_left; (· exact rfl); (· kernel_rfl); (· intro w2; go_simp; try with_reducible rfl))
      (try simp only [Act.put, List.setIfInBounds_toArray, List.set_cons_zero, List.set_cons_succ])
      refine Ord.e_nil ?_
      go_wp2
      go_roundw
      case rel => exact ⟨k + 1, c5, A5, by omega, by go_num, rfl, hb, own5⟩
      case measure => simp [intOf]; omega
    · obtain rfl : k = n := by omega
      have hrf : RdFd wr wr.heap.size A3 k c3 G := RdR.own (ls := G.map fdC) (by rwa [List.take_of_length_le (by rw [Hll.out]; exact Nat.le_refl _)] at own3) (by rw [List.length_map]; exact Hll.out) (fd_len G)
      clear own3
      go_wp2
      go_ret
      exact ⟨A3, c3, rfl, hrf, fun f hf => (hG f hf).nx hb, hb⟩

end Go.Proofs.Ytplgcfjcdjlnbaa
