/-
  rescue.Scan walked (printed by gen_resc13.py).
-/
import Derived.Test.YtplgcfjcdjlnbaaKResc11
import Derived.Test.YtplgcfjcdjlnbaaKRangeR3
set_option linter.unusedSimpArgs false
set_option linter.unusedVariables false
namespace Go.Proofs.Ytplgcfjcdjlnbaa
open Go.RowKit Go.Shelf NumLaw CrcLaw
attribute [local go_sem] Oper.semAt_some Addr.add_mid

def gdP (l : List UInt8) (p : Nat) : Bool := decide (blkE (pgP l p) = 0)
/-- The places that are handed to yield, of which a block stands there: those that Scan finds. -/
theorem scn_plc {l : List UInt8} : ∀ f p, (plc stS l f p).filter (gdP l) = scnP l f p
  | 0, _ => rfl
  | f + 1, p => by
    unfold plc scnP
    by_cases h : p + 256 ≤ l.length
    · rw [if_pos h, if_pos h]
      by_cases he : blkE (pgP l p) = 0
      · rw [if_pos he, List.filter_cons_of_pos (by unfold gdP; exact decide_eq_true he), show stS (decide (blkE (pgP l p) = 0)) = 256 by rw [decide_eq_true he]; rfl, scn_plc]
      · rw [if_neg he, List.filter_cons_of_neg (by unfold gdP; rw [decide_eq_false he]; exact Bool.false_ne_true), show stS (decide (blkE (pgP l p) = 0)) = 1 by rw [decide_eq_false he]; rfl, scn_plc]
    · rw [if_neg h, if_neg h]; rfl
theorem plc_len {st : Bool → Nat} {l : List UInt8} : ∀ f p, (plc st l f p).length ≤ f
  | 0, _ => Nat.le_refl _
  | f + 1, p => by
    unfold plc
    split
    · have := plc_len (st := st) (l := l) f (p + st (decide (blkE (pgP l p) = 0)))
      rw [List.length_cons]; omega
    · exact Nat.zero_le _
/-- The entries of what was found do not lie in a loop's own blocks. -/
def Off (D : Nat) (G : List FdT) : Prop := ∀ f ∈ G, ∀ j, (Value.slice f.A f.n f.c).ownBlock = some j → j ≠ D ∧ j ≠ D + 1
theorem FdS.off {w w' : World} {l : List UInt8} {pre : List Nat} {G : List FdT} {n D : Nat} {U : Nat → Prop} (h : FdS w l pre G n) (ho : Off D G) (ha : Aw U w w') (hu : ∀ k, U k → k = D ∨ k = D + 1) : FdS w' l pre G n := by
  refine ⟨h.1, h.2.1, fun f hf => ?_⟩
  have hfe := h.2.2 f hf
  have h1 := hfe.1
  have h2 := hfe.2.1
  have hn : ∀ j, (Value.slice f.A f.n f.c).ownBlock = some j → ¬ U j := fun j hj hk => by
    have := ho f hf j hj
    rcases hu j hk with h | h <;> omega
  refine ⟨?_, fun j hj => ?_, hfe.2.2⟩
  · unfold RdE at h1 ⊢
    refine ⟨h1.1, h1.2.1, h1.2.2.1, h1.2.2.2.1, fun hn0 => ?_⟩
    obtain ⟨g', off, e, hlt, hr⟩ := h1.2.2.2.2 hn0
    refine ⟨g', off, e, by have := ha.size; omega, fun k r hk j v hv => ?_⟩
    have := hr k r hk j v hv
    rw [World.cell?] at this ⊢
    rw [show (⟨g', off + k * 14 + j, none⟩ : Addr).block = g' from rfl] at this ⊢
    rw [ha.block g' hlt (hn g' (by rw [e]; rfl))]
    exact this
  · obtain ⟨cur, hc⟩ := h2 j hj
    exact ⟨cur, ha.keep hc (hn j hj)⟩
theorem Off.snoc {D : Nat} {G : List FdT} (h : Off D G) {f : FdT} {w : World} (hf : FdE w f) (hd : ∃ o, w.heap[D]? = some (.deferred o)) (hl : ∃ o, w.heap[D + 1]? = some (.loop o)) : Off D (G ++ [f]) := fun g hg j hj => by
  rcases List.mem_append.1 hg with hg | hg
  · exact h g hg j hj
  · rw [List.mem_singleton.1 hg] at hj
    obtain ⟨cur, hc⟩ := hf.2.1 j hj
    obtain ⟨o, hd⟩ := hd
    obtain ⟨o2, hl⟩ := hl
    refine ⟨fun e => ?_, fun e => ?_⟩
    · rw [e, hd] at hc; cases hc
    · rw [e, hl] at hc; cases hc
def SI (g : Nat) (l : List UInt8) (w : World) (pre : List Nat) (W : World) : Prop :=
  Below g w W ∧ ∃ (A3 : Option Addr) (n3 c3 : Nat) (G : List FdT), W.heap[g]? = some (.cells #[.slice A3 n3 c3] 93) ∧ n3 ≤ pre.length ∧
    W.ownsRow (g + 5) 102 3 (.slice A3 n3 c3) n3 (G.map fdC).flatten ∧ Hid (FdS W l (pre.filter (gdP l)) G n3) ∧ Hid (Off (g + 3) G)
def SF (A : Option Addr) (n c : Nat) (l : List UInt8) (w : World) (x : Nat) (a : Act) (W : World) : Prop :=
  ∃ (gF : Nat) (A' : Option Addr) (n' c' : Nat), a = { tmps := #[.slice A n c, undef, .slice none 0 0, .pointer (some ⟨w.heap.size, 0, none⟩), .func (.func 102) #[] #[], .pointer (some ⟨gF, 0, none⟩), .bool (decide (blkE (pgP l x) = 0)), .slice A n c, .func (.func 102) #[] #[], .func (.func 118) #[] #[.pointer (some ⟨w.heap.size + 1, 0, none⟩), .pointer (some ⟨w.heap.size + 2, 0, none⟩)], .agg #[.int .i64 (x : Int), .int .u32 (blkNo (pgP l x) : Int), .slice A' n' c'], .bool (decide (blkE (pgP l x) = 0)), undef, undef, undef, undef, undef, undef], defers := [] } ∧ W.heap[gF]? = some (.cells #[.int .i64 (x : Int), .int .u32 (blkNo (pgP l x) : Int), .slice A' n' c'] 102) ∧ FdE W ⟨x, blkNo (pgP l x), A', n', c', blkL (pgP l x)⟩
set_option maxRecDepth 10000 in
set_option maxHeartbeats 8000000 in
theorem scan_any (A : Option Addr) (n c B : Nat) (l : List UInt8) (w : World) (h : Rd w B 1 A n c (bv l)) (hB : B ≤ w.heap.size) (hn : n ≤ 100000) :
    Calls Try.prog 61 #[.slice A n c] w (RetFd (fndS l (scnAll l)) w) := by
  have hll := h.blen
  obtain ⟨i1, hi1⟩ := info_parts fd_info
  have Hi1 := Lib.hid hi1
  have Hll := Lib.hid hll
  clear hll hi1
  have hb := (Below.refl w.heap.size w).alloc (Nat.le_refl _) (.cells #[.slice none 0 0] 93)
  have a0 := heap_alloc_new w (.cells #[.slice none 0 0] 93)
  have hs : (w.alloc (.cells #[.slice none 0 0] 93)).heap.size = w.heap.size + 1 := World.size_alloc _ _
  refine (callsIn_wide (n := 9)).1 ?_
  have hro : Fence.wide.round = none := rfl
  refine callsIn_of_wp_marks Try.func61 rfl trivial ?_ hro
  simp only [Try.ntmps61, List.size_toArray, List.length_cons, List.length_nil, Nat.reduceAdd, Nat.reduceSub, Array.replicate_succ, Array.replicate_zero, List.push_toArray, List.append_toArray, List.nil_append, List.cons_append]
  gi_wp2_with fail
  generalize (w.alloc (.cells #[.slice none 0 0] 93)) = w1 at *
  refine ⟨trivial, (callsIn_wide.2 (places_any A n c 102 w1)).mono ?_⟩
  rintro x w2 ⟨rfl, rfl⟩
  obtain ⟨b0, b1, hsb, hbb⟩ := al2 w1 (.cells #[.slice A n c] 26) (.cells #[.func (.func 102) #[] #[]] 145)
  have p0 := blk_old a0 hbb (blk_lt a0)
  have hb2 := bnx hb hbb
  have hs2 : ((w1.alloc (.cells #[.slice A n c] 26)).alloc (.cells #[.func (.func 102) #[] #[]] 145)).heap.size = w.heap.size + 3 := by rw [hsb, hs]
  rw [hs] at b0 b1
  rw [hs]
  generalize ((w1.alloc (.cells #[.slice A n c] 26)).alloc (.cells #[.func (.func 102) #[] #[]] 145)) = w2 at *
  have hr2 := h.up (hb2.mono hB)
  have Hs2 := Lib.hid hs2
  clear a0 hbb hb hs hs2 hsb w1
  gi_wp2_with fail
  have hs2 := Hs2.out
  have HK := Lib.hid (show ∀ k, (k = w.heap.size + 1 ∨ k = w.heap.size + 2 ∨ (0 < n ∧ ∃ a, A = some a ∧ a.block = k)) ∨ k = w2.heap.size ∨ k = w2.heap.size + 1 → k < w.heap.size + 5 ∧ k ≠ w.heap.size from fun k hk => by
    rcases hk with (rfl | rfl | ⟨hn0, a, e, rfl⟩) | rfl | rfl
    · omega
    · omega
    · obtain ⟨ad, e', hb', _⟩ := h.at_ hn0
      rw [e] at e'
      injection e' with e'
      rw [e']
      omega
    · omega
    · omega)
  refine rangeFunc_R3 rfl (enters_of Try.func118 (by kernel_rfl) rfl) (places_seqS (w.heap.size + 1) (w.heap.size + 2) A n c B l _ hn)
    (fun W hW hsz => ⟨hW.keep b0 (fun hk => hk), hW.keep b1 (fun hk => hk), hr2.keepBlk (fun hn0 a e => by
        obtain ⟨ad, e', hb', _⟩ := hr2.at_ hn0
        rw [e] at e'
        injection e' with e'
        rw [e']
        exact hW.block _ (by rw [hs2]; omega) (fun hk => hk)), by have := hW.size; omega⟩)
    (fun x vs W hE => by obtain ⟨A', n', c', e, _⟩ := hE; rw [e]; rfl) (F := SF A n c l w) ?hF (fun k hk => hk.elim)
    (fun k hk => by
      rcases hk with rfl | rfl | ⟨hn0, a, e, rfl⟩
      · rw [hs2]; omega
      · rw [hs2]; omega
      · obtain ⟨ad, e', hb', _⟩ := hr2.at_ hn0
        rw [e] at e'
        injection e' with e'
        rw [e', hs2]
        omega)
    (SI w.heap.size l w) (fun _ _ _ => False) ?hI ?hIx ?h0 ?assign ?body ?done ?stop
  case hF =>
    rintro x a A1 B1 ⟨gF, A', n', c', e, hg, hr⟩ hd hl hab
    refine ⟨gF, A', n', c', e, hab.keep hg (fun hk => ?_), hr.aw hab (fun k hk cur hc => ?_)⟩
    · have h1 := loop_cells (j := 0) hd hl hk
      rw [blk_cell (i := 0) hg rfl] at h1
      cases h1
    · obtain ⟨o, hd⟩ := hd
      obtain ⟨o2, hl⟩ := hl
      rcases hk with rfl | rfl
      · rw [hd] at hc; cases hc
      · rw [hl] at hc; cases hc
  case hI =>
    rintro pre A1 B1 ⟨i0, A3, n3, c3, G, i1, i3, i5, i8, i9⟩ hab
    have hnk : ∀ k, (False ∨ k = w2.heap.size ∨ k = w2.heap.size + 1) → k = w.heap.size + 3 ∨ k = w.heap.size + 3 + 1 := fun k hk => hk.elim (fun h => h.elim) (fun hk => by rw [hs2] at hk; omega)
    have hA := blk_lt i1
    exact ⟨below_awG i0 hab (fun k hk => by have := hnk k hk; omega) (by omega), A3, n3, c3, G, hab.keep i1 (fun hk => by have := hnk _ hk; omega), i3, own_aw i5 hab (fun k hk hu => by have := hnk _ hu; have := (own_blk i5 hk).1; omega), Lib.hid (i8.out.off i9.out hab hnk), i9⟩
  case hIx => rintro cc pre A1 B1 hf; exact hf.elim
  case stop => rintro cc pre W hpre hf; exact hf.elim
  case h0 => exact ⟨hb2, none, 0, 0, [], p0, by simp, World.ownsRow_nil _ _ _ _, Lib.hid ⟨rfl, rfl, by simp⟩, Lib.hid (fun f hf => by cases hf)⟩
  case assign =>
    rintro ll x vs W K ⟨A', n', c', rfl, hr, ho⟩ hK
    have hbn : Below W.heap.size W (W.alloc (.cells #[.int .i64 (x : Int), .int .u32 (blkNo (pgP l x) : Int), .slice A' n' c'] 102)) := (Below.refl _ _).alloc (Nat.le_refl _) _
    have HK := Lib.hid (hK _ _ ((Aw.refl (fun _ => False) W).alloc _) ⟨W.heap.size, A', n', c', rfl, heap_alloc_new W _, FdE.nx ⟨hr, ho, no_lt _⟩ hbn⟩)
    clear hK hbn hr ho
    gi_wp2
    exact HK.out
  case body =>
    rintro pre x a W ⟨i0, A3, n3, c3, G, i1, i3, i5, i8, i9⟩ ⟨gF, A', n', c', rfl, hgF, hr⟩ hpre hge hdD hlL
    rw [hs2] at hge hdD hlL
    have hpl : (pre ++ [x]).length ≤ n + 1 := by
      have h1 := hpre.length_le
      have h2 := plc_len (st := stS) (l := l) (n + 1) 0
      omega
    rw [List.length_append, List.length_singleton] at hpl
    have hn3 : n3 ≤ 100001 := by omega
    have Hfl := Lib.hid (show (pre ++ [x]).filter (gdP l) = if blkE (pgP l x) = 0 then pre.filter (gdP l) ++ [x] else pre.filter (gdP l) by
      rw [List.filter_append]
      by_cases he : blkE (pgP l x) = 0
      · rw [if_pos he, List.filter_cons_of_pos (by unfold gdP; exact decide_eq_true he)]; rfl
      · rw [if_neg he, List.filter_cons_of_neg (by unfold gdP; rw [decide_eq_false he]; exact Bool.false_ne_true)]; simp)
    have hln : n3 + 1 ≤ (pre ++ [x]).length := by rw [List.length_append, List.length_singleton]; omega
    by_cases he : blkE (pgP l x) = 0
    · rw [decide_eq_true he]
      have d0 := blk_cell (i := 0) (v := .int .i64 (x : Int)) hgF rfl
      have d1 := blk_cell (i := 1) (v := .int .u32 (blkNo (pgP l x) : Int)) hgF rfl
      have d2 := blk_cell (i := 2) (v := .slice A' n' c') hgF rfl
      have e3 : W.cell? ⟨w.heap.size, 0, none⟩ = some (.slice A3 n3 c3) := blk_cell i1 rfl
      have hgl := blk_lt i1
      have hbn : Below W.heap.size W (W.alloc (.cells #[.int .i64 (x : Int), .int .u32 (blkNo (pgP l x) : Int), .slice A' n' c'] 102)) := (Below.refl _ _).alloc (Nat.le_refl _) _
      have hrd : Rd _ _ 3 _ 1 1 (fdC ⟨x, blkNo (pgP l x), A', n', c', blkL (pgP l x)⟩) := RdR.rd (RdR.lit (size := 3) (e := 102) W [fdC ⟨x, blkNo (pgP l x), A', n', c', blkL (pgP l x)⟩] #[.int .i64 (x : Int), .int .u32 (blkNo (pgP l x) : Int), .slice A' n' c'] rfl (by intro r hr; rw [List.mem_singleton.1 hr]; rfl) (by simp [maxLen]) 1 rfl) (by omega)
      have own35 := own_up i5 hbn (Nat.le_refl _)
      have hbb := bnx i0 hbn
      have j1 := blk_old i1 hbn (blk_lt i1)
      have hE5 := hr.nx hbn
      have HG5 := Lib.hid (i8.out.nx hbn)
      have Hoff := Lib.hid (i9.out.snoc hr hdD hlL)
      have hlt3 : ∀ j, (Value.slice A3 n3 c3).ownBlock = some j → w.heap.size + 5 ≤ j ∧ j < W.heap.size := fun j hj => own_blk i5 hj
      have hK5 : Aw (fun _ => False) W (W.alloc (.cells #[.int .i64 (x : Int), .int .u32 (blkNo (pgP l x) : Int), .slice A' n' c'] 102)) := Aw.of_below' hbn
      have hsz := hbn.size
      clear hbn i0 i1 i5 hr i8 i9 hdD hlL
      gi_wp2_with (with_reducible refine stop_loadI 93 ?_)
      refine go_ (listIn_ (fun ⟨_, _, h⟩ => h) _ (by simp) _ _ ?_)
      go_wp2_with (at_builtin; refine stop_ ?_)
      clear d0 d1 d2 hgF
      generalize (W.alloc (.cells #[.int .i64 (x : Int), .int .u32 (blkNo (pgP l x) : Int), .slice A' n' c'] 102)) = w6 at *
      refine go_ (wpList_appG (base := w.heap.size + 5) (n := n3) Try.underlying93 Hi1.out (by kernel_rfl) (by omega) own35 rfl hrd rfl (fd_one _) (k := n3 + 1) rfl (fd_flat _ _) (by unfold maxLen; omega) (by omega) (by omega) ?_)
      intro A7 c7 w7 own7 hgr hob
      have haw7 := Aw.of_grown hgr
      have hun := own_other own35 (t := 46) (by decide)
      have HG7 := Lib.hid ((HG5.out.aw haw7 hun).snoc (hE5.aw haw7 hun) rfl)
      have hb7 := below_awG hbb haw7 (fun j hj => by have := hlt3 j hj; omega) (by omega)
      have k1 := haw7.keep j1 (fun hu => by have := hlt3 _ hu; omega)
      clear hob own35 hbb j1 hrd e3 hun HG5 hE5
      have s1 : w7.cell? ⟨w.heap.size, 0, none⟩ = some (.slice A3 n3 c3) := blk_cell k1 rfl
      have s2 := blk_free (i := 0) k1
      have hA8 : Aw (fun k => k = w.heap.size) w7 (w7.setCell ⟨w.heap.size, 0, none⟩ (.slice A7 (n3 + 1) c7)) := (Aw.refl _ _).set _ rfl
      have m1 := blk_set (i := 0) k1 (.slice A7 (n3 + 1) c7)
      have m3 := own_aw own7 hA8 (fun j hj hu => by have := (own_blk own7 hj).1; omega)
      have m5 := below_awG hb7 hA8 (fun k hk => by omega) (by have := blk_lt k1; omega)
      have m6 := Lib.hid (HG7.out.aw hA8 (fun k hk cur hc => by subst hk; rw [k1] at hc; injection hc with hc; injection hc with _ h2 _; exact absurd h2 (by decide)))
      have hAA : Aw (fun k => (Value.slice A3 n3 c3).ownBlock = some k ∨ k = w.heap.size) W _ := ((hK5.mono (fun _ h => h.elim)).trans (haw7.mono fun k hk => .inl hk)).trans (hA8.mono fun k hk => .inr hk)
      have HAA := Lib.hid hAA
      clear hAA hA8 haw7 hK5 hgr HG7
      go_wp2
      gi_wp2
      refine ⟨HAA.out.keeps fun k hk hu => ?_, m5, A7, n3 + 1, c7, _, m1, hln, m3, by rw [Hfl.out, if_pos he]; exact m6, Hoff⟩
      have h9 := HK.out k (by rw [hs2]; exact hk)
      rcases hu with hu | hu
      · have := hlt3 k hu; omega
      · omega
    · rw [decide_eq_false he]
      gi_wp2
      exact ⟨(Aw.refl (fun _ => False) W).keeps fun k hk hu => hu, i0, A3, n3, c3, G, i1, by omega, i5, by rw [Hfl.out, if_neg he]; exact i8, i9⟩
  case done =>
    rintro W ⟨i0, A3, n3, c3, G, i1, i3, i5, i8, i9⟩ hd
    have hpl : (plc stS l (n + 1) 0).filter (gdP l) = scnAll l := by rw [scn_plc]; unfold scnAll; rw [Hll.out]
    rw [hpl] at i8
    have hwl := blk_lt hd
    have q4 : W.cell? ⟨w.heap.size, 0, none⟩ = some (.slice A3 n3 c3) := blk_cell i1 rfl
    have hA7 : Aw (fun k => k = w2.heap.size) W (W.putObj w2.heap.size (.deferred none)) := (Aw.refl _ _).put _ rfl
    have m3 := own_aw i5 hA7 (fun k hk hu => by have := (own_blk i5 hk).1; omega)
    have m5 := below_awG i0 hA7 (fun k hk => by omega) (by omega)
    have m6 := i8.out.aw hA7 (fun k hk cur hc => by subst hk; rw [hd] at hc; cases hc)
    have hrf : RdFd _ _ A3 n3 c3 G := RdR.own (ls := G.map fdC) m3 (by rw [List.length_map]; exact m6.1) (fd_len G)
    clear hA7 m3 i0 i1 i5
    gi_wp2
    refine ⟨by simp, .inl ⟨_, _, rfl, run_takeDeferred hd, ?_⟩⟩
    refine ⟨.slice A3 n3 c3, by simp [results, go_sem], A3, n3, c3, G, rfl, hrf, m6.2.2, m6.2.1, m5⟩

end Go.Proofs.Ytplgcfjcdjlnbaa
