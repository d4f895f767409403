/-
  rec.TakeKey and the document's, walked.
-/
import Derived.Test.YtplgcfjcdjlnbaaRec6
set_option linter.unusedSimpArgs false
set_option linter.unusedVariables false
namespace Go.Proofs.Ytplgcfjcdjlnbaa
open Go.RowKit NumLaw
attribute [local go_sem] Addr.add_mid

/-- A number of a whole record. -/
def kvAt (b : List UInt8) (i : Nat) : Int := sgn 4 (num ((b.drop (4 + 4 * i)).take 4))
def kvs (b : List UInt8) : List Int := (List.range 12).map (kvAt b)
theorem kvs_len (b : List UInt8) : (kvs b).length = 12 := by unfold kvs; rw [List.length_map, List.length_range]
theorem kvs_at (b : List UInt8) {k : Nat} (hk : k < 12) : (kvs b)[k]? = some (kvAt b k) := by
  unfold kvs
  rw [List.getElem?_map, List.getElem?_range hk]
  rfl
theorem sgn4_32 {m : Nat} (h : m < 4294967296) : in32 (sgn 4 m) := by
  unfold sgn in32
  simp
  split <;> omega
theorem num4_lt (l : List UInt8) (h : l.length ≤ 4) : num l < 4294967296 := by
  have h1 := num_lt l
  have h2 : 256 ^ l.length ≤ 256 ^ 4 := Nat.pow_le_pow_right (by omega) h
  have h3 : (256 : Nat) ^ 4 = 4294967296 := by decide
  omega
theorem kvAt_32 (b : List UInt8) (i : Nat) : in32 (kvAt b i) := sgn4_32 (num4_lt _ (by rw [List.length_take]; omega))
theorem kvs_32 (b : List UInt8) : ∀ x ∈ kvs b, in32 x := fun x hx => by
  obtain ⟨i, _, rfl⟩ := List.mem_map.1 hx
  exact kvAt_32 b i
/-- The new numbers up to place k, the old ones behind it. -/
def VK (new old : List Int) (k : Nat) : List Int := new.take k ++ old.drop k
theorem VK_zero (new old : List Int) : VK new old 0 = old := by simp [VK]
theorem VK_full {new old : List Int} (h : new.length = 12) (h' : old.length = 12) : VK new old 12 = new := by
  unfold VK
  rw [List.take_of_length_le (by omega), List.drop_eq_nil_of_le (by omega), List.append_nil]
theorem VK_len {new old : List Int} {k : Nat} (h : new.length = 12) (h' : old.length = 12) (hk : k ≤ 12) : (VK new old k).length = 12 := by
  unfold VK
  rw [List.length_append, List.length_take, List.length_drop]
  omega
theorem VK_set {new old : List Int} {k : Nat} {x : Int} (hx : new[k]? = some x) (ho : k < old.length) : (VK new old k).set k x = VK new old (k + 1) := by
  have hk := (List.getElem?_eq_some_iff.1 hx).1
  unfold VK
  rw [take_succ hx, List.drop_eq_getElem_cons ho, List.set_append]
  rw [if_neg (by rw [List.length_take]; omega), List.length_take, Nat.min_eq_left (by omega), Nat.sub_self, List.set_cons_zero]
  simp
theorem rcC_setV (t : Nat) (V : List Int) (k : Nat) (x : Int) : (rcC t V).toArray.setIfInBounds (1 + k) (.int .i32 x) = (rcC t (V.set k x)).toArray := by
  unfold rcC
  rw [Nat.add_comm]
  simp [List.map_set]
theorem results_cell3 {P : Program} {fn : Func} {p q r : Tmp} {ty : TypeId} (h : fn.results = #[.cell p ty, .tmp q, .tmp r]) (tmps : Array Value) (w : World) (g : Nat) (t : TypeId) (cs : Array Value) (fr : Nat × Nat) (d : TypeDesc)
    (hp : tmps.getD p undef = .pointer (some ⟨g, 0, none⟩)) (hg : w.heap[g]? = some (.cells cs t fr))
    (hu : P.underlying ty = some d) (hd : (match d with | .struct _ | .array _ _ => true | _ => false) = true) (hi : (P.info? ty).map (·.size) = some cs.size) :
    (results fn tmps).run P w = .ok (.tuple #[.agg cs, tmps.getD q undef, tmps.getD r undef]) w := by
  have hp' : tmps[p]?.getD undef = .pointer (some ⟨g, 0, none⟩) := by simpa using hp
  simp [results, h, hp', asAddr, run_loadVar_row w g t ty cs fr d hg hu hd hi]
theorem rd4G (l : List UInt8) (h : ¬ l.length < 4) : rdF (nU 4) l false = false ∧ rdB (nU 4) l false = l.take 4 ∧ rdL (nU 4) l false = l.drop 4 := by
  have h1 : rdF (nU 4) l false = false := by
    unfold rdF
    rw [show nU 4 = 4 from rfl]
    simp
    omega
  refine ⟨h1, ?_, ?_⟩
  · unfold rdB; rw [h1]; rfl
  · unfold rdL; rw [h1]; rfl
theorem iV4 (l : List UInt8) (h : ¬ l.length < 4) : iV 4 l false = sgn 4 (num (l.take 4)) := by
  obtain ⟨h1, h2, _⟩ := rd4G l h
  have h1' : rdF 4 l false = false := h1
  have h2' : rdB 4 l false = l.take 4 := h2
  unfold iV
  rw [if_neg (by omega), h1', h2']
  rfl
theorem cut52 (b : List UInt8) {k : Nat} (hk : k < 12) : ((b.take 52).drop (4 + 4 * k)).take 4 = (b.drop (4 + 4 * k)).take 4 := by
  rw [List.drop_take, List.take_take]
  congr 1
  omega
theorem rc_store (t : Nat) (V : List Int) (hV : V.length = 12) (w : World) (g : Nat) {old : Array Value} (ho : w.heap[g]? = some (.cells old 25)) :
    RcB (w.setRow g (rcC t V).toArray) g t V ∧ Aw (fun k => k = g) w (w.setRow g (rcC t V).toArray) :=
  ⟨setRow_heap _ _ _ _ _ _ ho, ⟨setRow_os w _ _, setRow_tape w _ _, setRow_output w _ _, by rw [setRow_size]; exact Nat.le_refl _, fun k _ hu => setRow_other w _ k _ hu⟩⟩
/-- What a whole record's taking returns. -/
def keT (b : List UInt8) : Nat := if b.length < 52 then 0 else num (b.take 4)
def keV (b : List UInt8) : List Int := if b.length < 52 then z12 else kvs b
def keN (b : List UInt8) : Nat := if b.length < 52 then 0 else 52
def keE (b : List UInt8) : Nat := if b.length < 52 then 2 else 0
theorem keV_len (b : List UInt8) : (keV b).length = 12 := by unfold keV; split; rfl; exact kvs_len b
def RetRec (t : Nat) (V : List Int) (n er : Nat) (w : World) (e : Ending) (w' : World) : Prop :=
  e = .returned (.tuple #[.agg (rcC t V).toArray, .int .i64 (n : Int), .int .i64 (er : Int)]) ∧ Below w.heap.size w w'
set_option maxRecDepth 10000 in
set_option maxHeartbeats 4000000 in
theorem takeKey_any (A : Option Addr) (n c B : Nat) (b : List UInt8) (w : World) (h : Rd w B 1 A n c (bv b)) (hB : B ≤ w.heap.size) (hn : n ≤ 1000000) :
    Calls Try.prog 26 #[.slice A n c] w (RetRec (keT b) (keV b) (keN b) (keE b) w) := by
  have hlb := h.blen
  have hle := h.le
  have hmx := h.max
  unfold maxLen at hmx
  obtain ⟨i0, hi⟩ := info_parts u8_info
  have hb1 : Below w.heap.size w (w.alloc (.cells #[.int .u32 0, .int .i32 0, .int .i32 0, .int .i32 0, .int .i32 0, .int .i32 0, .int .i32 0, .int .i32 0, .int .i32 0, .int .i32 0, .int .i32 0, .int .i32 0, .int .i32 0] 25)) := (Below.refl _ _).alloc (Nat.le_refl _) _
  have hres := heap_alloc_new w (.cells #[.int .u32 0, .int .i32 0, .int .i32 0, .int .i32 0, .int .i32 0, .int .i32 0, .int .i32 0, .int .i32 0, .int .i32 0, .int .i32 0, .int .i32 0, .int .i32 0, .int .i32 0] 25)
  have Hlb := Lib.hid hlb
  by_cases h52 : n < 52
  · have e1 : keT b = 0 := by unfold keT; rw [if_pos (by omega)]
    have e2 : keV b = z12 := by unfold keV; rw [if_pos (by omega)]
    have e3 : keN b = 0 := by unfold keN; rw [if_pos (by omega)]
    have e4 : keE b = 2 := by unfold keE; rw [if_pos (by omega)]
    rw [e1, e2, e3, e4]
    clear hlb hi e1 e2 e3 e4
    go_enter Try.func26, Try.ntmps26
    go_wp2_with (first | (with_reducible refine stop_loadT 25 ?_) | (with_reducible refine stop_storeT 25 ?_))
    generalize (w.alloc (.cells #[.int .u32 0, .int .i32 0, .int .i32 0, .int .i32 0, .int .i32 0, .int .i32 0, .int .i32 0, .int .i32 0, .int .i32 0, .int .i32 0, .int .i32 0, .int .i32 0, .int .i32 0] 25)) = w1 at *
    replace hres : RcB w1 w.heap.size 0 z12 := hres
    refine go_ (wpList_store_row rfl _ _ _ rfl w.heap.size (rcC 0 z12).toArray rfl rfl _ _ hres (by kernel_rfl) (by kernel_rfl) (by kernel_rfl) ?_)
    obtain ⟨hz, hAz⟩ := rc_store 0 z12 rfl w1 w.heap.size hres
    have hbz := below_awG hb1 hAz (fun k hk => by omega) hb1.size
    generalize (w1.setRow w.heap.size (rcC 0 z12).toArray) = w5 at *
    go_wp2
    exact bodyPost_ret (results_cell3 (fn := Try.f26) Try.results26 _ _ w.heap.size _ _ _ _ rfl hz Try.underlying25 rfl (by kernel_rfl)) rfl ⟨rfl, hbz⟩
  have e1 : keT b = num (b.take 4) := by unfold keT; rw [if_neg (by omega)]
  have e2 : keV b = kvs b := by unfold keV; rw [if_neg (by omega)]
  have e3 : keN b = 52 := by unfold keN; rw [if_neg (by omega)]
  have e4 : keE b = 0 := by unfold keE; rw [if_neg (by omega)]
  rw [e1, e2, e3, e4]
  have hTl := num4_lt (b.take 4) (by rw [List.length_take]; omega)
  obtain ⟨T, hT⟩ : ∃ T, T = num (b.take 4) := ⟨_, rfl⟩
  rw [← hT] at hTl ⊢
  have hwk : IntKind.u32.wrap (T : Int) = (T : Int) := by rw [IntKind.wrap_u32]; omega
  have HT := Lib.hid hT
  clear hlb e1 e2 e3 e4 hT
  have hcut : ∀ w, (Instr.slice 26 (.slice A n c) none (some (.int .i64 52)) none).run Try.prog w = .ok (.slice A 52 c) w := run_cut_h (P := Try.prog) Try.underlying26 hi.1 A n c 52 (by omega)
  clear hi
  go_enter Try.func26, Try.ntmps26
  go_wp2_with fail
  generalize (w.alloc (.cells #[.int .u32 0, .int .i32 0, .int .i32 0, .int .i32 0, .int .i32 0, .int .i32 0, .int .i32 0, .int .i32 0, .int .i32 0, .int .i32 0, .int .i32 0, .int .i32 0, .int .i32 0] 25)) = w1 at *
  replace hres : RcB w1 w.heap.size 0 z12 := hres
  go_fit (rNew_any A 52 c B (b.take 52) w1 ((h.up (hb1.mono hB)).btake (by omega)) (Nat.le_trans hB hb1.size) (by omega))
  rintro e w2 ⟨g, rfl, hrd, hlg, hb12⟩
  have hb2 := bnx hb1 hb12
  have hgs : w.heap.size < g := Nat.lt_of_lt_of_le (blk_lt hres) hlg
  replace hres : RcB w2 w.heap.size 0 z12 := blk_old hres hb12 (blk_lt hres)
  clear hcut hb1 hb12
  have hl52 : (b.take 52).length = 52 := by rw [List.length_take, Hlb.out]; omega
  have Hl52 := Lib.hid hl52
  obtain ⟨f1, f2, f3⟩ := rd4G (b.take 52) (by omega)
  go_wp2_with fail
  go_fit (rU_any w1.heap.size g (b.take 52) false 4 w2 hrd)
  rw [f1, f2, f3, List.take_take, show min 4 52 = 4 from rfl, ← HT.out]
  rintro e w3 ⟨rfl, hrd3, hgr⟩
  have hres3 : RcB w3 w.heap.size 0 z12 := (hgr.block _ (blk_lt hres) (fun e => by injection e with e; omega)).trans hres
  have hb3 := Below.grown hb2 hgr hb2.size (fun j hj => by injection hj with hj; omega)
  have hlg3 : g < w3.heap.size := hrd3.1.elim fun _ h => h.elim fun _ h => h.elim fun _ h => h.1.lt
  have hbx : Below w3.heap.size w3 (w3.alloc (.cells #[.int .u32 T, .int .i32 0, .int .i32 0, .int .i32 0, .int .i32 0, .int .i32 0, .int .i32 0, .int .i32 0, .int .i32 0, .int .i32 0, .int .i32 0, .int .i32 0, .int .i32 0] 25)) := (Below.refl _ _).alloc (Nat.le_refl _) _
  have hbox := heap_alloc_new w3 (.cells #[.int .u32 T, .int .i32 0, .int .i32 0, .int .i32 0, .int .i32 0, .int .i32 0, .int .i32 0, .int .i32 0, .int .i32 0, .int .i32 0, .int .i32 0, .int .i32 0, .int .i32 0] 25)
  have hres4 := blk_old hres3 hbx (blk_lt hres3)
  have hrd4 := hrd3.keep (grownBy_of hbx none) (fun _ e => by cases e)
  have hb4 := bnx hb3 hbx
  have hw3s : w.heap.size < w3.heap.size := blk_lt hres3
  clear hres hres3 hrd hrd3 hgr hb2 hb3 hbx hl52 f1 f2 f3
  go_wp2_with fail
  generalize (w3.alloc (.cells #[.int .u32 T, .int .i32 0, .int .i32 0, .int .i32 0, .int .i32 0, .int .i32 0, .int .i32 0, .int .i32 0, .int .i32 0, .int .i32 0, .int .i32 0, .int .i32 0, .int .i32 0] 25)) = w4 at *
  generalize w3.heap.size = g6 at *
  replace hbox : RcB w4 g6 T z12 := hbox
  go_loopw [19] (fun i wr => ∃ k : Nat, k ≤ 12 ∧ i = .int .i64 k ∧ Rdr w1.heap.size wr g ((b.take 52).drop (4 + 4 * k)) false ∧ RcB wr g6 T (VK (kvs b) z12 k) ∧ RcB wr w.heap.size 0 z12 ∧ Below w.heap.size w wr) (fun i _ => 12 - (intOf i).toNat)
  case atStart => exact ⟨0, by omega, rfl, hrd4, by rw [VK_zero]; exact hbox, hres4, hb4⟩
  case round =>
    clear hrd4 hbox hres4 hb4 w4
    obtain ⟨k, hk, rfl, hrd, hbox, hres, hb⟩ := hrel
    by_cases hlt : k < 12
    · have hdl : ¬ ((b.take 52).drop (4 + 4 * k)).length < 4 := by rw [List.length_drop, Hl52.out]; omega
      obtain ⟨f1, f2, f3⟩ := rd4G _ hdl
      have hiv := iV4 _ hdl
      rw [cut52 b hlt] at hiv
      have hiv : iV 4 ((b.take 52).drop (4 + 4 * k)) false = kvAt b k := hiv
      have h32 := kvAt_32 b k
      have hset := VK_set (kvs_at b hlt) (show k < z12.length from hlt)
      unfold in32 at h32
      obtain ⟨x, hx⟩ : ∃ x, x = kvAt b k := ⟨_, rfl⟩
      rw [← hx] at hiv h32 hset
      have hwx : IntKind.i32.wrap x = x := i32_wrap_in h32
      have Hset := Lib.hid hset
      have Hx := Lib.hid hx
      clear hset hx
      go_wp2_with fail
      go_fit (rI_any w1.heap.size g _ false 4 wr hrd)
      rw [hiv, f1, f3, List.drop_drop]
      rintro e w6 ⟨rfl, hrd6, hgr⟩
      have hbox6 : RcB w6 g6 T (VK (kvs b) z12 k) := (hgr.block _ (blk_lt hbox) (fun e => by injection e with e; omega)).trans hbox
      have hres6 : RcB w6 w.heap.size 0 z12 := (hgr.block _ (blk_lt hres) (fun e => by injection e with e; omega)).trans hres
      have hb6 := Below.grown hb hgr hb.size (fun j hj => by injection hj with hj; omega)
      have hl12 : (VK (kvs b) z12 k).length = 12 := VK_len (kvs_len b) rfl hk
      obtain ⟨y, hy⟩ : ∃ y, (VK (kvs b) z12 k)[k]? = some y := ⟨_, List.getElem?_eq_getElem (by omega)⟩
      have s1 := hbox6.at_ hy
      have s2 : w6.frozen? ⟨g6, 1 + k, none⟩ = false := blk_free (i := 1 + k) hbox6
      have hA : Aw (fun j => j = g6) w6 (w6.setCell ⟨g6, 1 + k, none⟩ (.int .i32 x)) := (Aw.refl _ _).set _ rfl
      have hbox7 := blk_set (i := 1 + k) hbox6 (.int .i32 x)
      rw [rcC_setV, Hset.out] at hbox7
      have hres7 : RcB (w6.setCell ⟨g6, 1 + k, none⟩ (.int .i32 x)) w.heap.size 0 z12 := hA.keep hres6 (by omega)
      have hb7 := below_awG hb6 hA (fun j hj => by omega) hb6.size
      have hrd7 : Rdr w1.heap.size (w6.setCell ⟨g6, 1 + k, none⟩ (.int .i32 x)) g ((b.take 52).drop (4 + 4 * k + 4)) false := hrd6.keep (row := some g6) (grownBy_set (grownBy_self _ _) _ _) (fun j hj => by injection hj with hj; omega)
      clear hgr hbox hres hb hrd hbox6 hres6 hb6 hrd6 hl12 hy hA f1 f2 f3 hiv
      go_wp2
      go_roundw
      case rel => exact ⟨k + 1, by omega, by go_num, hrd7, hbox7, hres7, hb7⟩
      case measure => simp [intOf]; omega
    · obtain rfl : k = 12 := by omega
      rw [VK_full (kvs_len b) rfl] at hbox
      go_wp2_with (first | (with_reducible refine stop_loadT 25 ?_) | (with_reducible refine stop_storeT 25 ?_))
      refine go_ (wpList_load_mid rfl _ _ rfl g6 0 rfl _ _ hbox.all Try.underlying25 rfl (by rw [rcC_size T (kvs b) (kvs_len b)]; kernel_rfl) ?_)
      go_wp2_with (first | (with_reducible refine stop_loadT 25 ?_) | (with_reducible refine stop_storeT 25 ?_))
      refine go_ (wpList_store_row rfl _ _ _ rfl w.heap.size (rcC T (kvs b)).toArray rfl rfl _ _ hres (by rw [List.size_toArray, rcC_size T (kvs b) (kvs_len b)]; kernel_rfl) (by rw [List.size_toArray, List.size_toArray, rcC_size T (kvs b) (kvs_len b)]; rfl) (all_oneCell_toArray (rcC_one T (kvs b))) ?_)
      obtain ⟨hz, hAz⟩ := rc_store T (kvs b) (kvs_len b) wr w.heap.size hres
      have hbz := below_awG hb hAz (fun k hk => by omega) hb.size
      generalize (wr.setRow w.heap.size (rcC T (kvs b)).toArray) = w5 at *
      go_wp2
      exact bodyPost_ret (results_cell3 (fn := Try.f26) Try.results26 _ _ w.heap.size _ _ _ _ rfl hz Try.underlying25 rfl (by rw [List.size_toArray, rcC_size T (kvs b) (kvs_len b)]; kernel_rfl)) rfl ⟨rfl, hbz⟩


end Go.Proofs.Ytplgcfjcdjlnbaa
