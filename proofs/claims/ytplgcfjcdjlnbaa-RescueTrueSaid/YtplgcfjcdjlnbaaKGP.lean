/-
  Several texts in one: RecBk BlkLaw Blk1 Blk2 BlkW BlkTk.
-/
import Derived.Test.YtplgcfjcdjlnbaaKGE
import Derived.Test.YtplgcfjcdjlnbaaKGC
import Derived.Test.YtplgcfjcdjlnbaaKGF
import Derived.Test.YtplgcfjcdjlnbaaKGB
/-
  A whole record is taken as it was laid: the plain law.
-/
set_option linter.unusedSimpArgs false
set_option linter.unusedVariables false
namespace Go.Proofs.Ytplgcfjcdjlnbaa
open Go.RowKit NumLaw

theorem sgn_un34 (i : Int) (h : in32 i) : sgn 4 (un i % 256 ^ 4) = i := by
  unfold in32 at h
  unfold sgn un
  simp
  split <;> omega
theorem drop4 (u : Nat) (L : List UInt8) : (bytesN 4 u ++ L).drop 4 = L := by
  rw [List.drop_append_of_le_length (by rw [bytesN_len]; exact Nat.le_refl _), List.drop_eq_nil_of_le (by rw [bytesN_len]; exact Nat.le_refl _), List.nil_append]
theorem flat4 : ∀ (V : List Int) (i : Nat) (x : Int) (R : List UInt8), V[i]? = some x → (((V.flatMap fun x => bytesN 4 (un x)) ++ R).drop (4 * i)).take 4 = bytesN 4 (un x)
  | [], i, x, R, h => by simp at h
  | y :: V, 0, x, R, h => by
    simp at h
    subst h
    rw [Nat.mul_zero, List.drop_zero, List.flatMap_cons, List.append_assoc, List.take_append_of_le_length (by rw [bytesN_len]; exact Nat.le_refl _), List.take_of_length_le (by rw [bytesN_len]; exact Nat.le_refl _)]
  | y :: V, i + 1, x, R, h => by
    have ih := flat4 V i x R (by simpa using h)
    rw [List.flatMap_cons, List.append_assoc, show 4 * (i + 1) = 4 + 4 * i by omega, ← List.drop_drop, drop4]
    exact ih
theorem key_there {t : Nat} {V : List Int} (R : List UInt8) (ht : t < 4294967296) (hV : V.length = 12) (h32 : ∀ x ∈ V, in32 x) :
    keT (recK t V ++ R) = t ∧ keV (recK t V ++ R) = V ∧ keN (recK t V ++ R) = 52 ∧ keE (recK t V ++ R) = 0 := by
  have hl : ¬ (recK t V ++ R).length < 52 := by rw [List.length_append, recK_len t V hV]; omega
  have e : recK t V ++ R = bytesN 4 t ++ ((V.flatMap fun x => bytesN 4 (un x)) ++ R) := by unfold recK; rw [List.append_assoc]
  refine ⟨?_, ?_, ?_, ?_⟩
  · unfold keT
    rw [if_neg hl, e, List.take_append_of_le_length (by rw [bytesN_len]; exact Nat.le_refl _), List.take_of_length_le (by rw [bytesN_len]; exact Nat.le_refl _), num_bytesN]
    exact Nat.mod_eq_of_lt ht
  · unfold keV
    rw [if_neg hl]
    apply List.ext_getElem?
    intro i
    by_cases hi : i < 12
    · obtain ⟨x, hx⟩ : ∃ x, V[i]? = some x := ⟨V[i]'(by omega), List.getElem?_eq_getElem _⟩
      rw [kvs_at _ hi, hx]
      unfold kvAt
      rw [e, ← List.drop_drop, drop4, flat4 V i x R hx, num_bytesN]
      exact congrArg some (sgn_un34 x (h32 x (List.mem_of_getElem? hx)))
    · rw [List.getElem?_eq_none (by rw [kvs_len]; omega), List.getElem?_eq_none (by omega)]
  · unfold keN; rw [if_neg hl]
  · unfold keE; rw [if_neg hl]

end Go.Proofs.Ytplgcfjcdjlnbaa

/-
  The plain law of layer 35: entries' bytes, a block's bytes.
-/
set_option linter.unusedSimpArgs false
set_option linter.unusedVariables false
namespace Go.Proofs.Ytplgcfjcdjlnbaa
open Go.RowKit NumLaw

/-- A record in a block. -/
structure En where
  key : Bool
  t : Nat
  V : List Int
deriving DecidableEq
def enC (x : En) : List Value := .bool x.key :: rcC x.t x.V
def EnQ (x : En) : Prop := x.t < 4294967296 ∧ x.V.length = 12 ∧ ∀ z ∈ x.V, in32 z
def layB (t : Nat) (V : List Int) (x : En) : List UInt8 := if x.key = true then 75 :: recK x.t x.V else 68 :: recD t V x.t x.V
def layL : Nat → List Int → List En → List UInt8
  | _, _, [] => []
  | t, V, x :: l => layB t V x ++ layL x.t x.V l
def z12L : List Int := List.replicate 12 0
def entB (L : List En) : List UInt8 := layL 0 z12L L
/-- The last record of some, or the one ahead of them. -/
def lastT (t : Nat) : List En → Nat
  | [] => t
  | x :: l => lastT x.t l
def lastV (V : List Int) : List En → List Int
  | [] => V
  | x :: l => lastV x.V l
theorem layL_snoc : ∀ (l : List En) (t : Nat) (V : List Int) (x : En), layL t V (l ++ [x]) = layL t V l ++ layB (lastT t l) (lastV V l) x
  | [], t, V, x => by simp [layL, lastT, lastV]
  | y :: l, t, V, x => by
    show layB t V y ++ layL y.t y.V (l ++ [x]) = (layB t V y ++ layL y.t y.V l) ++ _
    rw [layL_snoc l y.t y.V x, List.append_assoc]
    rfl
theorem last_snoc : ∀ (l : List En) (t : Nat) (V : List Int) (x : En), lastT t (l ++ [x]) = x.t ∧ lastV V (l ++ [x]) = x.V
  | [], t, V, x => ⟨rfl, rfl⟩
  | y :: l, t, V, x => last_snoc l y.t y.V x
theorem last_ok : ∀ (l : List En) (t : Nat) (V : List Int), t < 4294967296 → V.length = 12 → (∀ z ∈ V, in32 z) → (∀ x ∈ l, EnQ x) → lastT t l < 4294967296 ∧ (lastV V l).length = 12 ∧ ∀ z ∈ lastV V l, in32 z
  | [], t, V, h1, h2, h3, _ => ⟨h1, h2, h3⟩
  | y :: l, t, V, h1, h2, h3, h => by
    obtain ⟨a, b, c⟩ := h y List.mem_cons_self
    exact last_ok l y.t y.V a b c (fun x hx => h x (List.mem_cons_of_mem _ hx))
theorem z12L_len : z12L.length = 12 := rfl
theorem z12L_32 : ∀ z ∈ z12L, in32 z := by intro z hz; simp [z12L] at hz; subst hz; unfold in32; omega
theorem recK_len0 (t : Nat) (V : List Int) (hV : V.length = 12) : (recK t V).length = 52 := by
  have : ∀ l : List Int, (l.flatMap fun x => bytesN 4 (un x)).length = 4 * l.length := by
    intro l
    induction l with
    | nil => rfl
    | cons x l ih => rw [List.flatMap_cons, List.length_append, ih, bytesN_len, List.length_cons]; omega
  unfold recK
  rw [List.length_append, bytesN_len, this, hV]
theorem layB_len {t : Nat} {V : List Int} {x : En} (hV : V.length = 12) (h32 : ∀ z ∈ V, in32 z) (hx : EnQ x) : 3 ≤ (layB t V x).length ∧ (layB t V x).length ≤ 68 := by
  unfold layB
  split
  · rw [List.length_cons, recK_len0 _ _ hx.2.1]; omega
  · have := recD_len (t := t) (t' := x.t) hV hx.2.1 h32 hx.2.2
    rw [List.length_cons]; omega
theorem layL_len : ∀ (l : List En) (t : Nat) (V : List Int), V.length = 12 → (∀ z ∈ V, in32 z) → (∀ x ∈ l, EnQ x) → 3 * l.length ≤ (layL t V l).length ∧ (layL t V l).length ≤ 68 * l.length
  | [], t, V, _, _, _ => by simp [layL]
  | y :: l, t, V, h2, h3, h => by
    have hy := h y List.mem_cons_self
    have ih := layL_len l y.t y.V hy.2.1 hy.2.2 (fun x hx => h x (List.mem_cons_of_mem _ hx))
    have := layB_len (t := t) h2 h3 hy
    show 3 * (l.length + 1) ≤ (layB t V y ++ layL y.t y.V l).length ∧ (layB t V y ++ layL y.t y.V l).length ≤ 68 * (l.length + 1)
    rw [List.length_append]
    omega
/-- Why a block has no bytes. -/
def putE (L : List En) : Nat := if L = [] ∨ ((L.map En.key).getD 0 false) = false then 1 else if 248 < (entB L).length then 8 else 0
/-- Its page, ahead of the sum. -/
def pageB (no : Nat) (L : List En) : List UInt8 := [76, UInt8.ofNat L.length] ++ (bytesN 4 no ++ (entB L ++ List.replicate (248 - (entB L).length) 0))
def putB (no : Nat) (L : List En) : List UInt8 := if putE L = 0 then pageB no L ++ tailN (pageB no L) else []
theorem pageB_len {no : Nat} {L : List En} (h : (entB L).length ≤ 248) : (pageB no L).length = 254 := by
  unfold pageB
  rw [List.length_append, List.length_append, List.length_append, bytesN_len, List.length_replicate]
  show 2 + _ = _
  omega

end Go.Proofs.Ytplgcfjcdjlnbaa

/-
  Lay, the program's and the document's, walked (printed by gen_blk1.py).
-/
set_option linter.unusedSimpArgs false
set_option linter.unusedVariables false
namespace Go.Proofs.Ytplgcfjcdjlnbaa
open Go.RowKit NumLaw
attribute [local go_sem] Addr.add_mid

theorem enC_len (x : En) (h : x.V.length = 12) : (enC x).length = 14 := by unfold enC; rw [List.length_cons, rcC_size _ _ h]
theorem enC_one (x : En) : ∀ u ∈ enC x, u.oneCell' = true := by
  intro u hu
  unfold enC at hu
  rcases List.mem_cons.1 hu with rfl | hu
  · rfl
  · exact rcC_one _ _ u hu
theorem own_one (w : World) (e : TypeId) (x : UInt8) (i : Int) (h : ((x.toNat : Nat) : Int) = i) : (w.alloc (.cells #[.int .u8 i] e)).ownsRow w.heap.size e 1 (.slice (some ⟨w.heap.size, 0, none⟩) 1 1) 1 (bv [x]) := by
  subst h
  exact own_new w w.heap.size e (bv [x]) (Nat.le_refl _) (by simp [maxLen, bv])
theorem bv_cons (x : UInt8) (l : List UInt8) : bv [x] ++ bv l = bv (x :: l) := rfl
/-- An entry's block. -/
def EnB (w : World) (g : Nat) (x : En) : Prop := w.heap[g]? = some (.cells (enC x).toArray 46)
theorem EnB.keyc {w : World} {g : Nat} {x : En} (h : EnB w g x) : w.cell? ⟨g, 0, none⟩ = some (.bool x.key) := blk_cell (i := 0) h rfl
theorem EnB.rec_ {w : World} {g : Nat} {x : En} (h : EnB w g x) : w.rangeAt g 1 (rcC x.t x.V) := fun j v hv => by
  refine blk_cell (i := 1 + j) h ?_
  rw [Nat.add_comm]
  simpa [enC] using hv
theorem EnB.all {w : World} {g : Nat} {x : En} (h : EnB w g x) : w.rangeAt g 0 (enC x) := fun j v hv => by
  refine blk_cell (i := 0 + j) h ?_
  rw [Nat.zero_add]
  simpa using hv

set_option maxRecDepth 10000 in
set_option maxHeartbeats 4000000 in
theorem lay_any (t : Nat) (V : List Int) (x : En) (w : World) (ht : t < 4294967296) (hV : V.length = 12) (h32 : ∀ z ∈ V, in32 z) (hx : EnQ x) :
    Calls Try.prog 34 #[.agg (rcC t V).toArray, .agg (enC x).toArray] w (RetB w (layB t V x)) := by
  obtain ⟨i0, hi⟩ := info_parts u8_info
  have Hi := Lib.hid hi
  have HV := Lib.hid hV
  have HX := Lib.hid hx
  have HK := Lib.hid (fun w => recKey_any x.t x.V w hx.1 hx.2.1 hx.2.2)
  have HD := Lib.hid (fun w => recDelta_any t V x.t x.V w ht hV h32 hx.1 hx.2.1 hx.2.2)
  have HKl := Lib.hid (recK_len0 x.t x.V hx.2.1)
  have HDl := Lib.hid (recD_len (t := t) (t' := x.t) hV hx.2.1 h32 hx.2.2)
  obtain ⟨a0, a1, hs, hb⟩ := al2 w (.cells (rcC t V).toArray 25) (.cells (enC x).toArray 46)
  have hkey : x.key = true ∨ x.key = false := by cases x.key <;> simp
  have HL1 : Hid (x.key = true → layB t V x = 75 :: recK x.t x.V) := Lib.hid (fun h => by unfold layB; rw [if_pos h])
  have HL2 : Hid (x.key = false → layB t V x = 68 :: recD t V x.t x.V) := Lib.hid (fun h => by unfold layB; rw [if_neg (by rw [h]; simp)])
  clear hi hV h32 hx ht
  generalize layB t V x = LB at *
  go_enter Try.func34, Try.ntmps34
  go_wp2_with (with_reducible refine stop_loadT 4 ?_)
  (try rw [hs])
  generalize ((w.alloc (.cells (rcC t V).toArray 25)).alloc (.cells (enC x).toArray 46)) = w1 at *
  replace a0 : RcB w1 w.heap.size t V := a0
  replace a1 : EnB w1 (w.heap.size + 1) x := a1
  rcases hkey with hk | hk
  · have c0 := a1.keyc
    rw [hk] at c0
    refine go_ ?_
    go_wp2_with (first | (with_reducible refine stop_loadT 25 ?_) | (with_reducible refine stop_storeT 25 ?_) | (with_reducible refine stop_loadG 25 ?_))
    have ownA : (w1.alloc (.cells #[.int .u8 75] 5)).ownsRow w1.heap.size 5 1 (.slice (some ⟨w1.heap.size, 0, none⟩) 1 1) 1 (bv [75]) := own_one w1 _ 75 75 (by decide)
    have hbx : Below w1.heap.size w1 (w1.alloc (.cells #[.int .u8 75] 5)) := (Below.refl _ _).alloc (Nat.le_refl _) _
    replace a0 : RcB _ w.heap.size t V := blk_old a0 hbx (blk_lt a0)
    replace a1 : EnB _ (w.heap.size + 1) x := blk_old a1 hbx (blk_lt a1)
    replace hb := bnx hb hbx
    rw [hs] at ownA
    clear hbx c0 hs
    generalize (w1.alloc (.cells #[.int .u8 75] 5)) = w2 at *
    refine go_ (wpList_load_mid rfl _ _ rfl (w.heap.size + 1) 1 rfl _ _ a1.rec_ Try.underlying25 rfl (by rw [rcC_size x.t x.V HX.out.2.1]; kernel_rfl) ?_)
    go_wp2_with fail
    go_fit (HK.out w2)
    rintro e w3 ⟨A3, c3, n3, rfl, own3, hb3⟩
    have hl3 := own_len own3
    rw [HKl.out] at hl3
    have hr3 := Rd.own own3
    replace ownA := own_up ownA hb3 (Nat.le_refl _)
    replace hb := bnx hb hb3
    have hsz3 : w.heap.size + 2 ≤ w3.heap.size := Nat.le_of_lt (show w.heap.size + 2 < w3.heap.size from (own_blk ownA rfl).2)
    clear hb3 own3 a0 a1
    go_wp2_with (at_builtin; refine stop_ ?_)
    refine go_ (wpList_appG (base := w.heap.size + 2) (n := 1) Try.underlying26 Hi.out rfl (by omega) ownA rfl hr3 rfl (bv_one _) (k := 1 + n3) (ys := bv (75 :: recK x.t x.V)) rfl (bv_cons _ _) (by unfold maxLen; omega) (by omega) hsz3 ?_)
    intro A4 c4 w4 own4 hgr hob
    have hb4 := Below.grown hb hgr hb.size (fun j hj => by have := (own_blk ownA hj).1; omega)
    clear hgr hob ownA hr3 hb
    go_wp2
    go_ret
    exact ⟨A4, c4, 1 + n3, rfl, by rw [HL1.out hk]; exact own_mono own4 (by omega), hb4⟩
  · have c0 := a1.keyc
    rw [hk] at c0
    refine go_ ?_
    go_wp2_with (first | (with_reducible refine stop_loadT 25 ?_) | (with_reducible refine stop_storeT 25 ?_) | (with_reducible refine stop_loadG 25 ?_))
    have ownA : (w1.alloc (.cells #[.int .u8 68] 5)).ownsRow w1.heap.size 5 1 (.slice (some ⟨w1.heap.size, 0, none⟩) 1 1) 1 (bv [68]) := own_one w1 _ 68 68 (by decide)
    have hbx : Below w1.heap.size w1 (w1.alloc (.cells #[.int .u8 68] 5)) := (Below.refl _ _).alloc (Nat.le_refl _) _
    replace a0 : RcB _ w.heap.size t V := blk_old a0 hbx (blk_lt a0)
    replace a1 : EnB _ (w.heap.size + 1) x := blk_old a1 hbx (blk_lt a1)
    replace hb := bnx hb hbx
    rw [hs] at ownA
    clear hbx c0 hs
    generalize (w1.alloc (.cells #[.int .u8 68] 5)) = w2 at *
    refine go_ (wpList_load_mid rfl _ _ rfl w.heap.size 0 rfl _ _ a0.all Try.underlying25 rfl (by rw [rcC_size t V HV.out]; kernel_rfl) ?_)
    go_wp2_with (first | (with_reducible refine stop_loadT 25 ?_) | (with_reducible refine stop_storeT 25 ?_) | (with_reducible refine stop_loadG 25 ?_))
    refine go_ (wpList_load_mid rfl _ _ rfl (w.heap.size + 1) 1 rfl _ _ a1.rec_ Try.underlying25 rfl (by rw [rcC_size x.t x.V HX.out.2.1]; kernel_rfl) ?_)
    go_wp2_with fail
    go_fit (HD.out w2)
    rintro e w3 ⟨A3, c3, n3, rfl, own3, hb3⟩
    have hl3 := own_len own3
    have hl4 := HDl.out
    rw [hl3] at hl4
    have hr3 := Rd.own own3
    replace ownA := own_up ownA hb3 (Nat.le_refl _)
    replace hb := bnx hb hb3
    have hsz3 : w.heap.size + 2 ≤ w3.heap.size := Nat.le_of_lt (show w.heap.size + 2 < w3.heap.size from (own_blk ownA rfl).2)
    clear hb3 own3 a0 a1
    go_wp2_with (at_builtin; refine stop_ ?_)
    refine go_ (wpList_appG (base := w.heap.size + 2) (n := 1) Try.underlying26 Hi.out rfl (by omega) ownA rfl hr3 rfl (bv_one _) (k := 1 + n3) (ys := bv (68 :: recD t V x.t x.V)) rfl (bv_cons _ _) (by unfold maxLen; omega) (by omega) hsz3 ?_)
    intro A4 c4 w4 own4 hgr hob
    have hb4 := Below.grown hb hgr hb.size (fun j hj => by have := (own_blk ownA hj).1; omega)
    clear hgr hob ownA hr3 hb
    go_wp2
    go_ret
    exact ⟨A4, c4, 1 + n3, rfl, by rw [HL2.out hk]; exact own_mono own4 (by omega), hb4⟩
set_option maxRecDepth 10000 in
set_option maxHeartbeats 4000000 in
theorem qlay_any (t : Nat) (V : List Int) (x : En) (w : World) (ht : t < 4294967296) (hV : V.length = 12) (h32 : ∀ z ∈ V, in32 z) (hx : EnQ x) :
    Calls Try.prog 35 #[.agg (rcC t V).toArray, .agg (enC x).toArray] w (RetB w (layB t V x)) := by
  obtain ⟨i0, hi⟩ := info_parts u8_info
  have Hi := Lib.hid hi
  have HV := Lib.hid hV
  have HX := Lib.hid hx
  have HK := Lib.hid (fun w => qrecKey_any x.t x.V w hx.1 hx.2.1 hx.2.2)
  have HD := Lib.hid (fun w => qrecDelta_any t V x.t x.V w ht hV h32 hx.1 hx.2.1 hx.2.2)
  have HKl := Lib.hid (recK_len0 x.t x.V hx.2.1)
  have HDl := Lib.hid (recD_len (t := t) (t' := x.t) hV hx.2.1 h32 hx.2.2)
  obtain ⟨a0, a1, hs, hb⟩ := al2 w (.cells (rcC t V).toArray 25) (.cells (enC x).toArray 46)
  have hkey : x.key = true ∨ x.key = false := by cases x.key <;> simp
  have HL1 : Hid (x.key = true → layB t V x = 75 :: recK x.t x.V) := Lib.hid (fun h => by unfold layB; rw [if_pos h])
  have HL2 : Hid (x.key = false → layB t V x = 68 :: recD t V x.t x.V) := Lib.hid (fun h => by unfold layB; rw [if_neg (by rw [h]; simp)])
  clear hi hV h32 hx ht
  generalize layB t V x = LB at *
  go_enter Try.func35, Try.ntmps35
  go_wp2_with (with_reducible refine stop_loadT 4 ?_)
  (try rw [hs])
  generalize ((w.alloc (.cells (rcC t V).toArray 25)).alloc (.cells (enC x).toArray 46)) = w1 at *
  replace a0 : RcB w1 w.heap.size t V := a0
  replace a1 : EnB w1 (w.heap.size + 1) x := a1
  rcases hkey with hk | hk
  · have c0 := a1.keyc
    rw [hk] at c0
    refine go_ ?_
    go_wp2_with (first | (with_reducible refine stop_loadT 25 ?_) | (with_reducible refine stop_storeT 25 ?_) | (with_reducible refine stop_loadG 25 ?_))
    have ownA : (w1.alloc (.cells #[.int .u8 75] 5)).ownsRow w1.heap.size 5 1 (.slice (some ⟨w1.heap.size, 0, none⟩) 1 1) 1 (bv [75]) := own_one w1 _ 75 75 (by decide)
    have hbx : Below w1.heap.size w1 (w1.alloc (.cells #[.int .u8 75] 5)) := (Below.refl _ _).alloc (Nat.le_refl _) _
    replace a0 : RcB _ w.heap.size t V := blk_old a0 hbx (blk_lt a0)
    replace a1 : EnB _ (w.heap.size + 1) x := blk_old a1 hbx (blk_lt a1)
    replace hb := bnx hb hbx
    rw [hs] at ownA
    clear hbx c0 hs
    generalize (w1.alloc (.cells #[.int .u8 75] 5)) = w2 at *
    refine go_ (wpList_load_mid rfl _ _ rfl (w.heap.size + 1) 1 rfl _ _ a1.rec_ Try.underlying25 rfl (by rw [rcC_size x.t x.V HX.out.2.1]; kernel_rfl) ?_)
    go_wp2_with fail
    go_fit (HK.out w2)
    rintro e w3 ⟨A3, c3, n3, rfl, own3, hb3⟩
    have hl3 := own_len own3
    rw [HKl.out] at hl3
    have hr3 := Rd.own own3
    replace ownA := own_up ownA hb3 (Nat.le_refl _)
    replace hb := bnx hb hb3
    have hsz3 : w.heap.size + 2 ≤ w3.heap.size := Nat.le_of_lt (show w.heap.size + 2 < w3.heap.size from (own_blk ownA rfl).2)
    clear hb3 own3 a0 a1
    go_wp2_with (at_builtin; refine stop_ ?_)
    refine go_ (wpList_appG (base := w.heap.size + 2) (n := 1) Try.underlying26 Hi.out rfl (by omega) ownA rfl hr3 rfl (bv_one _) (k := 1 + n3) (ys := bv (75 :: recK x.t x.V)) rfl (bv_cons _ _) (by unfold maxLen; omega) (by omega) hsz3 ?_)
    intro A4 c4 w4 own4 hgr hob
    have hb4 := Below.grown hb hgr hb.size (fun j hj => by have := (own_blk ownA hj).1; omega)
    clear hgr hob ownA hr3 hb
    go_wp2
    go_ret
    exact ⟨A4, c4, 1 + n3, rfl, by rw [HL1.out hk]; exact own_mono own4 (by omega), hb4⟩
  · have c0 := a1.keyc
    rw [hk] at c0
    refine go_ ?_
    go_wp2_with (first | (with_reducible refine stop_loadT 25 ?_) | (with_reducible refine stop_storeT 25 ?_) | (with_reducible refine stop_loadG 25 ?_))
    have ownA : (w1.alloc (.cells #[.int .u8 68] 5)).ownsRow w1.heap.size 5 1 (.slice (some ⟨w1.heap.size, 0, none⟩) 1 1) 1 (bv [68]) := own_one w1 _ 68 68 (by decide)
    have hbx : Below w1.heap.size w1 (w1.alloc (.cells #[.int .u8 68] 5)) := (Below.refl _ _).alloc (Nat.le_refl _) _
    replace a0 : RcB _ w.heap.size t V := blk_old a0 hbx (blk_lt a0)
    replace a1 : EnB _ (w.heap.size + 1) x := blk_old a1 hbx (blk_lt a1)
    replace hb := bnx hb hbx
    rw [hs] at ownA
    clear hbx c0 hs
    generalize (w1.alloc (.cells #[.int .u8 68] 5)) = w2 at *
    refine go_ (wpList_load_mid rfl _ _ rfl w.heap.size 0 rfl _ _ a0.all Try.underlying25 rfl (by rw [rcC_size t V HV.out]; kernel_rfl) ?_)
    go_wp2_with (first | (with_reducible refine stop_loadT 25 ?_) | (with_reducible refine stop_storeT 25 ?_) | (with_reducible refine stop_loadG 25 ?_))
    refine go_ (wpList_load_mid rfl _ _ rfl (w.heap.size + 1) 1 rfl _ _ a1.rec_ Try.underlying25 rfl (by rw [rcC_size x.t x.V HX.out.2.1]; kernel_rfl) ?_)
    go_wp2_with fail
    go_fit (HD.out w2)
    rintro e w3 ⟨A3, c3, n3, rfl, own3, hb3⟩
    have hl3 := own_len own3
    have hl4 := HDl.out
    rw [hl3] at hl4
    have hr3 := Rd.own own3
    replace ownA := own_up ownA hb3 (Nat.le_refl _)
    replace hb := bnx hb hb3
    have hsz3 : w.heap.size + 2 ≤ w3.heap.size := Nat.le_of_lt (show w.heap.size + 2 < w3.heap.size from (own_blk ownA rfl).2)
    clear hb3 own3 a0 a1
    go_wp2_with (at_builtin; refine stop_ ?_)
    refine go_ (wpList_appG (base := w.heap.size + 2) (n := 1) Try.underlying26 Hi.out rfl (by omega) ownA rfl hr3 rfl (bv_one _) (k := 1 + n3) (ys := bv (68 :: recD t V x.t x.V)) rfl (bv_cons _ _) (by unfold maxLen; omega) (by omega) hsz3 ?_)
    intro A4 c4 w4 own4 hgr hob
    have hb4 := Below.grown hb hgr hb.size (fun j hj => by have := (own_blk ownA hj).1; omega)
    clear hgr hob ownA hr3 hb
    go_wp2
    go_ret
    exact ⟨A4, c4, 1 + n3, rfl, by rw [HL2.out hk]; exact own_mono own4 (by omega), hb4⟩

end Go.Proofs.Ytplgcfjcdjlnbaa

/-
  Entries' bytes, the program's and the document's, walked (printed by gen_blk2.py).
-/
set_option linter.unusedSimpArgs false
set_option linter.unusedVariables false
namespace Go.Proofs.Ytplgcfjcdjlnbaa
open Go.RowKit NumLaw
attribute [local go_sem] Addr.add_mid

def zen : En := ⟨false, 0, z12⟩
theorem en_store (x : En) (hV : x.V.length = 12) (w : World) (g : Nat) {old : Array Value} (ho : w.heap[g]? = some (.cells old 46)) :
    EnB (w.setRow g (enC x).toArray) g x ∧ Aw (fun k => k = g) w (w.setRow g (enC x).toArray) :=
  ⟨setRow_heap _ _ _ _ _ _ ho, ⟨setRow_os w _ _, setRow_tape w _ _, setRow_output w _ _, by rw [setRow_size]; exact Nat.le_refl _, fun k _ hu => setRow_other w _ k _ hu⟩⟩
/-- Entries that a slice reads. -/
def RdE (w : World) (B : Nat) (A : Option Addr) (n c : Nat) (L : List En) : Prop := RdR w B 14 A n c (L.map enC)
theorem RdE.len {w : World} {B : Nat} {A : Option Addr} {n c : Nat} {L : List En} (h : RdE w B A n c L) : L.length = n := by have := h.1; rwa [List.length_map] at this
theorem RdE.at_ {w : World} {B : Nat} {A : Option Addr} {n c : Nat} {L : List En} (h : RdE w B A n c L) {k : Nat} (hk : k < n) : ∃ g off x, A = some ⟨g, off, none⟩ ∧ g < B ∧ L[k]? = some x ∧ w.rangeAt g (off + k * 14) (enC x) := by
  obtain ⟨g, off, r, h1, h2, h3, h4, h5⟩ := RdR.at_ h hk
  rw [List.getElem?_map] at h3
  cases hx : L[k]? with
  | none => rw [hx] at h3; cases h3
  | some x =>
    rw [hx] at h3
    injection h3 with h3
    subst h3
    exact ⟨g, off, x, h1, h2, rfl, h5⟩
theorem range_rec {w : World} {g o : Nat} {x : En} (h : w.rangeAt g o (enC x)) : w.rangeAt g (o + 1) (rcC x.t x.V) := fun j v hv => by
  have := h (1 + j) v (by rw [Nat.add_comm]; simpa [enC] using hv)
  rwa [← Nat.add_assoc] at this
theorem range_key {w : World} {g o : Nat} {x : En} (h : w.rangeAt g o (enC x)) : w.cell? ⟨g, o, none⟩ = some (.bool x.key) := h 0 _ rfl
theorem lay_step {L : List En} {k : Nat} {x : En} (hx : L[k]? = some x) : layL 0 z12L (L.take (k + 1)) = layL 0 z12L (L.take k) ++ layB (lastT 0 (L.take k)) (lastV z12L (L.take k)) x ∧ lastT 0 (L.take (k + 1)) = x.t ∧ lastV z12L (L.take (k + 1)) = x.V := by
  rw [take_succ hx]
  exact ⟨layL_snoc _ _ _ _, last_snoc _ 0 _ _⟩

set_option maxRecDepth 10000 in
set_option maxHeartbeats 4000000 in
theorem lays_any (A : Option Addr) (n c B : Nat) (L : List En) (w : World) (h : RdE w B A n c L) (hB : B ≤ w.heap.size) (hq : ∀ x ∈ L, EnQ x) (hn : n ≤ 100000) :
    Calls Try.prog 87 #[.slice A n c] w (RetB w (entB L)) := by
  have hll := h.len
  have HL := Lib.hid hll
  have HQ := Lib.hid hq
  obtain ⟨i0, hi⟩ := info_parts u8_info
  have Hi := Lib.hid hi
  have hb := (Below.refl w.heap.size w).alloc (Nat.le_refl _) (.cells #[.int .u32 0, .int .i32 0, .int .i32 0, .int .i32 0, .int .i32 0, .int .i32 0, .int .i32 0, .int .i32 0, .int .i32 0, .int .i32 0, .int .i32 0, .int .i32 0, .int .i32 0] 25)
  have hw0 := heap_alloc_new w (.cells #[.int .u32 0, .int .i32 0, .int .i32 0, .int .i32 0, .int .i32 0, .int .i32 0, .int .i32 0, .int .i32 0, .int .i32 0, .int .i32 0, .int .i32 0, .int .i32 0, .int .i32 0] 25)
  clear hll hq hi
  go_enter Try.func87, Try.ntmps87
  go_wp2_with fail
  generalize (w.alloc (.cells #[.int .u32 0, .int .i32 0, .int .i32 0, .int .i32 0, .int .i32 0, .int .i32 0, .int .i32 0, .int .i32 0, .int .i32 0, .int .i32 0, .int .i32 0, .int .i32 0, .int .i32 0] 25)) = w1 at *
  replace hw0 : RcB w1 w.heap.size 0 z12 := hw0
  go_loopw [3, 9] (fun s i wr => ∃ (k m : Nat) (A2 : Option Addr) (c2 : Nat), k ≤ n ∧ i = .int .i64 k ∧ s = .slice A2 m c2 ∧ m ≤ 68 * k ∧ RcB wr w.heap.size (lastT 0 (L.take k)) (lastV z12L (L.take k)) ∧ wr.ownsRow (w.heap.size + 1) 5 1 (.slice A2 m c2) m (bv (layL 0 z12L (L.take k))) ∧ Below w.heap.size w wr) (fun _ i _ => n - (intOf i).toNat)
  case atStart => exact ⟨0, 0, none, 0, by omega, rfl, rfl, by omega, hw0, World.ownsRow_nil _ _ _ _, hb⟩
  case round =>
    clear hw0 hb w1
    obtain ⟨k, m, A2, c2, hk, rfl, rfl, hm, hw0, hown, hb⟩ := hrel
    by_cases hlt : k < n
    · obtain ⟨gL, off, x, hA, hgB, hx, hr⟩ := h.at_ hlt
      subst hA
      have hxq := HQ.out x (List.mem_of_getElem? hx)
      have HX := Lib.hid hxq
      obtain ⟨s1, s2, s3⟩ := lay_step hx
      have hok := last_ok (L.take k) 0 z12L (by omega) z12L_len z12L_32 (fun y hy => HQ.out y (List.mem_of_mem_take hy))
      have hlb := layB_len (t := lastT 0 (L.take k)) hok.2.1 hok.2.2 hxq
      have hlay := fun w => lay_any (lastT 0 (L.take k)) (lastV z12L (L.take k)) x w hok.1 hok.2.1 hok.2.2 hxq
      have HLay := Lib.hid hlay
      have HOk := Lib.hid hok.2.1
      have HS := Lib.hid s1
      have HSt := Lib.hid s2
      have HSv := Lib.hid s3
      have hr1 : wr.rangeAt gL (off + k * 14) (enC x) := fun j v hv => (hb.cell (p := ⟨gL, off + k * 14 + j, none⟩) (show gL < w.heap.size by omega)).trans (hr j v hv)
      have Hr1 := Lib.hid hr1
      generalize lastT 0 (L.take k) = T0 at *
      generalize lastV z12L (L.take k) = V0 at *
      clear hxq s1 s2 s3 hok hlay hr1 hx hr
      have hklt : (k : Int) < (n : Int) := by omega
      go_wp2_with (first | (with_reducible refine stop_loadT 46 ?_) | (with_reducible refine stop_storeT 46 ?_) | (with_reducible refine stop_loadG 46 ?_))
      refine go_ (wpList_load_mid rfl _ _ rfl gL (off + k * 14) rfl _ _ Hr1.out Try.underlying46 rfl (by rw [enC_len x HX.out.2.1]; kernel_rfl) ?_)
      go_wp2_with (first | (with_reducible refine stop_loadT 46 ?_) | (with_reducible refine stop_storeT 46 ?_) | (with_reducible refine stop_loadG 46 ?_))
      have hbx : Below wr.heap.size wr (wr.alloc (.cells #[.bool false, .int .u32 0, .int .i32 0, .int .i32 0, .int .i32 0, .int .i32 0, .int .i32 0, .int .i32 0, .int .i32 0, .int .i32 0, .int .i32 0, .int .i32 0, .int .i32 0, .int .i32 0] 46)) := (Below.refl _ _).alloc (Nat.le_refl _) _
      have r6 := heap_alloc_new wr (.cells #[.bool false, .int .u32 0, .int .i32 0, .int .i32 0, .int .i32 0, .int .i32 0, .int .i32 0, .int .i32 0, .int .i32 0, .int .i32 0, .int .i32 0, .int .i32 0, .int .i32 0, .int .i32 0] 46)
      have lt0 : w.heap.size < wr.heap.size := blk_lt hw0
      have hne : ∀ j, (Value.slice A2 m c2).ownBlock = some j → j ≠ wr.heap.size := fun j hj => by have := (own_blk hown hj).2; omega
      replace hown := own_up hown hbx (Nat.le_refl _)
      replace hw0 : RcB _ w.heap.size T0 V0 := blk_old hw0 hbx (blk_lt hw0)
      replace hb := bnx hb hbx
      generalize (wr.alloc (.cells #[.bool false, .int .u32 0, .int .i32 0, .int .i32 0, .int .i32 0, .int .i32 0, .int .i32 0, .int .i32 0, .int .i32 0, .int .i32 0, .int .i32 0, .int .i32 0, .int .i32 0, .int .i32 0] 46)) = w2 at *
      generalize wr.heap.size = g6 at *
      replace r6 : EnB w2 g6 zen := r6
      clear hbx Hr1 wr
      refine go_ (wpList_store_row rfl _ _ _ rfl g6 (enC x).toArray rfl rfl _ _ r6 (by rw [List.size_toArray, enC_len x HX.out.2.1]; kernel_rfl) (by rw [List.size_toArray, List.size_toArray, enC_len x HX.out.2.1]; rfl) (all_oneCell_toArray (enC_one x)) ?_)
      obtain ⟨x6, hAz⟩ := en_store x HX.out.2.1 w2 g6 r6
      replace hown := own_aw hown hAz (fun j hj hu => hne j hj hu)
      replace hw0 : RcB _ w.heap.size T0 V0 := hAz.keep hw0 (by omega)
      replace hb := below_awG hb hAz (fun k hk => by omega) hb.size
      generalize (w2.setRow g6 (enC x).toArray) = w3 at *
      clear hAz r6 w2
      go_wp2_with (first | (with_reducible refine stop_loadT 25 ?_) | (with_reducible refine stop_storeT 25 ?_) | (with_reducible refine stop_loadG 25 ?_) | (with_reducible refine stop_loadT 46 ?_) | (with_reducible refine stop_storeT 46 ?_) | (with_reducible refine stop_loadG 46 ?_))
      refine go_ (wpList_load_mid rfl _ _ rfl w.heap.size 0 rfl _ _ hw0.all Try.underlying25 rfl (by rw [rcC_size T0 V0 HOk.out]; kernel_rfl) ?_)
      go_wp2_with (first | (with_reducible refine stop_loadT 25 ?_) | (with_reducible refine stop_storeT 25 ?_) | (with_reducible refine stop_loadG 25 ?_) | (with_reducible refine stop_loadT 46 ?_) | (with_reducible refine stop_storeT 46 ?_) | (with_reducible refine stop_loadG 46 ?_))
      refine go_ (wpList_load_mid rfl _ _ rfl g6 0 rfl _ _ x6.all Try.underlying46 rfl (by rw [enC_len x HX.out.2.1]; kernel_rfl) ?_)
      go_wp2_with fail
      go_fit (HLay.out w3)
      rintro e w4 ⟨A4, c4, n4, rfl, own4, hb4⟩
      have hl4 := own_len own4
      rw [hl4] at hlb
      have hr4 := Rd.own own4
      replace hown := own_up hown hb4 (Nat.le_refl _)
      replace hw0 : RcB w4 w.heap.size T0 V0 := blk_old hw0 hb4 (blk_lt hw0)
      replace x6 : EnB w4 g6 x := blk_old x6 hb4 (blk_lt x6)
      replace hb := bnx hb hb4
      clear hb4 own4 hl4
      obtain ⟨hlb1, hlb2⟩ := hlb
      go_wp2_with (at_builtin; refine stop_ ?_)
      refine go_ (wpList_appG (base := w.heap.size + 1) (n := m) Try.underlying26 Hi.out rfl (by omega) hown rfl hr4 rfl (bv_one _) (k := m + n4) (ys := bv (layL 0 z12L (L.take k) ++ layB T0 V0 x)) rfl (bv_app _ _).symm (by unfold maxLen; omega) (by omega) (by have := blk_lt x6; omega) ?_)
      intro A5 c5 w5 own5 hgr hob
      have hne5 : ∀ j, (Value.slice A2 m c2).ownBlock = some j → w.heap.size < j := fun j hj => by have := (own_blk hown hj).1; omega
      have hw5 : RcB w5 w.heap.size T0 V0 := (hgr.block _ (blk_lt hw0) (fun e => by have := hne5 _ e.symm; omega)).trans hw0
      have x65 : EnB w5 g6 x := (hgr.block _ (blk_lt x6) (fun e => hne _ e.symm rfl)).trans x6
      have hb5 := Below.grown hb hgr hb.size (fun j hj => by have := hne5 j hj; omega)
      clear hgr hob hown hw0 x6 hb hr4 hne5
      go_wp2_with (first | (with_reducible refine stop_loadT 25 ?_) | (with_reducible refine stop_storeT 25 ?_) | (with_reducible refine stop_loadG 25 ?_) | (with_reducible refine stop_loadT 46 ?_) | (with_reducible refine stop_storeT 46 ?_) | (with_reducible refine stop_loadG 46 ?_))
      refine go_ (wpList_load_mid rfl _ _ rfl g6 1 rfl _ _ x65.rec_ Try.underlying25 rfl (by rw [rcC_size x.t x.V HX.out.2.1]; kernel_rfl) ?_)
      go_wp2_with (first | (with_reducible refine stop_loadT 25 ?_) | (with_reducible refine stop_storeT 25 ?_) | (with_reducible refine stop_loadG 25 ?_) | (with_reducible refine stop_loadT 46 ?_) | (with_reducible refine stop_storeT 46 ?_) | (with_reducible refine stop_loadG 46 ?_))
      refine go_ (wpList_store_row rfl _ _ _ rfl w.heap.size (rcC x.t x.V).toArray rfl rfl _ _ hw5 (by rw [List.size_toArray, rcC_size x.t x.V HX.out.2.1]; kernel_rfl) (by rw [List.size_toArray, List.size_toArray, rcC_size x.t x.V HX.out.2.1, rcC_size T0 V0 HOk.out]) (all_oneCell_toArray (rcC_one x.t x.V)) ?_)
      obtain ⟨hz, hAz⟩ := rc_store x.t x.V HX.out.2.1 w5 w.heap.size hw5
      have own6 := own_aw own5 hAz (fun j hj hu => by have := (own_blk own5 hj).1; omega)
      have hb6 := below_awG hb5 hAz (fun k hk => by omega) hb5.size
      generalize (w5.setRow w.heap.size (rcC x.t x.V).toArray) = w6 at *
      clear hAz hw5 x65 own5 hb5 w5 hne
      go_wp2
      go_roundw
      case rel => exact ⟨k + 1, m + n4, A5, c5, by omega, by go_num, rfl, by omega, by rw [HSt.out, HSv.out]; exact hz, by rw [HS.out]; exact own6, hb6⟩
      case measure => simp [intOf]; omega
    · obtain rfl : k = n := by omega
      rw [List.take_of_length_le (by rw [HL.out]; exact Nat.le_refl _)] at hown
      go_wp2
      go_ret
      exact ⟨A2, c2, m, rfl, own_mono hown (by omega), hb⟩
set_option maxRecDepth 10000 in
set_option maxHeartbeats 4000000 in
theorem qlays_any (A : Option Addr) (n c B : Nat) (L : List En) (w : World) (h : RdE w B A n c L) (hB : B ≤ w.heap.size) (hq : ∀ x ∈ L, EnQ x) (hn : n ≤ 100000) :
    Calls Try.prog 90 #[.slice A n c] w (RetB w (entB L)) := by
  have hll := h.len
  have HL := Lib.hid hll
  have HQ := Lib.hid hq
  obtain ⟨i0, hi⟩ := info_parts u8_info
  have Hi := Lib.hid hi
  have hb := (Below.refl w.heap.size w).alloc (Nat.le_refl _) (.cells #[.int .u32 0, .int .i32 0, .int .i32 0, .int .i32 0, .int .i32 0, .int .i32 0, .int .i32 0, .int .i32 0, .int .i32 0, .int .i32 0, .int .i32 0, .int .i32 0, .int .i32 0] 25)
  have hw0 := heap_alloc_new w (.cells #[.int .u32 0, .int .i32 0, .int .i32 0, .int .i32 0, .int .i32 0, .int .i32 0, .int .i32 0, .int .i32 0, .int .i32 0, .int .i32 0, .int .i32 0, .int .i32 0, .int .i32 0] 25)
  clear hll hq hi
  go_enter Try.func90, Try.ntmps90
  go_wp2_with (first | (with_reducible refine stop_loadT 25 ?_) | (with_reducible refine stop_storeT 25 ?_) | (with_reducible refine stop_loadG 25 ?_))
  generalize (w.alloc (.cells #[.int .u32 0, .int .i32 0, .int .i32 0, .int .i32 0, .int .i32 0, .int .i32 0, .int .i32 0, .int .i32 0, .int .i32 0, .int .i32 0, .int .i32 0, .int .i32 0, .int .i32 0] 25)) = w1 at *
  replace hw0 : RcB w1 w.heap.size 0 z12 := hw0
  refine go_ (wpList_store_row rfl _ _ _ rfl w.heap.size (rcC 0 z12).toArray rfl rfl _ _ hw0 (by kernel_rfl) (by kernel_rfl) (by kernel_rfl) ?_)
  obtain ⟨hz0, hAz0⟩ := rc_store 0 z12 rfl w1 w.heap.size hw0
  replace hb := below_awG hb hAz0 (fun k hk => by omega) hb.size
  generalize (w1.setRow w.heap.size (rcC 0 z12).toArray) = w2 at *
  clear hAz0 hw0 w1
  go_wp2_with fail
  go_loopw [3, 5] (fun s i wr => ∃ (k m : Nat) (A2 : Option Addr) (c2 : Nat), k ≤ n ∧ i = .int .i64 k ∧ s = .slice A2 m c2 ∧ m ≤ 68 * k ∧ RcB wr w.heap.size (lastT 0 (L.take k)) (lastV z12L (L.take k)) ∧ wr.ownsRow (w.heap.size + 1) 5 1 (.slice A2 m c2) m (bv (layL 0 z12L (L.take k))) ∧ Below w.heap.size w wr) (fun _ i _ => n - (intOf i).toNat)
  case atStart => exact ⟨0, 0, none, 0, by omega, rfl, rfl, by omega, hz0, World.ownsRow_nil _ _ _ _, hb⟩
  case round =>
    clear hz0 hb w2
    obtain ⟨k, m, A2, c2, hk, rfl, rfl, hm, hw0, hown, hb⟩ := hrel
    by_cases hlt : k < n
    · obtain ⟨gL, off, x, hA, hgB, hx, hr⟩ := h.at_ hlt
      subst hA
      have hxq := HQ.out x (List.mem_of_getElem? hx)
      have HX := Lib.hid hxq
      obtain ⟨s1, s2, s3⟩ := lay_step hx
      have hok := last_ok (L.take k) 0 z12L (by omega) z12L_len z12L_32 (fun y hy => HQ.out y (List.mem_of_mem_take hy))
      have hlb := layB_len (t := lastT 0 (L.take k)) hok.2.1 hok.2.2 hxq
      have hlay := fun w => qlay_any (lastT 0 (L.take k)) (lastV z12L (L.take k)) x w hok.1 hok.2.1 hok.2.2 hxq
      have HLay := Lib.hid hlay
      have HOk := Lib.hid hok.2.1
      have HS := Lib.hid s1
      have HSt := Lib.hid s2
      have HSv := Lib.hid s3
      have Hr := Lib.hid (show ∀ wq, Below w.heap.size w wq → wq.rangeAt gL (off + k * 14) (enC x) from fun wq hbq j v hv => (hbq.cell (p := ⟨gL, off + k * 14 + j, none⟩) (show gL < w.heap.size by omega)).trans (hr j v hv))
      generalize lastT 0 (L.take k) = T0 at *
      generalize lastV z12L (L.take k) = V0 at *
      clear hxq s1 s2 s3 hok hlay hx hr
      have hklt : (k : Int) < (n : Int) := by omega
      go_wp2_with fail
      refine Ord.region_ (fun w' => RcB w' w.heap.size T0 V0 ∧ Below w.heap.size w w') false [] (by kernel_rfl) (by kernel_rfl) ⟨hw0, hb.drew⟩ ?_
      have hS : RcB wr.drew w.heap.size T0 V0 ∧ Below w.heap.size w wr.drew := ⟨hw0, hb.drew⟩
      replace hown := own_aw (U := fun _ => False) (w' := wr.drew) hown ((Aw.refl _ wr).drew) (fun _ _ h => h)
      clear hw0 hb
      generalize wr.drew = wd at *
      ((with_reducible refine Ord.e_p (v := ?_) ?_ ?_ ?_ ?_); rotate_left; (· exact rfl); (· kernel_rfl); (· intro w2; go_simp; try with_reducible rfl))
      (try simp only [Act.put, List.setIfInBounds_toArray, List.set_cons_zero, List.set_cons_succ])
      refine Ord.e_rowS Try.underlying25 rfl (by rw [rcC_size T0 V0 HOk.out]; kernel_rfl) rfl (by unfold rcC; simp) (fun w' hS => (show RcB w' w.heap.size T0 V0 from hS.1).all) hS (by kernel_rfl) ?_
      (try simp only [Act.put, List.setIfInBounds_toArray, List.set_cons_zero, List.set_cons_succ])
      ((with_reducible refine Ord.e_p (v := ?_) ?_ ?_ ?_ ?_); rotate_left; (· exact rfl); (· kernel_rfl); (· intro w2; go_simp; try with_reducible rfl))
      (try simp only [Act.put, List.setIfInBounds_toArray, List.set_cons_zero, List.set_cons_succ])
      ((with_reducible refine Ord.e_p (v := ?_) ?_ ?_ ?_ ?_); rotate_left; (· exact rfl); (· kernel_rfl); (· intro w2; go_simp; try with_reducible rfl))
      (try simp only [Act.put, List.setIfInBounds_toArray, List.set_cons_zero, List.set_cons_succ])
      ((with_reducible refine Ord.e_p (v := ?_) ?_ ?_ ?_ ?_); rotate_left; (· exact rfl); (· kernel_rfl); (· intro w2; go_simp; try with_reducible rfl))
      (try simp only [Act.put, List.setIfInBounds_toArray, List.set_cons_zero, List.set_cons_succ])
      refine Ord.e_rowS (b := gL) (o := off + k * 14) Try.underlying46 rfl (by rw [enC_len x HX.out.2.1]; kernel_rfl) rfl (by unfold enC; simp) (fun w' hS => Hr.out w' hS.2) hS (by kernel_rfl) ?_
      (try simp only [Act.put, List.setIfInBounds_toArray, List.set_cons_zero, List.set_cons_succ])
      refine Ord.e_x rfl (by kernel_rfl) ?_
      go_wp2_with fail
      go_fit (HLay.out wd)
      rintro e w4 ⟨A4, c4, n4, rfl, own4, hb4⟩
      have hl4 := own_len own4
      rw [hl4] at hlb
      have hr4 := Rd.own own4
      replace hown := own_up hown hb4 (Nat.le_refl _)
      replace hS : RcB w4 w.heap.size T0 V0 ∧ Below w.heap.size w w4 := ⟨blk_old hS.1 hb4 (blk_lt hS.1), bnx hS.2 hb4⟩
      clear hb4 own4 hl4
      obtain ⟨hlb1, hlb2⟩ := hlb
      go_wp2_with fail
      refine Ord.Seg.go hS (fun h => by cases h) ?_
      (try simp only [Act.put, List.setIfInBounds_toArray, List.set_cons_zero, List.set_cons_succ])
      refine Ord.e_x rfl (by kernel_rfl) ?_
      refine wpList_appG (base := w.heap.size + 1) (n := m) Try.underlying26 Hi.out rfl (by omega) hown rfl hr4 rfl (bv_one _) (k := m + n4) (ys := bv (layL 0 z12L (L.take k) ++ layB T0 V0 x)) rfl (bv_app _ _).symm (by unfold maxLen; omega) (by omega) (by have := blk_lt hS.1; omega) ?_
      intro A5 c5 w5 own5 hgr hob
      have hne5 : ∀ j, (Value.slice A2 m c2).ownBlock = some j → w.heap.size < j := fun j hj => by have := (own_blk hown hj).1; omega
      have hw5 : RcB w5 w.heap.size T0 V0 := (hgr.block _ (blk_lt hS.1) (fun e => by have := hne5 _ e.symm; omega)).trans hS.1
      have hb5 := Below.grown hS.2 hgr hS.2.size (fun j hj => by have := hne5 j hj; omega)
      clear hgr hob hown hS hr4 hne5
      go_wp2_with fail
      refine Ord.Seg.go ⟨hw5, hb5⟩ (fun h => by cases h) ?_
      (try simp only [Act.put, List.setIfInBounds_toArray, List.set_cons_zero, List.set_cons_succ])
      ((with_reducible refine Ord.e_p (v := ?_) ?_ ?_ ?_ ?_); rotate_left; (· exact rfl); (· kernel_rfl); (· intro w2; go_simp; try with_reducible rfl))
      (try simp only [Act.put, List.setIfInBounds_toArray, List.set_cons_zero, List.set_cons_succ])
      refine Ord.e_nil ?_
      have hr5 := range_rec (Hr.out w5 hb5)
      go_wp2_with (first | (with_reducible refine stop_loadT 25 ?_) | (with_reducible refine stop_storeT 25 ?_) | (with_reducible refine stop_loadG 25 ?_) | (with_reducible refine stop_loadT 46 ?_) | (with_reducible refine stop_storeT 46 ?_) | (with_reducible refine stop_loadG 46 ?_))
      refine go_ (wpList_load_mid rfl _ _ rfl gL (off + k * 14 + 1) rfl _ _ hr5 Try.underlying25 rfl (by rw [rcC_size x.t x.V HX.out.2.1]; kernel_rfl) ?_)
      go_wp2_with (first | (with_reducible refine stop_loadT 25 ?_) | (with_reducible refine stop_storeT 25 ?_) | (with_reducible refine stop_loadG 25 ?_) | (with_reducible refine stop_loadT 46 ?_) | (with_reducible refine stop_storeT 46 ?_) | (with_reducible refine stop_loadG 46 ?_))
      refine go_ (wpList_store_row rfl _ _ _ rfl w.heap.size (rcC x.t x.V).toArray rfl rfl _ _ hw5 (by rw [List.size_toArray, rcC_size x.t x.V HX.out.2.1]; kernel_rfl) (by rw [List.size_toArray, List.size_toArray, rcC_size x.t x.V HX.out.2.1, rcC_size T0 V0 HOk.out]) (all_oneCell_toArray (rcC_one x.t x.V)) ?_)
      obtain ⟨hz, hAz⟩ := rc_store x.t x.V HX.out.2.1 w5 w.heap.size hw5
      have own6 := own_aw own5 hAz (fun j hj hu => by have := (own_blk own5 hj).1; omega)
      have hb6 := below_awG hb5 hAz (fun k hk => by omega) hb5.size
      generalize (w5.setRow w.heap.size (rcC x.t x.V).toArray) = w6 at *
      clear hAz hw5 own5 hb5 hr5 w5
      go_wp2
      go_roundw
      case rel => exact ⟨k + 1, m + n4, A5, c5, by omega, by go_num, rfl, by omega, by rw [HSt.out, HSv.out]; exact hz, by rw [HS.out]; exact own6, hb6⟩
      case measure => simp [intOf]; omega
    · obtain rfl : k = n := by omega
      rw [List.take_of_length_le (by rw [HL.out]; exact Nat.le_refl _)] at hown
      go_wp2
      go_ret
      exact ⟨A2, c2, m, rfl, own_mono hown (by omega), hb⟩
theorem bsize_any (A : Option Addr) (n c B : Nat) (L : List En) (w : World) (h : RdE w B A n c L) (hB : B ≤ w.heap.size) (hq : ∀ x ∈ L, EnQ x) (hn : n ≤ 100000) :
    Calls Try.prog 37 #[.slice A n c] w fun e w' => e = .returned (.int .i64 ((entB L).length : Int)) ∧ Below w.heap.size w w' := by
  have hl := lays_any A n c B L w h hB hq hn
  have H := Lib.hid hl
  clear hl
  go_enter Try.func37, Try.ntmps37
  go_wp2_with fail
  go_fit H.out
  rintro e w1 ⟨A1, c1, n1, rfl, own1, hb1⟩
  have hl1 := own_len own1
  have Hl1 := Lib.hid hl1
  clear hl1 own1
  go_wp2
  go_ret
  exact ⟨by rw [Hl1.out]; rfl, hb1⟩
theorem qbsize_any (A : Option Addr) (n c B : Nat) (L : List En) (w : World) (h : RdE w B A n c L) (hB : B ≤ w.heap.size) (hq : ∀ x ∈ L, EnQ x) (hn : n ≤ 100000) :
    Calls Try.prog 38 #[.slice A n c] w fun e w' => e = .returned (.int .i64 ((entB L).length : Int)) ∧ Below w.heap.size w w' := by
  have hl := qlays_any A n c B L w h hB hq hn
  have H := Lib.hid hl
  clear hl
  go_enter Try.func38, Try.ntmps38
  go_wp2_with fail
  go_fit H.out
  rintro e w1 ⟨A1, c1, n1, rfl, own1, hb1⟩
  have hl1 := own_len own1
  have Hl1 := Lib.hid hl1
  clear hl1 own1
  go_wp2
  go_ret
  exact ⟨by rw [Hl1.out]; rfl, hb1⟩

end Go.Proofs.Ytplgcfjcdjlnbaa

/-
  A block's page: an array laid by its zero value, a part of it cleared; a range of cells that stays.
-/
set_option linter.unusedSimpArgs false
set_option linter.unusedVariables false
namespace Go.Proofs.Ytplgcfjcdjlnbaa
open Go.RowKit NumLaw

theorem stop_allocT (t : TypeId) {P : Program} {w : World} {ops : Array Oper} {rest : List Oper} {a : Act} {Q : Exit → Act → World → Prop} {d : Option Tmp} {ty : TypeId} {pos : String} {af : Array Edge}
    (h : Stop (wpList P ops Q (⟨d, .alloc t, ty, pos, af, none⟩ :: rest) a w)) : wpList P ops Q (⟨d, .alloc t, ty, pos, af, none⟩ :: rest) a w := h
theorem wpList_allocZ {P : Program} {w : World} {ops : Array Oper} {rest : List Oper} {a : Act} {Q : Exit → Act → World → Prop} {d : Option Tmp} {t ty : TypeId} {pos : String} {af : Array Edge} {z : Array Value}
    (hz : (P.info? t).map (·.zero) = some (some (.agg z)))
    (h : wpList P ops Q rest (a.put d (.pointer (some ⟨w.heap.size, 0, none⟩))) (w.alloc (.cells z t))) : wpList P ops Q (⟨d, .alloc t, ty, pos, af, none⟩ :: rest) a w := by
  obtain ⟨i, hi⟩ : ∃ i, P.info? t = some i := by
    cases h0 : P.info? t with
    | none => rw [h0] at hz; cases hz
    | some i => exact ⟨i, rfl⟩
  rw [hi] at hz
  have hz : i.zero = some (.agg z) := by simpa using hz
  refine wpList_plain rfl fun _ hK => ?_
  unfold Oper.wp execOp
  have hrun : (Instr.alloc t true (.tuple #[])).run P w = .ok (.pointer (some ⟨w.heap.size, 0, none⟩)) (w.alloc (.cells z t)) := by
    simp [Instr.alloc, zeroValue, typeInfo, hi, hz, newVar, newRow, Value.cells]
  simp only [Sem.run_bind, hrun, Result.andThen_ok, Sem.run_pure]
  exact hK _ _ h
theorem stop_clear {P : Program} {w : World} {ops : Array Oper} {rest : List Oper} {a : Act} {Q : Exit → Act → World → Prop} {d : Option Tmp} {ar : Array Operand} {ts : Array TypeId} {ty : TypeId} {pos : String} {af : Array Edge} {g : Option (Nat × Bool)}
    (h : Stop (wpList P ops Q (⟨d, .call { callee := .builtin .clear, args := ar, argTypes := ts }, ty, pos, af, g⟩ :: rest) a w)) : wpList P ops Q (⟨d, .call { callee := .builtin .clear, args := ar, argTypes := ts }, ty, pos, af, g⟩ :: rest) a w := h
theorem below_setCellsG {B b : Nat} {a : World} (hb : B ≤ b) : ∀ (vs : List Value) (o : Nat) (w : World), Below B a w → Below B a (w.setCells b o vs)
  | [], _, _, h => h
  | v :: r, o, w, h => below_setCellsG hb r (o + 1) _ (h.setCell (p := ⟨b, o, none⟩) hb v)
theorem wpList_clear {P : Program} {w w' : World} {ops : Array Oper} {rest : List Oper} {a : Act} {Q : Exit → Act → World → Prop} {d : Option Tmp} {x : Operand} {t ty : TypeId} {pos : String} {af : Array Edge} {v : Value}
    (hx : a.eval x = v) (hrun : (Builtin.clear_ #[t] ty #[v]).run P w = .ok (.tuple #[]) w') (h : wpList P ops Q rest (a.put d (.tuple #[])) w') :
    wpList P ops Q (⟨d, .call { callee := .builtin .clear, args := #[x], argTypes := #[t] }, ty, pos, af, none⟩ :: rest) a w := by
  refine wpList_plain rfl fun _ hK => ?_
  unfold Oper.wp execOp
  simp only [resolve, invoke, builtin, Sem.run_bind, Sem.run_pure, Result.andThen_ok, List.map_toArray, List.map_cons, List.map_nil, hx, hrun]
  exact hK _ _ h
/-- The bytes of a block of which the last are zeros: cleared, they are the same. -/
theorem run_clear_zeros {P : Program} {w : World} {t e ty : TypeId} {i : TypeInfo} (ht : P.underlying t = some (.slice e)) (hi : P.info? e = some i) (hz : i.zero = some (Value.int .u8 0)) {g k m c : Nat} {l : List UInt8} {te : TypeId}
    (hg : w.heap[g]? = some (.cells (bv l ++ List.replicate m (Value.int .u8 0)).toArray te)) (hk : l.length = k) (A : Option Addr) (hA : A = (if c = k then some ⟨g, 0, none⟩ else some ⟨g, k, none⟩)) (hc : k + m ≤ c) :
    ∃ w', (Builtin.clear_ #[t] ty #[.slice A m (c - k)]).run P w = .ok (.tuple #[]) w' ∧ (∀ j u, (bv l ++ List.replicate m (Value.int .u8 0))[j]? = some u → w'.cell? ⟨g, j, none⟩ = some u) ∧ g < w'.heap.size ∧ Below g w w' := by
  have hold : ∀ j u, (bv l ++ List.replicate m (Value.int .u8 0))[j]? = some u → w.cell? ⟨g, j, none⟩ = some u := fun j u hu => blk_cell (i := j) hg (by simpa using hu)
  have hzs : ∀ j, j < m → (bv l ++ List.replicate m (Value.int .u8 0))[k + j]? = some (.int .u8 0) := fun j hj => by
    rw [List.getElem?_append_right (by rw [bv_len]; omega), bv_len, hk, Nat.add_sub_cancel_left]
    simp [hj]
  rcases Nat.eq_zero_or_pos m with h0 | h0
  · subst h0
    refine ⟨w, ?_, hold, blk_lt hg, Below.refl _ _⟩
    subst hA
    split <;> simp [Builtin.clear_, run_underlying ht]
  · rw [if_neg (by omega)] at hA
    subst hA
    have hrun := Lib.run_clear_slice (P := P) w t e ty (.int .u8 0) ht (fun w => by simp [zeroValue, typeInfo, hi, hz]) rfl rfl g k m (c - k) h0
      (fun j hj => by rw [hold (k + j) _ (hzs j hj)]; rfl)
      (fun j hj => blk_free (i := k + j) hg)
    refine ⟨_, hrun, fun j u hu => ?_, Nat.lt_of_lt_of_le (blk_lt hg) (below_setCellsG (Nat.le_refl g) _ _ _ (Below.refl _ _)).size, below_setCellsG (Nat.le_refl g) _ _ _ (Below.refl _ _)⟩
    by_cases hj : j < k
    · rw [World.cell?_setCells_out]
      · exact hold j u hu
      · intro _ _; exact .inl hj
    · have hjl : j < k + m := by
        have := (List.getElem?_eq_some_iff.1 hu).1
        simp [bv_len, hk] at this
        omega
      obtain ⟨q, rfl⟩ : ∃ q, j = k + q := ⟨j - k, by omega⟩
      have := World.cell?_setCells_in g (List.replicate m (Value.int .u8 0)) k w (fun j hj => by
        simp at hj
        rw [hold (k + j) _ (hzs j hj)]; rfl) q (by simp; omega)
      rw [this]
      rw [hzs q (by omega)] at hu
      simpa using hu
theorem rd_page {w : World} {g B : Nat} {l : List UInt8} (hc : ∀ j u, (bv l)[j]? = some u → w.cell? ⟨g, j, none⟩ = some u) (hB : g < B) (hm : l.length ≤ maxLen) : Rd w B 1 (some ⟨g, 0, none⟩) l.length l.length (bv l) :=
  ⟨by rw [bv_len, Nat.mul_one], Nat.le_refl _, hm, fun _ => ⟨_, rfl, hB, fun j u hu => by
    rw [show (⟨g, 0, none⟩ : Addr).add j = ⟨g, j, none⟩ by unfold Addr.add; split <;> simp_all]
    exact hc j u hu⟩⟩
theorem page_info : (Try.prog.info? 133).map (·.zero) = some (some (.agg (List.replicate 254 (Value.int .u8 0)).toArray)) := by kernel_rfl
/-- What Put of a block hands back. -/
def RetBk (w : World) (l : List UInt8) (er : Nat) (e : Ending) (w' : World) : Prop :=
  ∃ A c n, e = .returned (.tuple #[.slice A n c, .int .i64 (er : Int)]) ∧ w'.ownsRow w.heap.size 5 1 (.slice A n c) n (bv l) ∧ Below w.heap.size w w'
theorem retBk_none {w w' : World} {er : Nat} (hb : Below w.heap.size w w') (n : Int) (hn : n = (er : Int)) : RetBk w [] er (.returned (.tuple #[.slice none 0 0, .int .i64 n])) w' := by
  subst hn
  exact ⟨none, 0, 0, rfl, World.ownsRow_nil _ _ _ _, hb⟩
theorem putE_first {L : List En} {x : En} (hx : L[0]? = some x) : putE L = if x.key = false then 1 else if 248 < (entB L).length then 8 else 0 := by
  match L, hx with
  | y :: L, hx =>
    simp at hx
    subst hx
    unfold putE
    simp
theorem putB_none {no : Nat} {L : List En} (h : putE L ≠ 0) : putB no L = [] := by unfold putB; rw [if_neg h]

theorem ent_len35 {L : List En} (hq : ∀ x ∈ L, EnQ x) : 3 * L.length ≤ (entB L).length ∧ (entB L).length ≤ 68 * L.length := layL_len L 0 z12L z12L_len z12L_32 hq
/-- A block's bytes ahead of its zeros. -/
def hdB (no : Nat) (L : List En) : List UInt8 := ((bytesN 1 76 ++ bytesN 1 L.length) ++ bytesN 4 no) ++ entB L
theorem hdB_len (no : Nat) (L : List En) : (hdB no L).length = 6 + (entB L).length := by
  unfold hdB
  rw [List.length_append, List.length_append, List.length_append, bytesN_len, bytesN_len, bytesN_len]
theorem pageB_hd (no : Nat) (L : List En) : pageB no L = hdB no L ++ List.replicate (248 - (entB L).length) 0 := by
  have e : bytesN 1 76 ++ bytesN 1 L.length = [76, UInt8.ofNat L.length] := by
    show [UInt8.ofNat (76 % 256)] ++ [UInt8.ofNat (L.length % 256)] = _
    have : UInt8.ofNat (L.length % 256) = UInt8.ofNat L.length := by
      apply UInt8.toNat_inj.1
      simp
    rw [this]
    rfl
  unfold pageB hdB
  rw [e]
  simp only [List.append_assoc]
theorem bv_rep (m : Nat) : bv (List.replicate m 0) = List.replicate m (Value.int .u8 0) := by
  unfold bv
  rw [List.map_replicate]
  rfl

def slLenB : Value → Nat
  | .slice _ n _ => n
  | _ => 0
theorem own_two (w : World) (base : Nat) (e : TypeId) (x y : UInt8) (i j : Int) (hi : ((x.toNat : Nat) : Int) = i) (hj : ((y.toNat : Nat) : Int) = j) (hB : base ≤ w.heap.size) : (w.alloc (.cells #[.int .u8 i, .int .u8 j] e)).ownsRow base e 1 (.slice (some ⟨w.heap.size, 0, none⟩) 2 2) 2 (bv [x, y]) := by
  subst hi; subst hj
  exact own_new w base e (bv [x, y]) hB (by simp [maxLen, bv])
theorem u8_of {n : Nat} (h : n < 256) : (((UInt8.ofNat n).toNat : Nat) : Int) = n := by
  rw [UInt8.toNat_ofNat']
  omega
theorem hdB_eq (no : Nat) (L : List En) : ([76, UInt8.ofNat L.length] ++ bytesN 4 no) ++ entB L = hdB no L := by
  have e : bytesN 1 76 ++ bytesN 1 L.length = [76, UInt8.ofNat L.length] := by
    show [UInt8.ofNat (76 % 256)] ++ [UInt8.ofNat (L.length % 256)] = _
    have : UInt8.ofNat (L.length % 256) = UInt8.ofNat L.length := by
      apply UInt8.toNat_inj.1
      simp
    rw [this]
    rfl
  unfold hdB
  rw [e]

theorem cut_page (gp k : Nat) (hk : k ≤ 254) (x : Int) (hx : x = (k : Int)) (w : World) : (Instr.sliceAt 133 (.pointer (some ⟨gp, 0, none⟩)) (some (.int .i64 x)) none none).run Try.prog w = .ok (.slice (if 254 = k then some ⟨gp, 0, none⟩ else some ⟨gp, k, none⟩) (254 - k) (254 - k)) w := by
  subst hx
  have hl : Try.prog.arrayLen 133 = 254 := by kernel_rfl
  have hn : Try.prog.elem 133 = 5 := by kernel_rfl
  obtain ⟨i0, hi⟩ := info_parts u8_info
  rw [run_sliceAt_array_l w 133 ⟨gp, 0, none⟩ (by rw [hl, hn]; kernel_rfl) .i64 k (by omega) (by rw [hl]; omega), hl, hn]
  by_cases h0 : 254 = k
  · subst h0; simp [sizeOf, typeInfo, hi.1, hi.2.2.1, slicedAt]
  · have e : (⟨gp, 0, none⟩ : Addr).add k = ⟨gp, k, none⟩ := by unfold Addr.add; split <;> simp_all
    simp [sizeOf, typeInfo, hi.1, hi.2.2.1, slicedAt, h0, e]

end Go.Proofs.Ytplgcfjcdjlnbaa

/-
  The plain law of layer 35: a block's bytes taken, there and back.
-/
set_option linter.unusedSimpArgs false
set_option linter.unusedVariables false
namespace Go.Proofs.Ytplgcfjcdjlnbaa
open Go.RowKit NumLaw CrcLaw

theorem un_sgn4 (m : Nat) (hm : m < 4294967296) : un (sgn 4 m) % 4294967296 = m := by
  unfold sgn un
  simp at hm ⊢
  split <;> omega
theorem bytesN4_mod (u : Nat) : bytesN 4 u = bytesN 4 (u % 4294967296) := by
  apply NumLaw.num_inj
  · rw [bytesN_len, bytesN_len]
  · rw [num_bytesN, num_bytesN]; omega
theorem key_cut : ∀ (k : Nat) (R : List UInt8), 4 * k ≤ R.length → ((List.range k).map fun i => sgn 4 (NumLaw.num ((R.drop (4 * i)).take 4))).flatMap (fun x => bytesN 4 (un x)) = R.take (4 * k)
  | 0, R, _ => by simp
  | k + 1, R, h => by
    have ih := key_cut k R (by omega)
    have hl : ((R.drop (4 * k)).take 4).length = 4 := by rw [List.length_take, List.length_drop]; omega
    rw [List.range_succ, List.map_append, List.flatMap_append, ih]
    simp only [List.map_cons, List.map_nil, List.flatMap_cons, List.flatMap_nil, List.append_nil]
    have hlt := num4_lt ((R.drop (4 * k)).take 4) (by omega)
    have e : bytesN 4 (un (sgn 4 (NumLaw.num ((R.drop (4 * k)).take 4)))) = (R.drop (4 * k)).take 4 := by
      rw [bytesN4_mod, un_sgn4 _ hlt]
      have := bytesN_num ((R.drop (4 * k)).take 4)
      rwa [hl] at this
    rw [e, show 4 * (k + 1) = 4 * k + 4 by omega, List.take_add]
theorem key_back {b : List UInt8} (h : keE b = 0) : recK (keT b) (keV b) = b.take 52 ∧ 52 ≤ b.length ∧ keT b < 4294967296 := by
  have hl : ¬ b.length < 52 := by
    intro h0
    unfold keE at h
    rw [if_pos h0] at h
    cases h
  refine ⟨?_, by omega, ?_⟩
  · unfold keT keV recK kvs
    rw [if_neg hl, if_neg hl]
    have h4 : (b.take 4).length = 4 := by rw [List.length_take]; omega
    have e1 : bytesN 4 (NumLaw.num (b.take 4)) = b.take 4 := by have := bytesN_num (b.take 4); rwa [h4] at this
    have e2 := key_cut 12 (b.drop 4) (by rw [List.length_drop]; omega)
    have e3 : (List.range 12).map (kvAt b) = (List.range 12).map fun i => sgn 4 (NumLaw.num (((b.drop 4).drop (4 * i)).take 4)) := by
      apply List.map_congr_left
      intro i _
      unfold kvAt
      rw [List.drop_drop]
    rw [e1, e3, e2, show (52 : Nat) = 4 + 4 * 12 by rfl, List.take_add]
  · unfold keT
    rw [if_neg hl]
    exact num4_lt _ (by rw [List.length_take]; omega)
theorem keV_32 (b : List UInt8) : ∀ z ∈ keV b, in32 z := by
  unfold keV
  split
  · exact z12_32
  · exact kvs_32 b

/-- The entry that bytes begin with, and how many it has; 0: there is none. -/
def entN (V : List Int) (bg : Bool) : List UInt8 → Nat
  | [] => 0
  | c :: R => if c = 75 then (if keE R = 0 then 53 else 0) else if c = 68 ∧ bg = false then (if recTE V R = 0 then recTn V R + 1 else 0) else 0
def zenE : En := ⟨false, 0, z12⟩
def entX (t : Nat) (V : List Int) (bg : Bool) : List UInt8 → En
  | [] => zenE
  | c :: R => if c = 75 then (if keE R = 0 then ⟨true, keT R, keV R⟩ else zenE) else if c = 68 ∧ bg = false then (if recTE V R = 0 then ⟨false, recTt t V R, recTV V R⟩ else zenE) else zenE
/-- So many entries, and what is left; none: they are not there. -/
def takeL : Nat → Nat → List Int → Bool → List UInt8 → Option (List En × List UInt8)
  | 0, _, _, _, R => some ([], R)
  | m + 1, t, V, bg, R => if entN V bg R = 0 then none else
    (takeL m (entX t V bg R).t (entX t V bg R).V false (R.drop (entN V bg R))).map fun p => (entX t V bg R :: p.1, p.2)
def nullB (R : List UInt8) : Bool := R.all (· == 0)

theorem entN_cons (V : List Int) (bg : Bool) (c : UInt8) (R : List UInt8) : entN V bg (c :: R) = if c = 75 then (if keE R = 0 then 53 else 0) else if c = 68 ∧ bg = false then (if recTE V R = 0 then recTn V R + 1 else 0) else 0 := rfl
theorem entX_cons (t : Nat) (V : List Int) (bg : Bool) (c : UInt8) (R : List UInt8) : entX t V bg (c :: R) = if c = 75 then (if keE R = 0 then ⟨true, keT R, keV R⟩ else zenE) else if c = 68 ∧ bg = false then (if recTE V R = 0 then ⟨false, recTt t V R, recTV V R⟩ else zenE) else zenE := rfl
theorem ent_back {t : Nat} {V : List Int} {bg : Bool} {R : List UInt8} (ht : t < 4294967296) (hV : V.length = 12) (h32 : ∀ z ∈ V, in32 z) (h : entN V bg R ≠ 0) :
    layB t V (entX t V bg R) = R.take (entN V bg R) ∧ entN V bg R ≤ R.length ∧ 3 ≤ entN V bg R ∧ EnQ (entX t V bg R) ∧ (bg = true → (entX t V bg R).key = true) := by
  match R with
  | [] => exact absurd rfl h
  | c :: R =>
    rw [entN_cons] at h
    by_cases hc : c = 75
    · rw [if_pos hc] at h
      have hk : keE R = 0 := by
        rcases Nat.eq_zero_or_pos (keE R) with h0 | h0
        · exact h0
        · rw [if_neg (by omega)] at h; exact absurd rfl h
      obtain ⟨k1, k2, k3⟩ := key_back hk
      have eN : entN V bg (c :: R) = 53 := by rw [entN_cons, if_pos hc, if_pos hk]
      have eX : entX t V bg (c :: R) = ⟨true, keT R, keV R⟩ := by rw [entX_cons, if_pos hc, if_pos hk]
      rw [eN, eX]
      refine ⟨?_, by rw [List.length_cons]; omega, by omega, ⟨k3, keV_len R, keV_32 R⟩, fun _ => rfl⟩
      show 75 :: recK (keT R) (keV R) = c :: R.take 52
      rw [k1, hc]
    · rw [if_neg hc] at h
      by_cases hd : c = 68 ∧ bg = false
      · rw [if_pos hd] at h
        have hk : recTE V R = 0 := by
          rcases Nat.eq_zero_or_pos (recTE V R) with h0 | h0
          · exact h0
          · rw [if_neg (by omega)] at h; exact absurd rfl h
        obtain ⟨k1, k2, k3, k4, k5, k6⟩ := rec_back (t := t) ht hV h32 hk
        have eN : entN V bg (c :: R) = recTn V R + 1 := by rw [entN_cons, if_neg hc, if_pos hd, if_pos hk]
        have eX : entX t V bg (c :: R) = ⟨false, recTt t V R, recTV V R⟩ := by rw [entX_cons, if_neg hc, if_pos hd, if_pos hk]
        rw [eN, eX]
        refine ⟨?_, by rw [List.length_cons]; omega, by omega, ⟨k6, k4, k5⟩, fun hb => by rw [hd.2] at hb; cases hb⟩
        show 68 :: recD t V (recTt t V R) (recTV V R) = c :: R.take (recTn V R)
        rw [k1, hd.1]
      · rw [if_neg hd] at h
        exact absurd rfl h
theorem ent_there {t : Nat} {V : List Int} {bg : Bool} {x : En} (R : List UInt8) (ht : t < 4294967296) (hV : V.length = 12) (h32 : ∀ z ∈ V, in32 z) (hx : EnQ x) (hb : bg = true → x.key = true) :
    entN V bg (layB t V x ++ R) = (layB t V x).length ∧ entX t V bg (layB t V x ++ R) = x := by
  obtain ⟨key, t', V'⟩ := x
  obtain ⟨x1, x2, x3⟩ := hx
  have x1 : t' < 4294967296 := x1
  have x2 : V'.length = 12 := x2
  have x3 : ∀ z ∈ V', in32 z := x3
  cases key with
  | true =>
    obtain ⟨k1, k2, k3, k4⟩ := key_there (t := t') (V := V') R x1 x2 x3
    have e : layB t V ⟨true, t', V'⟩ = 75 :: recK t' V' := by unfold layB; rw [if_pos rfl]
    rw [e, List.cons_append]
    rw [entN_cons, entX_cons, if_pos rfl, if_pos rfl, if_pos k4, if_pos k4, k1, k2, List.length_cons, recK_len t' V' x2]
    exact ⟨rfl, rfl⟩
  | false =>
    have hbg : bg = false := by cases bg; rfl; exact absurd (hb rfl) (by simp)
    obtain ⟨k1, k2, k3, k4⟩ := rec_there (t := t) (t' := t') (V := V) (V' := V') R ht x1 hV x2 h32 x3
    have e : layB t V ⟨false, t', V'⟩ = 68 :: recD t V t' V' := by unfold layB; rw [if_neg (by simp)]
    rw [e, List.cons_append]
    have h75 : ¬ (68 : UInt8) = 75 := by decide
    have hcd : (68 : UInt8) = 68 ∧ bg = false := ⟨rfl, hbg⟩
    rw [entN_cons, entX_cons, if_neg h75, if_neg h75, if_pos hcd, if_pos hcd, if_pos k1, if_pos k1, k2, k3, k4, List.length_cons]
    exact ⟨rfl, rfl⟩
theorem takeL_there : ∀ (L : List En) (t : Nat) (V : List Int) (bg : Bool) (R : List UInt8), t < 4294967296 → V.length = 12 → (∀ z ∈ V, in32 z) → (∀ x ∈ L, EnQ x) → (bg = true → (L.map En.key).getD 0 false = true) → takeL L.length t V bg (layL t V L ++ R) = some (L, R)
  | [], t, V, bg, R, _, _, _, _, _ => rfl
  | x :: L, t, V, bg, R, ht, hV, h32, hq, hb => by
    have hx := hq x List.mem_cons_self
    have e : layL t V (x :: L) ++ R = layB t V x ++ (layL x.t x.V L ++ R) := by
      show (layB t V x ++ layL x.t x.V L) ++ R = _
      rw [List.append_assoc]
    obtain ⟨h1, h2⟩ := ent_there (t := t) (bg := bg) (layL x.t x.V L ++ R) ht hV h32 hx (fun h => by simpa using hb h)
    have hl := layB_len (t := t) hV h32 hx
    rw [e, List.length_cons]
    unfold takeL
    rw [h1, h2, if_neg (by omega), List.drop_append_of_le_length (Nat.le_refl _), List.drop_eq_nil_of_le (Nat.le_refl _), List.nil_append]
    rw [takeL_there L x.t x.V false R hx.1 hx.2.1 hx.2.2 (fun y hy => hq y (List.mem_cons_of_mem _ hy)) (fun h => by cases h)]
    rfl
theorem takeL_back : ∀ (m t : Nat) (V : List Int) (bg : Bool) (R : List UInt8) (L : List En) (R' : List UInt8), t < 4294967296 → V.length = 12 → (∀ z ∈ V, in32 z) → takeL m t V bg R = some (L, R') →
    L.length = m ∧ R = layL t V L ++ R' ∧ (∀ x ∈ L, EnQ x) ∧ (bg = true → 0 < m → (L.map En.key).getD 0 false = true)
  | 0, t, V, bg, R, L, R', _, _, _, h => by
    unfold takeL at h
    injection h with h
    injection h with h1 h2
    subst h1; subst h2
    exact ⟨rfl, rfl, by simp, fun _ h => absurd h (Nat.lt_irrefl _)⟩
  | m + 1, t, V, bg, R, L, R', ht, hV, h32, h => by
    unfold takeL at h
    by_cases h0 : entN V bg R = 0
    · rw [if_pos h0] at h; cases h
    rw [if_neg h0] at h
    obtain ⟨b1, b2, b3, b4, b5⟩ := ent_back (t := t) ht hV h32 h0
    cases hT : takeL m (entX t V bg R).t (entX t V bg R).V false (R.drop (entN V bg R)) with
    | none => rw [hT] at h; cases h
    | some p =>
      obtain ⟨l, r⟩ := p
      rw [hT] at h
      injection h with h
      injection h with h1 h2
      have h1 : entX t V bg R :: l = L := h1
      have h2 : r = R' := h2
      subst h1; subst h2
      obtain ⟨c1, c2, c3, _⟩ := takeL_back m _ _ false _ l r b4.1 b4.2.1 b4.2.2 hT
      refine ⟨by rw [List.length_cons, c1], ?_, fun x hx => ?_, fun hb _ => by simpa using b5 hb⟩
      · show R = (layB t V (entX t V bg R) ++ layL (entX t V bg R).t (entX t V bg R).V l) ++ r
        rw [List.append_assoc, ← c2, b1, List.take_append_drop]
      · rcases List.mem_cons.1 hx with rfl | hx
        · exact b4
        · exact c3 x hx

/-- What Take of a page (a block's bytes ahead of the sum) tells: entries, and what is left. -/
def pgT (p : List UInt8) : Option (List En × List UInt8) :=
  if p.getD 0 0 = 76 ∧ p.getD 1 0 ≠ 0 then takeL (p.getD 1 0).toNat 0 z12L true (p.drop 6) else none
def pgOk (p : List UInt8) : Bool := match pgT p with
  | none => false
  | some q => nullB q.2
def pgL (p : List UInt8) : List En := match pgT p with
  | none => []
  | some q => if nullB q.2 = true then q.1 else []
def blkE (s : List UInt8) : Nat := if s.length < 256 then 2 else if 256 < s.length then 7 else if openB s = false then 4 else if pgOk (openL s) = true then 0 else 3
def blkNo (s : List UInt8) : Nat := if blkE s = 0 then NumLaw.num (((openL s).drop 2).take 4) else 0
def blkL (s : List UInt8) : List En := if blkE s = 0 then pgL (openL s) else []

theorem blk_bad {s : List UInt8} (h : blkE s ≠ 0) : blkNo s = 0 ∧ blkL s = [] := by
  unfold blkNo blkL
  rw [if_neg h, if_neg h]
  exact ⟨rfl, rfl⟩
theorem null_rep (n : Nat) : nullB (List.replicate n 0) = true := by
  unfold nullB
  rw [List.all_eq_true]
  intro x hx
  rw [(List.mem_replicate.1 hx).2]
  rfl
theorem null_eq {R : List UInt8} (h : nullB R = true) : R = List.replicate R.length 0 := by
  apply List.eq_replicate_of_mem
  intro x hx
  unfold nullB at h
  rw [List.all_eq_true] at h
  simpa using h x hx
theorem putE_zero {L : List En} (h : putE L = 0) : L ≠ [] ∧ (L.map En.key).getD 0 false = true ∧ (entB L).length ≤ 248 := by
  unfold putE at h
  by_cases h1 : L = [] ∨ (L.map En.key).getD 0 false = false
  · rw [if_pos h1] at h; cases h
  · rw [if_neg h1] at h
    by_cases h2 : 248 < (entB L).length
    · rw [if_pos h2] at h; cases h
    · refine ⟨fun h => h1 (.inl h), ?_, by omega⟩
      cases hk : (L.map En.key).getD 0 false with
      | true => rfl
      | false => exact absurd (.inr hk) h1
theorem open_seal {l : List UInt8} : openL (l ++ tailN l) = l ∧ openB (l ++ tailN l) = true := by
  have h0 : moreN 65535 (l ++ tailN l) = 0 := by rw [moreN_append]; exact seal_zero (moreN_lt l (by omega))
  have h2 : (tailN l).length = 2 := rfl
  simp [openL, openB, h0, h2]
theorem page_parts {no : Nat} {L : List En} (hn : L.length < 256) : (pageB no L).getD 0 0 = 76 ∧ ((pageB no L).getD 1 0).toNat = L.length ∧ (pageB no L).drop 6 = entB L ++ List.replicate (248 - (entB L).length) 0 ∧ ((pageB no L).drop 2).take 4 = bytesN 4 no := by
  have h4 : (bytesN 4 no).length = 4 := bytesN_len 4 no
  unfold pageB
  refine ⟨rfl, ?_, ?_, ?_⟩
  · show (UInt8.ofNat L.length).toNat = L.length
    simp; omega
  · exact drop4 no _
  · have e : ((bytesN 4 no ++ (entB L ++ List.replicate (248 - (entB L).length) 0)).take 4) = bytesN 4 no := by
      rw [List.take_append_of_le_length (by omega), List.take_of_length_le (by omega)]
    exact e
theorem ent_len {L : List En} (hq : ∀ x ∈ L, EnQ x) : 3 * L.length ≤ (entB L).length ∧ (entB L).length ≤ 68 * L.length := layL_len L 0 z12L z12L_len z12L_32 hq
/-- What is put is taken. -/
theorem blk_there {no : Nat} {L : List En} (hno : no < 4294967296) (hq : ∀ x ∈ L, EnQ x) (h : putE L = 0) : blkE (putB no L) = 0 ∧ blkNo (putB no L) = no ∧ blkL (putB no L) = L ∧ (putB no L).length = 256 := by
  obtain ⟨h1, h2, h3⟩ := putE_zero h
  have hn : L.length < 256 := by have := (ent_len hq).1; omega
  have hn0 : 0 < L.length := List.length_pos_iff.2 h1
  have e : putB no L = pageB no L ++ tailN (pageB no L) := by unfold putB; rw [if_pos h]
  obtain ⟨o1, o2⟩ := open_seal (l := pageB no L)
  obtain ⟨p1, p2, p3, p4⟩ := page_parts (no := no) hn
  have hlen : (putB no L).length = 256 := by rw [e, List.length_append, pageB_len h3]; rfl
  have hT : pgT (pageB no L) = some (L, List.replicate (248 - (entB L).length) 0) := by
    unfold pgT
    rw [if_pos ⟨p1, fun h0 => by rw [h0] at p2; have : (0 : UInt8).toNat = L.length := p2; have z : (0 : UInt8).toNat = 0 := rfl; omega⟩, p2, p3]
    exact takeL_there L 0 z12L true _ (by omega) z12L_len z12L_32 hq (fun _ => h2)
  have hE : blkE (putB no L) = 0 := by
    unfold blkE
    rw [if_neg (by omega), if_neg (by omega), e, o2, o1, if_neg (by simp)]
    unfold pgOk
    rw [hT]
    exact if_pos (null_rep _)
  refine ⟨hE, ?_, ?_, hlen⟩
  · unfold blkNo
    rw [if_pos hE, e, o1, p4, num_bytesN]
    exact Nat.mod_eq_of_lt hno
  · unfold blkL pgL
    rw [if_pos hE, e, o1, hT]
    exact if_pos (null_rep _)
theorem two_six {p : List UInt8} (h : 6 ≤ p.length) : p = [p.getD 0 0, p.getD 1 0] ++ ((p.drop 2).take 4 ++ p.drop 6) := by
  match p, h with
  | a :: b :: p, h =>
    show a :: b :: p = a :: b :: (p.take 4 ++ p.drop 4)
    rw [List.take_append_drop]
/-- What is taken, put, is those bytes. -/
theorem blk_back {s : List UInt8} (h : blkE s = 0) : putE (blkL s) = 0 ∧ putB (blkNo s) (blkL s) = s ∧ blkNo s < 4294967296 ∧ (∀ x ∈ blkL s, EnQ x) ∧ (blkL s).length ≤ 255 := by
  have hs : s.length = 256 ∧ openB s = true ∧ pgOk (openL s) = true := by
    unfold blkE at h
    by_cases h1 : s.length < 256
    · rw [if_pos h1] at h; cases h
    rw [if_neg h1] at h
    by_cases h2 : 256 < s.length
    · rw [if_pos h2] at h; cases h
    rw [if_neg h2] at h
    by_cases h3 : openB s = false
    · rw [if_pos h3] at h; cases h
    rw [if_neg h3] at h
    by_cases h4 : pgOk (openL s) = true
    · exact ⟨by omega, by simpa using h3, h4⟩
    · rw [if_neg h4] at h; cases h
  obtain ⟨s1, s2, s3⟩ := hs
  have hm : moreN 65535 s = 0 := by unfold openB at s2; simpa using s2
  have ho : openL s = s.take 254 := by unfold openL; rw [if_pos hm, s1]
  have hseal := (seal_iff (l := s) (m := 254) s1).2 hm
  rw [← ho] at hseal
  have hpl : (openL s).length = 254 := by rw [ho, List.length_take]; omega
  have e1 : blkL s = pgL (openL s) := by unfold blkL; rw [if_pos h]
  have e2 : blkNo s = NumLaw.num (((openL s).drop 2).take 4) := by unfold blkNo; rw [if_pos h]
  generalize openL s = p at *
  have h24 : ((p.drop 2).take 4).length = 4 := by rw [List.length_take, List.length_drop]; omega
  have hno : blkNo s < 4294967296 := by rw [e2]; exact num4_lt _ (by omega)
  cases hT : pgT p with
  | none => unfold pgOk at s3; rw [hT] at s3; cases s3
  | some q =>
    obtain ⟨L, R⟩ := q
    have hnull : nullB R = true := by unfold pgOk at s3; rw [hT] at s3; exact s3
    have eL : pgL p = L := by unfold pgL; rw [hT]; exact if_pos hnull
    rw [e1, eL]
    unfold pgT at hT
    by_cases hc : p.getD 0 0 = 76 ∧ p.getD 1 0 ≠ 0
    · rw [if_pos hc] at hT
      have hmany : 0 < (p.getD 1 0).toNat := by
        rcases Nat.eq_zero_or_pos (p.getD 1 0).toNat with h0 | h0
        · exact absurd (UInt8.toNat_inj.1 (show _ = (0 : UInt8).toNat from h0)) hc.2
        · exact h0
      obtain ⟨c1, c2, c3, c4⟩ := takeL_back _ 0 z12L true _ L R (by omega) z12L_len z12L_32 hT
      have hlt : (p.getD 1 0).toNat < 256 := UInt8.toNat_lt _
      have hdl : (p.drop 6).length = 248 := by rw [List.length_drop]; omega
      have c2 : p.drop 6 = entB L ++ R := c2
      have hle : (entB L).length + R.length = 248 := by rw [← List.length_append, ← c2, hdl]
      have hE : putE L = 0 := by
        unfold putE
        rw [if_neg (fun hh => by
          rcases hh with hh | hh
          · subst hh; have z : ([] : List En).length = 0 := rfl; omega
          · rw [c4 rfl hmany] at hh; cases hh), if_neg (by omega)]
      refine ⟨hE, ?_, hno, c3, by omega⟩
      have hp : pageB (blkNo s) L = p := by
        unfold pageB
        rw [two_six (p := p) (by omega), c2, e2]
        have e4 : bytesN 4 (NumLaw.num ((p.drop 2).take 4)) = (p.drop 2).take 4 := by have := bytesN_num ((p.drop 2).take 4); rwa [h24] at this
        have e5 : UInt8.ofNat L.length = p.getD 1 0 := by rw [c1]; simp
        rw [null_eq hnull] at hle ⊢
        simp only [List.length_replicate] at hle ⊢
        rw [e4, e5, hc.1, show 248 - (entB L).length = R.length by omega]
      unfold putB
      rw [if_pos hE, hp]
      exact hseal
    · rw [if_neg hc] at hT; cases hT
/-- A block of which bits were turned. -/
theorem putB_sum {no : Nat} {L : List En} (h : putE L = 0) : moreN 65535 (putB no L) = 0 := by
  unfold putB
  rw [if_pos h, moreN_append]
  exact seal_zero (moreN_lt _ (by omega))
theorem blkE_sum {s : List UInt8} (h : s.length = 256) (ho : openB s = false) : blkE s = 4 := by
  unfold blkE
  rw [if_neg (by omega), if_neg (by omega), if_pos ho]

end Go.Proofs.Ytplgcfjcdjlnbaa
