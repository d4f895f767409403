/-
  Several texts in one: FlogLaw Flog1 Flog2 Flog3.
-/
import Derived.Test.YtplgcfjcdjlnbaaKGP
import Derived.Test.YtplgcfjcdjlnbaaKGQ
import Derived.Test.YtplgcfjcdjlnbaaKGA
/-
  The plain law of layer 36: what a log is, behind each call.
-/
set_option linter.unusedSimpArgs false
set_option linter.unusedVariables false
namespace Go.Proofs.Ytplgcfjcdjlnbaa
open Go.RowKit NumLaw CrcLaw

/-- Is the next entry whole? -/
def adK (ev : Nat) (L : List En) (r : Nat) : Bool := L.length == 0 || r % ev == 0
def adX (ev : Nat) (L : List En) (r t : Nat) (V : List Int) : En := ⟨adK ev L r, t, V⟩
/-- Has it no room? -/
def adF (ev : Nat) (L : List En) (r t : Nat) (V : List Int) : Bool := decide (248 < (entB (L ++ [adX ev L r t V])).length)
def adL (ev : Nat) (L : List En) (r t : Nat) (V : List Int) : List En := if adF ev L r t V = true then [⟨true, t, V⟩] else L ++ [adX ev L r t V]
def adB (ev : Nat) (L : List En) (r b t : Nat) (V : List Int) : Nat := if adF ev L r t V = true then b + 1 else b
def adO (ev : Nat) (L : List En) (r b t : Nat) (V : List Int) : List UInt8 := if adF ev L r t V = true then putB b L else []
def flB (L : List En) (b : Nat) : Nat := if L = [] then b else b + 1
def flO (L : List En) (b : Nat) : List UInt8 := if L = [] then [] else putB b L
/-- Entries of a log's block. -/
def LogQ (L : List En) : Prop := (∀ x ∈ L, EnQ x) ∧ (entB L).length ≤ 248 ∧ (L ≠ [] → (L.map En.key).getD 0 false = true)

theorem logQ_nil : LogQ [] := ⟨by simp, by decide, fun h => absurd rfl h⟩
theorem entB_snoc (L : List En) (x : En) : entB (L ++ [x]) = entB L ++ layB (lastT 0 L) (lastV z12L L) x := layL_snoc L 0 z12L x
theorem logQ_len {L : List En} (h : LogQ L) : L.length ≤ 82 := by have := (ent_len h.1).1; have := h.2.1; omega
theorem last_okL {L : List En} (h : ∀ x ∈ L, EnQ x) : lastT 0 L < 4294967296 ∧ (lastV z12L L).length = 12 ∧ ∀ z ∈ lastV z12L L, in32 z := last_ok L 0 z12L (by omega) z12L_len z12L_32 h
theorem last_at {L : List En} {x : En} (h : L[L.length - 1]? = some x) : lastT 0 L = x.t ∧ lastV z12L L = x.V := by
  have h0 : L.length - 1 < L.length := (List.getElem?_eq_some_iff.1 h).1
  have e : L = L.take (L.length - 1) ++ [x] := by
    have := take_succ h
    rw [show L.length - 1 + 1 = L.length by omega, List.take_of_length_le (Nat.le_refl _)] at this
    exact this
  rw [e]
  exact last_snoc _ 0 z12L x
theorem key53 (t : Nat) (V : List Int) (hV : V.length = 12) : (entB [⟨true, t, V⟩]).length = 53 := by
  show (layB 0 z12L ⟨true, t, V⟩ ++ []).length = 53
  rw [List.append_nil]
  unfold layB
  rw [if_pos rfl, List.length_cons, recK_len0 t V hV]
theorem adF_ne {ev : Nat} {L : List En} {r t : Nat} {V : List Int} (hV : V.length = 12) (h : adF ev L r t V = true) : L ≠ [] := by
  intro h0
  subst h0
  have e : adX ev [] r t V = ⟨true, t, V⟩ := by unfold adX adK; simp
  unfold adF at h
  rw [e, List.nil_append, key53 t V hV] at h
  simp at h
theorem adX_q {ev : Nat} {L : List En} {r t : Nat} {V : List Int} (ht : t < 4294967296) (hV : V.length = 12) (h32 : ∀ z ∈ V, in32 z) : EnQ (adX ev L r t V) := ⟨ht, hV, h32⟩
/-- What is added to a log leaves a log. -/
theorem adL_q {ev : Nat} {L : List En} {r t : Nat} {V : List Int} (h : LogQ L) (ht : t < 4294967296) (hV : V.length = 12) (h32 : ∀ z ∈ V, in32 z) : LogQ (adL ev L r t V) := by
  unfold adL
  by_cases hf : adF ev L r t V = true
  · rw [if_pos hf]
    exact ⟨fun x hx => by rw [List.mem_singleton.1 hx]; exact ⟨ht, hV, h32⟩, by rw [key53 t V hV]; omega, fun _ => rfl⟩
  · rw [if_neg hf]
    refine ⟨fun x hx => ?_, ?_, fun _ => ?_⟩
    · rcases List.mem_append.1 hx with hx | hx
      · exact h.1 x hx
      · rw [List.mem_singleton.1 hx]; exact adX_q ht hV h32
    · unfold adF at hf
      simpa using hf
    · by_cases h0 : L = []
      · subst h0
        show adK ev [] r = true
        unfold adK; rfl
      · have := h.2.2 h0
        match L, h0 with
        | y :: L, _ => simpa using this
theorem logQ_put {L : List En} (h : LogQ L) (h0 : L ≠ []) : putE L = 0 := by
  unfold putE
  rw [if_neg (fun hh => by
    rcases hh with hh | hh
    · exact h0 hh
    · rw [h.2.2 h0] at hh; cases hh), if_neg (by have := h.2.1; omega)]

/-- Records added, one behind the other: the open entries, the number of blocks, their bytes. -/
def stepW (ev : Nat) (s : List En × Nat × List UInt8) (r : Nat) (p : Nat × List Int) : List En × Nat × List UInt8 :=
  (adL ev s.1 r p.1 p.2, adB ev s.1 r s.2.1 p.1 p.2, s.2.2 ++ adO ev s.1 r s.2.1 p.1 p.2)
def stW (ev : Nat) (R : List (Nat × List Int)) : Nat → List En × Nat × List UInt8
  | 0 => ([], 0, [])
  | k + 1 => stepW ev (stW ev R k) k (R.getD k (0, z12))
def wrO (ev : Nat) (R : List (Nat × List Int)) : List UInt8 := (stW ev R R.length).2.2 ++ flO (stW ev R R.length).1 (stW ev R R.length).2.1
def RcQ (p : Nat × List Int) : Prop := p.1 < 4294967296 ∧ p.2.length = 12 ∧ ∀ z ∈ p.2, in32 z
theorem stW_at {ev : Nat} {R : List (Nat × List Int)} {k : Nat} {p : Nat × List Int} (h : R[k]? = some p) : stW ev R (k + 1) = stepW ev (stW ev R k) k p := by
  show stepW ev (stW ev R k) k (R.getD k (0, z12)) = _
  rw [List.getD_eq_getElem?_getD, h]
  rfl
theorem adO_len {ev : Nat} {L : List En} {r b t : Nat} {V : List Int} (h : LogQ L) (hb : b < 4294967296) (hV : V.length = 12) : (adO ev L r b t V).length + 256 * b = 256 * adB ev L r b t V := by
  unfold adO adB
  by_cases hf : adF ev L r t V = true
  · rw [if_pos hf, if_pos hf, (blk_there hb h.1 (logQ_put h (adF_ne hV hf))).2.2.2]; omega
  · rw [if_neg hf, if_neg hf]; simp
theorem flO_len {L : List En} {b : Nat} (h : LogQ L) (hb : b < 4294967296) : (flO L b).length + 256 * b = 256 * flB L b := by
  unfold flO flB
  by_cases hf : L = []
  · rw [if_pos hf, if_pos hf]; simp
  · rw [if_neg hf, if_neg hf, (blk_there hb h.1 (logQ_put h hf)).2.2.2]; omega
theorem stW_ok {ev : Nat} {R : List (Nat × List Int)} (hR : ∀ p ∈ R, RcQ p) : ∀ k, k ≤ R.length → k ≤ 1000000 → LogQ (stW ev R k).1 ∧ (stW ev R k).2.1 ≤ k ∧ (stW ev R k).2.2.length = 256 * (stW ev R k).2.1
  | 0, _, _ => ⟨logQ_nil, Nat.le_refl _, rfl⟩
  | k + 1, h, hk => by
    obtain ⟨a, b, c⟩ := stW_ok (ev := ev) hR k (by omega) (by omega)
    have hx : R[k]? = some R[k] := List.getElem?_eq_getElem (by omega)
    obtain ⟨q1, q2, q3⟩ := hR _ (List.mem_of_getElem? hx)
    rw [stW_at hx]
    refine ⟨adL_q a q1 q2 q3, ?_, ?_⟩
    · show adB _ _ _ _ _ _ ≤ k + 1
      unfold adB
      split <;> omega
    · show (_ ++ adO _ _ _ _ _ _).length = 256 * adB _ _ _ _ _ _
      have := adO_len (ev := ev) (L := (stW ev R k).1) (r := k) (b := (stW ev R k).2.1) (t := R[k].1) (V := R[k].2) a (by omega) q2
      rw [List.length_append, c]
      omega

end Go.Proofs.Ytplgcfjcdjlnbaa

/-
  The log's small methods walked (printed by gen_flog1.py).
-/
set_option linter.unusedSimpArgs false
set_option linter.unusedVariables false
namespace Go.Proofs.Ytplgcfjcdjlnbaa
open Go.RowKit NumLaw CrcLaw
attribute [local go_sem] Addr.add_mid

/-- A log at g: its entries' row is v. -/
def Lgr (w : World) (g ev : Nat) (v : Value) (L : List En) (r b : Nat) : Prop :=
  w.heap[g]? = some (.cells #[.int .i64 (ev : Int), v, .int .i64 ((entB L).length : Int), .int .i64 (r : Int), .int .i64 (b : Int)] 78) ∧
    w.ownsRow (g + 1) 46 14 v L.length (L.map enC).flatten
section
variable {w w' : World} {g ev : Nat} {v : Value} {L : List En} {r b : Nat}
theorem Lgr.lt (h : Lgr w g ev v L r b) : g < w.heap.size := blk_lt h.1
theorem Lgr.foot (h : Lgr w g ev v L r b) {k : Nat} (hk : Foot g v k) : g ≤ k ∧ k < w.heap.size := by
  rcases hk with rfl | hk
  · exact ⟨Nat.le_refl _, h.lt⟩
  · have := own_blk h.2 hk; exact ⟨by omega, this.2⟩
theorem Lgr.keep {U : Nat → Prop} (h : Lgr w g ev v L r b) (ha : Aw U w w') (hu : ∀ k, Foot g v k → ¬ U k) : Lgr w' g ev v L r b :=
  ⟨ha.keep h.1 (hu g (.inl rfl)), own_aw h.2 ha (fun k hk => hu k (.inr hk))⟩
theorem Lgr.up (h : Lgr w g ev v L r b) (hb : Below w.heap.size w w') : Lgr w' g ev v L r b := h.keep (Aw.of_below' (U := fun _ => False) hb) (fun _ _ hk => hk)
theorem Lgr.below (h : Lgr w g ev v L r b) (ha : Aw (Foot g v) w w') : Below g w w' :=
  ⟨ha.os, ha.tape, ha.output, ha.size, fun k hk => ha.block k (Nat.lt_trans hk h.lt) (fun hf => absurd (h.foot hf).1 (by omega))⟩
theorem Lgr.sl (h : Lgr w g ev v L r b) : ∃ A c, v = .slice A L.length c := own_sl h.2
end
/-- A call of a log's: what it leaves. -/
def RetL (w : World) (g ev : Nat) (v : Value) (L' : List En) (r' b' : Nat) (w' : World) : Prop :=
  ∃ v', Lgr w' g ev v' L' r' b' ∧ Aw (Foot g v) w w' ∧ ∀ k, v'.ownBlock = some k → v.ownBlock = some k ∨ w.heap.size ≤ k
theorem results_cell1 {P : Program} {fn : Func} {p : Tmp} {ty : TypeId} (h : fn.results = #[.cell p ty]) (tmps : Array Value) (w : World) (g : Nat) (t : TypeId) (cs : Array Value) (fr : Nat × Nat) (d : TypeDesc)
    (hp : tmps.getD p undef = .pointer (some ⟨g, 0, none⟩)) (hg : w.heap[g]? = some (.cells cs t fr))
    (hu : P.underlying ty = some d) (hd : (match d with | .struct _ | .array _ _ => true | _ => false) = true) (hi : (P.info? ty).map (·.size) = some cs.size) :
    (results fn tmps).run P w = .ok (.agg cs) w := by
  have hp' : tmps[p]?.getD undef = .pointer (some ⟨g, 0, none⟩) := by simpa using hp
  simp [results, h, hp', asAddr, run_loadVar_row w g t ty cs fr d hg hu hd hi]
theorem exec_buildEn {a : Act} {d : Option Tmp} {x y : Operand} {ty : TypeId} {pos : String} {af : Array Edge} {gd : Option (Nat × Bool)} {k : Bool} {t : Nat} {V : List Int} (hV : V.length = 12) (hx : a.eval x = .bool k) (hy : a.eval y = .agg (rcC t V).toArray) (w : World) :
    (execOp a.eval ⟨d, .build 46 #[(0, x), (1, y)], ty, pos, af, gd⟩).run Try.prog w = .ok (.value (.agg (enC ⟨k, t, V⟩).toArray)) w := by
  unfold execOp
  simp only [List.map_toArray, List.map_cons, List.map_nil, hx, hy, Sem.run_bind, run_buildEn k t V hV w, Result.andThen_ok, Sem.run_pure]

set_option maxRecDepth 10000 in
theorem flogNew_no (ev : Int) (w : World) (h : ev < 1 ∨ 255 < ev) : Calls Try.prog 47 #[.int .i64 ev] w fun e w' => e = .returned (.pointer none) ∧ w = w' := by
  rcases (by omega : ev < 1 ∨ (¬ ev < 1 ∧ 255 < ev)) with h1 | ⟨h1, h2⟩
  all_goals
    go_enter Try.func47, Try.ntmps47
    go_wp2
    go_ret
    exact ⟨rfl, rfl⟩
set_option maxRecDepth 10000 in
theorem flogNew_any (ev : Nat) (w : World) (h1 : 1 ≤ ev) (h2 : ev ≤ 255) : Calls Try.prog 47 #[.int .i64 (ev : Int)] w fun e w' => e = .returned (.pointer (some ⟨w.heap.size, 0, none⟩)) ∧ Lgr w' w.heap.size ev (.slice none 0 0) [] 0 0 ∧ Below w.heap.size w w' := by
  have h1' : ¬ (ev : Int) < 1 := by omega
  have h2' : ¬ (255 : Int) < (ev : Int) := by omega
  go_enter Try.func47, Try.ntmps47
  go_wp2
  go_ret
  exact ⟨rfl, ⟨heap_alloc_new w _, World.ownsRow_nil _ _ _ _⟩, (Below.refl _ _).alloc (Nat.le_refl _) _⟩
set_option maxRecDepth 10000 in
theorem there_any (g ev : Nat) (v : Value) (L : List En) (r b : Nat) (w : World) (h : Lgr w g ev v L r b) (hev : 1 ≤ ev) : Calls Try.prog 97 #[.pointer (some ⟨g, 0, none⟩)] w fun e w' => e = .returned (.bool true) ∧ w = w' := by
  have c0 := blk_cell (i := 0) (v := .int .i64 (ev : Int)) h.1 rfl
  have hq : (0 : Int) < (ev : Int) := by omega
  have hqd : decide (0 < ev) = true := decide_eq_true (by omega)
  go_enter Try.func97, Try.ntmps97
  go_wp2
  go_ret
  exact ⟨rfl, rfl⟩
theorem open36_any (g ev : Nat) (v : Value) (L : List En) (r b : Nat) (w : World) (h : Lgr w g ev v L r b) (hev : 1 ≤ ev) : Calls Try.prog 53 #[.pointer (some ⟨g, 0, none⟩)] w fun e w' => e = .returned (.int .i64 (L.length : Int)) ∧ w = w' := by
  obtain ⟨A, c, rfl⟩ := h.sl
  have c1 := blk_cell (i := 1) (v := .slice A L.length c) h.1 rfl
  go_enter Try.func53, Try.ntmps53
  go_wp2_with fail
  go_fit (there_any g ev _ L r b w h hev)
  rintro e w1 ⟨rfl, rfl⟩
  go_wp2
  go_ret
  exact ⟨rfl, rfl⟩
set_option maxRecDepth 10000 in
theorem counts_any (g ev : Nat) (v : Value) (L : List En) (r b : Nat) (w : World) (h : Lgr w g ev v L r b) (hev : 1 ≤ ev) : Calls Try.prog 52 #[.pointer (some ⟨g, 0, none⟩)] w fun e w' => e = .returned (.tuple #[.int .i64 (r : Int), .int .i64 (b : Int)]) ∧ Below w.heap.size w w' := by
  go_enter Try.func52, Try.ntmps52
  go_wp2_with fail
  go_fit (there_any g ev _ L r b w h hev)
  rintro e w1 ⟨rfl, rfl⟩
  go_wp2_with fail
  refine Ord.region_ (fun w' => w'.heap[g]? = some (.cells #[.int .i64 (ev : Int), v, .int .i64 ((entB L).length : Int), .int .i64 (r : Int), .int .i64 (b : Int)] 78)) false [] (by kernel_rfl) (by kernel_rfl) h.1 ?_
  have hS : w.drew.heap[g]? = some (.cells #[.int .i64 (ev : Int), v, .int .i64 ((entB L).length : Int), .int .i64 (r : Int), .int .i64 (b : Int)] 78) := h.1
  have hb : Below w.heap.size w w.drew := (Below.refl _ _).drew
  generalize w.drew = w1 at *
  ((with_reducible refine Ord.e_p (v := ?_) ?_ ?_ ?_ ?_); rotate_left; (· exact rfl); (· kernel_rfl); (· intro w2; go_simp; try with_reducible rfl))
  (try simp only [Act.put, List.setIfInBounds_toArray, List.set_cons_zero, List.set_cons_succ])
  ((with_reducible refine Ord.e_p (v := ?_) ?_ ?_ ?_ ?_); rotate_left; (· exact rfl); (· kernel_rfl); (· intro w2; go_simp; try with_reducible rfl))
  (try simp only [Act.put, List.setIfInBounds_toArray, List.set_cons_zero, List.set_cons_succ])
  ((with_reducible refine Ord.e_p (v := ?_) ?_ ?_ ?_ ?_); rotate_left; (· exact rfl); (· kernel_rfl); (· intro w2; go_simp; try with_reducible rfl))
  (try simp only [Act.put, List.setIfInBounds_toArray, List.set_cons_zero, List.set_cons_succ])
  refine Ord.e_loadS Try.underlying3 rfl (fun w' hS => blk_cell (i := 3) (v := .int .i64 (r : Int)) hS rfl) hS rfl (by kernel_rfl) ?_
  (try simp only [Act.put, List.setIfInBounds_toArray, List.set_cons_zero, List.set_cons_succ])
  ((with_reducible refine Ord.e_p (v := ?_) ?_ ?_ ?_ ?_); rotate_left; (· exact rfl); (· kernel_rfl); (· intro w2; go_simp; try with_reducible rfl))
  (try simp only [Act.put, List.setIfInBounds_toArray, List.set_cons_zero, List.set_cons_succ])
  ((with_reducible refine Ord.e_p (v := ?_) ?_ ?_ ?_ ?_); rotate_left; (· exact rfl); (· kernel_rfl); (· intro w2; go_simp; try with_reducible rfl))
  (try simp only [Act.put, List.setIfInBounds_toArray, List.set_cons_zero, List.set_cons_succ])
  ((with_reducible refine Ord.e_p (v := ?_) ?_ ?_ ?_ ?_); rotate_left; (· exact rfl); (· kernel_rfl); (· intro w2; go_simp; try with_reducible rfl))
  (try simp only [Act.put, List.setIfInBounds_toArray, List.set_cons_zero, List.set_cons_succ])
  refine Ord.e_loadS Try.underlying3 rfl (fun w' hS => blk_cell (i := 4) (v := .int .i64 (b : Int)) hS rfl) hS rfl (by kernel_rfl) ?_
  (try simp only [Act.put, List.setIfInBounds_toArray, List.set_cons_zero, List.set_cons_succ])
  ((with_reducible refine Ord.e_p (v := ?_) ?_ ?_ ?_ ?_); rotate_left; (· exact rfl); (· kernel_rfl); (· intro w2; go_simp; try with_reducible rfl))
  (try simp only [Act.put, List.setIfInBounds_toArray, List.set_cons_zero, List.set_cons_succ])
  ((with_reducible refine Ord.e_p (v := ?_) ?_ ?_ ?_ ?_); rotate_left; (· exact rfl); (· kernel_rfl); (· intro w2; go_simp; try with_reducible rfl))
  (try simp only [Act.put, List.setIfInBounds_toArray, List.set_cons_zero, List.set_cons_succ])
  refine Ord.e_nil ?_
  go_wp2
  go_ret2
  exact ⟨rfl, hb⟩
theorem cell_setRow_other35 {w : World} {g : Nat} {cs : Array Value} {p : Addr} (h : p.block ≠ g) : (w.setRow g cs).cell? p = w.cell? p := by
  unfold World.cell?
  rw [setRow_other w g p.block cs h]

set_option maxRecDepth 10000 in
set_option maxHeartbeats 4000000 in
theorem fentry_any (g ev : Nat) (v : Value) (L : List En) (r b t : Nat) (V : List Int) (w : World) (h : Lgr w g ev v L r b) (hev : 1 ≤ ev) (hev2 : ev ≤ 255) (hr : r ≤ 1000000) (hV : V.length = 12) : Calls Try.prog 98 #[.pointer (some ⟨g, 0, none⟩), .agg (rcC t V).toArray] w fun e w' => e = .returned (.agg (enC (adX ev L r t V)).toArray) ∧ Below w.heap.size w w' := by
  obtain ⟨A, c, rfl⟩ := h.sl
  obtain ⟨x0, x1, xs, xb⟩ := al2 w (.cells (rcC t V).toArray 25) (.cells #[.bool false, .int .u32 0, .int .i32 0, .int .i32 0, .int .i32 0, .int .i32 0, .int .i32 0, .int .i32 0, .int .i32 0, .int .i32 0, .int .i32 0, .int .i32 0, .int .i32 0, .int .i32 0] 46)
  have hlg : ((w.alloc (.cells (rcC t V).toArray 25)).alloc (.cells #[.bool false, .int .u32 0, .int .i32 0, .int .i32 0, .int .i32 0, .int .i32 0, .int .i32 0, .int .i32 0, .int .i32 0, .int .i32 0, .int .i32 0, .int .i32 0, .int .i32 0, .int .i32 0] 46)).heap[g]? = _ := blk_old h.1 xb h.lt
  have HV := Lib.hid hV
  have hgl := h.lt
  by_cases hL : L = []
  · subst hL
    have hn0 : ((([] : List En).length : Int) == 0) = true := rfl
    have hx : adX ev [] r t V = ⟨true, t, V⟩ := rfl
    rw [hx]
    go_enter Try.func98, Try.ntmps98
    go_wp2_with fail
    generalize ((w.alloc (.cells (rcC t V).toArray 25)).alloc (.cells #[.bool false, .int .u32 0, .int .i32 0, .int .i32 0, .int .i32 0, .int .i32 0, .int .i32 0, .int .i32 0, .int .i32 0, .int .i32 0, .int .i32 0, .int .i32 0, .int .i32 0, .int .i32 0] 46)) = w1 at *
    replace x0 : RcB w1 w.heap.size t V := x0
    replace x1 : EnB w1 (w.heap.size + 1) zen := x1
    refine Ord.region_ (fun w' => w'.heap[g]? = some (.cells #[.int .i64 (ev : Int), .slice A ([] : List En).length c, .int .i64 ((entB []).length : Int), .int .i64 (r : Int), .int .i64 (b : Int)] 78) ∧ RcB w' w.heap.size t V) false [] (by kernel_rfl) (by kernel_rfl) ⟨hlg, x0⟩ ?_
    have hS : w1.drew.heap[g]? = some (.cells #[.int .i64 (ev : Int), .slice A ([] : List En).length c, .int .i64 ((entB []).length : Int), .int .i64 (r : Int), .int .i64 (b : Int)] 78) ∧ RcB w1.drew w.heap.size t V := ⟨hlg, x0⟩
    replace x1 : EnB w1.drew (w.heap.size + 1) zen := x1
    replace xb := xb.drew
    generalize w1.drew = w2 at *
    clear x0 xs hlg h
    ((with_reducible refine Ord.e_p (v := ?_) ?_ ?_ ?_ ?_); rotate_left; (· exact rfl); (· kernel_rfl); (· intro w2; go_simp; try with_reducible rfl))
    (try simp only [Act.put, List.setIfInBounds_toArray, List.set_cons_zero, List.set_cons_succ])
    ((with_reducible refine Ord.e_p (v := ?_) ?_ ?_ ?_ ?_); rotate_left; (· exact rfl); (· kernel_rfl); (· intro w2; go_simp; try with_reducible rfl))
    (try simp only [Act.put, List.setIfInBounds_toArray, List.set_cons_zero, List.set_cons_succ])
    ((with_reducible refine Ord.e_p (v := ?_) ?_ ?_ ?_ ?_); rotate_left; (· exact rfl); (· kernel_rfl); (· intro w2; go_simp; try with_reducible rfl))
    (try simp only [Act.put, List.setIfInBounds_toArray, List.set_cons_zero, List.set_cons_succ])
    refine Ord.e_loadS Try.underlying39 rfl (fun w' hS => blk_cell (i := 1) (v := .slice A ([] : List En).length c) (show _ ∧ RcB w' w.heap.size t V from hS).1 rfl) hS rfl (by kernel_rfl) ?_
    (try simp only [Act.put, List.setIfInBounds_toArray, List.set_cons_zero, List.set_cons_succ])
    ((with_reducible refine Ord.e_p (v := ?_) ?_ ?_ ?_ ?_); rotate_left; (· exact rfl); (· kernel_rfl); (· intro w2; go_simp; try with_reducible rfl))
    (try simp only [Act.put, List.setIfInBounds_toArray, List.set_cons_zero, List.set_cons_succ])
    ((with_reducible refine Ord.e_p (v := ?_) ?_ ?_ ?_ ?_); rotate_left; (· exact rfl); (· kernel_rfl); (· intro w2; go_simp; try with_reducible rfl))
    (try simp only [Act.put, List.setIfInBounds_toArray, List.set_cons_zero, List.set_cons_succ])
    ((with_reducible refine Ord.e_p (v := ?_) ?_ ?_ ?_ ?_); rotate_left; (· exact rfl); (· kernel_rfl); (· intro w2; go_simp; try with_reducible rfl))
    (try simp only [Act.put, List.setIfInBounds_toArray, List.set_cons_zero, List.set_cons_succ])
    ((with_reducible refine Ord.e_u ?_ ?_); (· kernel_rfl))
    (try simp only [Act.put, List.setIfInBounds_toArray, List.set_cons_zero, List.set_cons_succ])
    ((with_reducible refine Ord.e_u ?_ ?_); (· kernel_rfl))
    (try simp only [Act.put, List.setIfInBounds_toArray, List.set_cons_zero, List.set_cons_succ])
    ((with_reducible refine Ord.e_u ?_ ?_); (· kernel_rfl))
    (try simp only [Act.put, List.setIfInBounds_toArray, List.set_cons_zero, List.set_cons_succ])
    ((with_reducible refine Ord.e_u ?_ ?_); (· kernel_rfl))
    (try simp only [Act.put, List.setIfInBounds_toArray, List.set_cons_zero, List.set_cons_succ])
    ((with_reducible refine Ord.e_u ?_ ?_); (· kernel_rfl))
    (try simp only [Act.put, List.setIfInBounds_toArray, List.set_cons_zero, List.set_cons_succ])
    ((with_reducible refine Ord.e_u ?_ ?_); (· kernel_rfl))
    (try simp only [Act.put, List.setIfInBounds_toArray, List.set_cons_zero, List.set_cons_succ])
    ((with_reducible refine Ord.e_u ?_ ?_); (· kernel_rfl))
    (try simp only [Act.put, List.setIfInBounds_toArray, List.set_cons_zero, List.set_cons_succ])
    ((with_reducible refine Ord.e_u ?_ ?_); (· kernel_rfl))
    (try simp only [Act.put, List.setIfInBounds_toArray, List.set_cons_zero, List.set_cons_succ])
    ((with_reducible refine Ord.e_u ?_ ?_); (· kernel_rfl))
    (try simp only [Act.put, List.setIfInBounds_toArray, List.set_cons_zero, List.set_cons_succ])
    ((with_reducible refine Ord.e_u ?_ ?_); (· kernel_rfl))
    (try simp only [Act.put, List.setIfInBounds_toArray, List.set_cons_zero, List.set_cons_succ])
    ((with_reducible refine Ord.e_p (v := ?_) ?_ ?_ ?_ ?_); rotate_left; (· exact rfl); (· kernel_rfl); (· intro w2; go_simp; try with_reducible rfl))
    (try simp only [Act.put, List.setIfInBounds_toArray, List.set_cons_zero, List.set_cons_succ])
    refine Ord.e_rowS Try.underlying25 rfl (by rw [rcC_size t V HV.out]; kernel_rfl) rfl (by unfold rcC; simp) (fun w' hS => (show _ ∧ RcB w' w.heap.size t V from hS).2.all) hS (by kernel_rfl) ?_
    (try simp only [Act.put, List.setIfInBounds_toArray, List.set_cons_zero, List.set_cons_succ])
    refine Ord.e_p (v := .agg (enC ⟨true, t, V⟩).toArray) rfl (by kernel_rfl) (fun w2 => exec_buildEn (k := true) HV.out rfl rfl w2) ?_
    (try simp only [Act.put, List.setIfInBounds_toArray, List.set_cons_zero, List.set_cons_succ])
    refine Ord.e_x rfl (by kernel_rfl) ?_
    refine wpList_store_row rfl _ _ _ rfl (w.heap.size + 1) (enC ⟨true, t, V⟩).toArray rfl rfl _ _ x1 (by rw [List.size_toArray, enC_len _ HV.out]; kernel_rfl) (by rw [List.size_toArray, List.size_toArray, enC_len (⟨true, t, V⟩ : En) HV.out]; rfl) (all_oneCell_toArray (enC_one _)) ?_
    obtain ⟨hz, hAz⟩ := en_store ⟨true, t, V⟩ HV.out w2 (w.heap.size + 1) x1
    have hbz := below_awG xb hAz (fun k hk => by omega) xb.size
    have hSz := And.intro (hAz.keep hS.1 (by omega)) (hAz.keep hS.2 (by omega))
    generalize (w2.setRow (w.heap.size + 1) (enC ⟨true, t, V⟩).toArray) = w5 at *
    go_wp2_with fail
    refine Ord.Seg.go hSz (fun h => by cases h) ?_
    (try simp only [Act.put, List.setIfInBounds_toArray, List.set_cons_zero, List.set_cons_succ])
    refine Ord.e_nil ?_
    clear hAz hS hSz x1 xb
    go_wp2
    exact bodyPost_ret (results_cell1 (fn := Try.f98) Try.results98 _ _ (w.heap.size + 1) _ _ _ _ rfl hz Try.underlying46 rfl (by rw [List.size_toArray, enC_len _ HV.out]; kernel_rfl)) rfl ⟨rfl, hbz⟩
  · have hpos : 0 < L.length := List.length_pos_iff.2 hL
    have hn0 : ((L.length : Int) == 0) = false := by simp; omega
    have hrm : IntKind.i64.wrap ((r : Int).tmod (ev : Int)) = ((r % ev : Nat) : Int) := by
      rw [Int.tmod_eq_emod_of_nonneg (by omega), ← Int.natCast_emod, IntWalk.i64_in _ (by have := Nat.mod_lt r (show 0 < ev by omega); omega)]
    have hrm2 : (r : Int).tmod (ev : Int) = ((r % ev : Nat) : Int) := by
      rw [Int.tmod_eq_emod_of_nonneg (by omega), ← Int.natCast_emod]
    have hev0 : ¬ (ev : Int) = 0 := by omega
    have hevn : ¬ ev = 0 := by omega
    have hx : adX ev L r t V = ⟨((((r % ev : Nat) : Int)) == 0), t, V⟩ := by
      unfold adX adK
      rw [show (L.length == 0) = false by simp; omega, Bool.false_or]
      congr 1
      rw [Bool.eq_iff_iff]
      simp
      omega
    rw [hx]
    obtain ⟨q, hq⟩ : ∃ q, q = r % ev := ⟨_, rfl⟩
    rw [← hq] at hrm hrm2 ⊢
    clear hq
    go_enter Try.func98, Try.ntmps98
    go_wp2_with fail
    generalize ((w.alloc (.cells (rcC t V).toArray 25)).alloc (.cells #[.bool false, .int .u32 0, .int .i32 0, .int .i32 0, .int .i32 0, .int .i32 0, .int .i32 0, .int .i32 0, .int .i32 0, .int .i32 0, .int .i32 0, .int .i32 0, .int .i32 0, .int .i32 0] 46)) = w1 at *
    replace x0 : RcB w1 w.heap.size t V := x0
    replace x1 : EnB w1 (w.heap.size + 1) zen := x1
    refine Ord.region_ (fun w' => w'.heap[g]? = some (.cells #[.int .i64 (ev : Int), .slice A L.length c, .int .i64 ((entB L).length : Int), .int .i64 (r : Int), .int .i64 (b : Int)] 78) ∧ RcB w' w.heap.size t V) false [] (by kernel_rfl) (by kernel_rfl) ⟨hlg, x0⟩ ?_
    have hS : w1.drew.heap[g]? = some (.cells #[.int .i64 (ev : Int), .slice A L.length c, .int .i64 ((entB L).length : Int), .int .i64 (r : Int), .int .i64 (b : Int)] 78) ∧ RcB w1.drew w.heap.size t V := ⟨hlg, x0⟩
    replace x1 : EnB w1.drew (w.heap.size + 1) zen := x1
    replace xb := xb.drew
    generalize w1.drew = w2 at *
    clear x0 xs hlg h
    ((with_reducible refine Ord.e_p (v := ?_) ?_ ?_ ?_ ?_); rotate_left; (· exact rfl); (· kernel_rfl); (· intro w2; go_simp; try with_reducible rfl))
    (try simp only [Act.put, List.setIfInBounds_toArray, List.set_cons_zero, List.set_cons_succ])
    ((with_reducible refine Ord.e_p (v := ?_) ?_ ?_ ?_ ?_); rotate_left; (· exact rfl); (· kernel_rfl); (· intro w2; go_simp; try with_reducible rfl))
    (try simp only [Act.put, List.setIfInBounds_toArray, List.set_cons_zero, List.set_cons_succ])
    ((with_reducible refine Ord.e_p (v := ?_) ?_ ?_ ?_ ?_); rotate_left; (· exact rfl); (· kernel_rfl); (· intro w2; go_simp; try with_reducible rfl))
    (try simp only [Act.put, List.setIfInBounds_toArray, List.set_cons_zero, List.set_cons_succ])
    refine Ord.e_loadS Try.underlying39 rfl (fun w' hS => blk_cell (i := 1) (v := .slice A L.length c) (show _ ∧ RcB w' w.heap.size t V from hS).1 rfl) hS rfl (by kernel_rfl) ?_
    (try simp only [Act.put, List.setIfInBounds_toArray, List.set_cons_zero, List.set_cons_succ])
    ((with_reducible refine Ord.e_p (v := ?_) ?_ ?_ ?_ ?_); rotate_left; (· exact rfl); (· kernel_rfl); (· intro w2; go_simp; try with_reducible rfl))
    (try simp only [Act.put, List.setIfInBounds_toArray, List.set_cons_zero, List.set_cons_succ])
    ((with_reducible refine Ord.e_p (v := ?_) ?_ ?_ ?_ ?_); rotate_left; (· exact rfl); (· kernel_rfl); (· intro w2; go_simp; try with_reducible rfl))
    (try simp only [Act.put, List.setIfInBounds_toArray, List.set_cons_zero, List.set_cons_succ])
    ((with_reducible refine Ord.e_p (v := ?_) ?_ ?_ ?_ ?_); rotate_left; (· exact rfl); (· kernel_rfl); (· intro w2; go_simp; try with_reducible rfl))
    (try simp only [Act.put, List.setIfInBounds_toArray, List.set_cons_zero, List.set_cons_succ])
    ((with_reducible refine Ord.e_p (v := ?_) ?_ ?_ ?_ ?_); rotate_left; (· exact rfl); (· kernel_rfl); (· intro w2; go_simp; try with_reducible rfl))
    (try simp only [Act.put, List.setIfInBounds_toArray, List.set_cons_zero, List.set_cons_succ])
    ((with_reducible refine Ord.e_p (v := ?_) ?_ ?_ ?_ ?_); rotate_left; (· exact rfl); (· kernel_rfl); (· intro w2; go_simp; try with_reducible rfl))
    (try simp only [Act.put, List.setIfInBounds_toArray, List.set_cons_zero, List.set_cons_succ])
    ((with_reducible refine Ord.e_p (v := ?_) ?_ ?_ ?_ ?_); rotate_left; (· exact rfl); (· kernel_rfl); (· intro w2; go_simp; try with_reducible rfl))
    (try simp only [Act.put, List.setIfInBounds_toArray, List.set_cons_zero, List.set_cons_succ])
    refine Ord.e_loadS Try.underlying3 rfl (fun w' hS => blk_cell (i := 3) (v := .int .i64 (r : Int)) (show _ ∧ RcB w' w.heap.size t V from hS).1 rfl) hS rfl (by kernel_rfl) ?_
    (try simp only [Act.put, List.setIfInBounds_toArray, List.set_cons_zero, List.set_cons_succ])
    ((with_reducible refine Ord.e_p (v := ?_) ?_ ?_ ?_ ?_); rotate_left; (· exact rfl); (· kernel_rfl); (· intro w2; go_simp; try with_reducible rfl))
    (try simp only [Act.put, List.setIfInBounds_toArray, List.set_cons_zero, List.set_cons_succ])
    ((with_reducible refine Ord.e_p (v := ?_) ?_ ?_ ?_ ?_); rotate_left; (· exact rfl); (· kernel_rfl); (· intro w2; go_simp; try with_reducible rfl))
    (try simp only [Act.put, List.setIfInBounds_toArray, List.set_cons_zero, List.set_cons_succ])
    ((with_reducible refine Ord.e_p (v := ?_) ?_ ?_ ?_ ?_); rotate_left; (· exact rfl); (· kernel_rfl); (· intro w2; go_simp; try with_reducible rfl))
    (try simp only [Act.put, List.setIfInBounds_toArray, List.set_cons_zero, List.set_cons_succ])
    refine Ord.e_loadS Try.underlying3 rfl (fun w' hS => blk_cell (i := 0) (v := .int .i64 (ev : Int)) (show _ ∧ RcB w' w.heap.size t V from hS).1 rfl) hS rfl (by kernel_rfl) ?_
    (try simp only [Act.put, List.setIfInBounds_toArray, List.set_cons_zero, List.set_cons_succ])
    ((with_reducible refine Ord.e_p (v := ?_) ?_ ?_ ?_ ?_); rotate_left; (· exact rfl); (· kernel_rfl); (· intro w2; go_simp; try with_reducible rfl))
    (try simp only [Act.put, List.setIfInBounds_toArray, List.set_cons_zero, List.set_cons_succ])
    ((with_reducible refine Ord.e_p (v := ?_) ?_ ?_ ?_ ?_); rotate_left; (· exact rfl); (· kernel_rfl); (· intro w2; go_simp; try with_reducible rfl))
    (try simp only [Act.put, List.setIfInBounds_toArray, List.set_cons_zero, List.set_cons_succ])
    ((with_reducible refine Ord.e_p (v := ?_) ?_ ?_ ?_ ?_); rotate_left; (· exact rfl); (· kernel_rfl); (· intro w2; go_simp; try with_reducible rfl))
    (try simp only [Act.put, List.setIfInBounds_toArray, List.set_cons_zero, List.set_cons_succ])
    refine Ord.e_rowS Try.underlying25 rfl (by rw [rcC_size t V HV.out]; kernel_rfl) rfl (by unfold rcC; simp) (fun w' hS => (show _ ∧ RcB w' w.heap.size t V from hS).2.all) hS (by kernel_rfl) ?_
    (try simp only [Act.put, List.setIfInBounds_toArray, List.set_cons_zero, List.set_cons_succ])
    refine Ord.e_p (v := .agg (enC ⟨((q : Int) == 0), t, V⟩).toArray) rfl (by kernel_rfl) (fun w2 => exec_buildEn (k := ((q : Int) == 0)) HV.out rfl rfl w2) ?_
    (try simp only [Act.put, List.setIfInBounds_toArray, List.set_cons_zero, List.set_cons_succ])
    refine Ord.e_x rfl (by kernel_rfl) ?_
    refine wpList_store_row rfl _ _ _ rfl (w.heap.size + 1) (enC ⟨((q : Int) == 0), t, V⟩).toArray rfl rfl _ _ x1 (by rw [List.size_toArray, enC_len _ HV.out]; kernel_rfl) (by rw [List.size_toArray, List.size_toArray, enC_len (⟨((q : Int) == 0), t, V⟩ : En) HV.out]; rfl) (all_oneCell_toArray (enC_one _)) ?_
    obtain ⟨hz, hAz⟩ := en_store ⟨((q : Int) == 0), t, V⟩ HV.out w2 (w.heap.size + 1) x1
    have hbz := below_awG xb hAz (fun k hk => by omega) xb.size
    have hSz := And.intro (hAz.keep hS.1 (by omega)) (hAz.keep hS.2 (by omega))
    generalize (w2.setRow (w.heap.size + 1) (enC ⟨((q : Int) == 0), t, V⟩).toArray) = w5 at *
    go_wp2_with fail
    refine Ord.Seg.go hSz (fun h => by cases h) ?_
    (try simp only [Act.put, List.setIfInBounds_toArray, List.set_cons_zero, List.set_cons_succ])
    refine Ord.e_nil ?_
    clear hAz hS hSz x1 xb
    go_wp2
    exact bodyPost_ret (results_cell1 (fn := Try.f98) Try.results98 _ _ (w.heap.size + 1) _ _ _ _ rfl hz Try.underlying46 rfl (by rw [List.size_toArray, enC_len _ HV.out]; kernel_rfl)) rfl ⟨rfl, hbz⟩
set_option maxRecDepth 10000 in
set_option maxHeartbeats 4000000 in
theorem flast_any (g ev : Nat) (v : Value) (L : List En) (r b : Nat) (w : World) (h : Lgr w g ev v L r b) (hq : ∀ x ∈ L, EnQ x) (hn : L.length ≤ 1000) : Calls Try.prog 117 #[.pointer (some ⟨g, 0, none⟩)] w fun e w' => e = .returned (.agg (rcC (lastT 0 L) (lastV z12L L)).toArray) ∧ Below w.heap.size w w' := by
  obtain ⟨A, c, rfl⟩ := h.sl
  have xb := (Below.refl w.heap.size w).alloc (Nat.le_refl _) (.cells #[.int .u32 0, .int .i32 0, .int .i32 0, .int .i32 0, .int .i32 0, .int .i32 0, .int .i32 0, .int .i32 0, .int .i32 0, .int .i32 0, .int .i32 0, .int .i32 0, .int .i32 0] 25)
  have x1 := heap_alloc_new w (.cells #[.int .u32 0, .int .i32 0, .int .i32 0, .int .i32 0, .int .i32 0, .int .i32 0, .int .i32 0, .int .i32 0, .int .i32 0, .int .i32 0, .int .i32 0, .int .i32 0, .int .i32 0] 25)
  have hlg : (w.alloc (.cells #[.int .u32 0, .int .i32 0, .int .i32 0, .int .i32 0, .int .i32 0, .int .i32 0, .int .i32 0, .int .i32 0, .int .i32 0, .int .i32 0, .int .i32 0, .int .i32 0, .int .i32 0] 25)).heap[g]? = _ := blk_old h.1 xb h.lt
  have hgl := h.lt
  by_cases hL : L = []
  · subst hL
    have hn0 : ((([] : List En).length : Int) == 0) = true := rfl
    go_enter Try.func117, Try.ntmps117
    go_wp2_with (with_reducible refine stop_loadT 39 ?_)
    generalize (w.alloc (.cells #[.int .u32 0, .int .i32 0, .int .i32 0, .int .i32 0, .int .i32 0, .int .i32 0, .int .i32 0, .int .i32 0, .int .i32 0, .int .i32 0, .int .i32 0, .int .i32 0, .int .i32 0] 25)) = w1 at *
    replace x1 : RcB w1 w.heap.size 0 z12 := x1
    have c1 := blk_cell (i := 1) (v := .slice A ([] : List En).length c) hlg rfl
    refine go_ ?_
    go_wp2_with (first | (with_reducible refine stop_loadT 25 ?_) | (with_reducible refine stop_storeT 25 ?_) | (with_reducible refine stop_loadG 25 ?_))
    refine go_ (wpList_store_row rfl _ _ _ rfl w.heap.size (rcC 0 z12).toArray rfl rfl _ _ x1 (by kernel_rfl) (by kernel_rfl) (by kernel_rfl) ?_)
    obtain ⟨hz, hAz⟩ := rc_store 0 z12 rfl w1 w.heap.size x1
    have hbz := below_awG xb hAz (fun k hk => by omega) xb.size
    generalize (w1.setRow w.heap.size (rcC 0 z12).toArray) = w5 at *
    go_wp2
    exact bodyPost_ret (results_cell1 (fn := Try.f117) Try.results117 _ _ w.heap.size _ _ _ _ rfl hz Try.underlying25 rfl (by kernel_rfl)) rfl ⟨rfl, hbz⟩
  · have hpos : 0 < L.length := List.length_pos_iff.2 hL
    have hrd : RdE w w.heap.size A L.length c L := RdR.own (ls := L.map enC) h.2 (by rw [List.length_map]) (fun r hr => by obtain ⟨x, hx, rfl⟩ := List.mem_map.1 hr; exact enC_len x (hq x hx).2.1)
    obtain ⟨gL, off, x, hA, hgB, hx, hr⟩ := hrd.at_ (k := L.length - 1) (by omega)
    subst hA
    obtain ⟨l1, l2⟩ := last_at hx
    have HxV := Lib.hid (hq x (List.mem_of_getElem? hx)).2.1
    rw [l1, l2]
    have hn0 : ((L.length : Int) == 0) = false := by simp; omega
    have hr1 := range_rec hr
    obtain ⟨m, hm⟩ : ∃ m, L.length = m + 1 := ⟨L.length - 1, by omega⟩
    rw [hm, Nat.add_sub_cancel] at hr1
    have hr2 : ∀ w', Below w.heap.size w w' → w'.rangeAt gL (off + m * 14 + 1) (rcC x.t x.V) := fun w' hb j u hu => (hb.cell (p := ⟨gL, off + m * 14 + 1 + j, none⟩) hgB).trans (hr1 j u hu)
    have hwm : IntKind.i64.wrap (((m + 1 : Nat) : Int) - 1) = (m : Int) := by rw [IntWalk.i64_in _ (by omega)]; omega
    have hwm2 : IntKind.i64.wrap ((m : Int) + 1 - 1) = (m : Int) := by rw [IntWalk.i64_in _ (by omega)]; omega
    have hwm3 : IntKind.i64.wrap (m : Int) = (m : Int) := IntWalk.i64_in _ (by omega)
    have hltm : (m : Int) < (m : Int) + 1 := by omega
    have Hr2 := Lib.hid hr2
    rw [hm] at hlg hn0 hn
    clear hx hr hr1 hr2 hrd l1 l2 hL hpos
    go_enter Try.func117, Try.ntmps117
    go_wp2_with (with_reducible refine stop_loadT 39 ?_)
    generalize (w.alloc (.cells #[.int .u32 0, .int .i32 0, .int .i32 0, .int .i32 0, .int .i32 0, .int .i32 0, .int .i32 0, .int .i32 0, .int .i32 0, .int .i32 0, .int .i32 0, .int .i32 0, .int .i32 0] 25)) = w1 at *
    replace x1 : RcB w1 w.heap.size 0 z12 := x1
    have c1 := blk_cell (i := 1) (v := .slice (some ⟨gL, off, none⟩) (m + 1) c) hlg rfl
    refine go_ ?_
    go_wp2_with fail
    refine Ord.region_ (fun w' => Below w.heap.size w w' ∧ w'.cell? ⟨g, 1, none⟩ = some (.slice (some ⟨gL, off, none⟩) (m + 1) c)) false [] (by kernel_rfl) (by kernel_rfl) ⟨xb.drew, c1⟩ ?_
    have hS : Below w.heap.size w w1.drew ∧ w1.drew.cell? ⟨g, 1, none⟩ = some (.slice (some ⟨gL, off, none⟩) (m + 1) c) := ⟨xb.drew, c1⟩
    replace x1 : RcB w1.drew w.heap.size 0 z12 := x1
    clear c1 hlg xb
    generalize w1.drew = w2 at *
    ((with_reducible refine Ord.e_p (v := ?_) ?_ ?_ ?_ ?_); rotate_left; (· exact rfl); (· kernel_rfl); (· intro w2; go_simp; try with_reducible rfl))
    (try simp only [Act.put, List.setIfInBounds_toArray, List.set_cons_zero, List.set_cons_succ])
    ((with_reducible refine Ord.e_p (v := ?_) ?_ ?_ ?_ ?_); rotate_left; (· exact rfl); (· kernel_rfl); (· intro w2; go_simp; try with_reducible rfl))
    (try simp only [Act.put, List.setIfInBounds_toArray, List.set_cons_zero, List.set_cons_succ])
    ((with_reducible refine Ord.e_p (v := ?_) ?_ ?_ ?_ ?_); rotate_left; (· exact rfl); (· kernel_rfl); (· intro w2; go_simp; try with_reducible rfl))
    (try simp only [Act.put, List.setIfInBounds_toArray, List.set_cons_zero, List.set_cons_succ])
    refine Ord.e_loadS Try.underlying39 rfl (fun w' hS => (show _ ∧ w'.cell? ⟨g, 1, none⟩ = _ from hS).2) hS rfl (by kernel_rfl) ?_
    (try simp only [Act.put, List.setIfInBounds_toArray, List.set_cons_zero, List.set_cons_succ])
    ((with_reducible refine Ord.e_p (v := ?_) ?_ ?_ ?_ ?_); rotate_left; (· exact rfl); (· kernel_rfl); (· intro w2; go_simp; try with_reducible rfl))
    (try simp only [Act.put, List.setIfInBounds_toArray, List.set_cons_zero, List.set_cons_succ])
    ((with_reducible refine Ord.e_p (v := ?_) ?_ ?_ ?_ ?_); rotate_left; (· exact rfl); (· kernel_rfl); (· intro w2; go_simp; try with_reducible rfl))
    (try simp only [Act.put, List.setIfInBounds_toArray, List.set_cons_zero, List.set_cons_succ])
    ((with_reducible refine Ord.e_p (v := ?_) ?_ ?_ ?_ ?_); rotate_left; (· exact rfl); (· kernel_rfl); (· intro w2; go_simp; try with_reducible rfl))
    (try simp only [Act.put, List.setIfInBounds_toArray, List.set_cons_zero, List.set_cons_succ])
    refine Ord.e_loadS Try.underlying39 rfl (fun w' hS => (show _ ∧ w'.cell? ⟨g, 1, none⟩ = _ from hS).2) hS rfl (by kernel_rfl) ?_
    (try simp only [Act.put, List.setIfInBounds_toArray, List.set_cons_zero, List.set_cons_succ])
    ((with_reducible refine Ord.e_p (v := ?_) ?_ ?_ ?_ ?_); rotate_left; (· exact rfl); (· kernel_rfl); (· intro w2; go_simp; try with_reducible rfl))
    (try simp only [Act.put, List.setIfInBounds_toArray, List.set_cons_zero, List.set_cons_succ])
    ((with_reducible refine Ord.e_p (v := ?_) ?_ ?_ ?_ ?_); rotate_left; (· exact rfl); (· kernel_rfl); (· intro w2; go_simp; try with_reducible rfl))
    (try simp only [Act.put, List.setIfInBounds_toArray, List.set_cons_zero, List.set_cons_succ])
    ((with_reducible refine Ord.e_p (v := ?_) ?_ ?_ ?_ ?_); rotate_left; (· exact rfl); (· kernel_rfl); (· intro w2; go_simp; try with_reducible rfl))
    (try simp only [Act.put, List.setIfInBounds_toArray, List.set_cons_zero, List.set_cons_succ])
    ((with_reducible refine Ord.e_p (v := ?_) ?_ ?_ ?_ ?_); rotate_left; (· exact rfl); (· kernel_rfl); (· intro w2; go_simp; try with_reducible rfl))
    (try simp only [Act.put, List.setIfInBounds_toArray, List.set_cons_zero, List.set_cons_succ])
    refine Ord.e_rowS (b := gL) (o := off + m * 14 + 1) Try.underlying25 rfl (by rw [rcC_size x.t x.V HxV.out]; kernel_rfl) rfl (by unfold rcC; simp) (fun w' hS => Hr2.out w' (show Below _ w w' ∧ _ from hS).1) hS (by kernel_rfl) ?_
    (try simp only [Act.put, List.setIfInBounds_toArray, List.set_cons_zero, List.set_cons_succ])
    refine Ord.e_x rfl (by kernel_rfl) ?_
    refine wpList_store_row rfl _ _ _ rfl w.heap.size (rcC x.t x.V).toArray rfl rfl _ _ x1 (by rw [List.size_toArray, rcC_size x.t x.V HxV.out]; kernel_rfl) (by rw [List.size_toArray, List.size_toArray, rcC_size x.t x.V HxV.out]; rfl) (all_oneCell_toArray (rcC_one x.t x.V)) ?_
    obtain ⟨hz, hAz⟩ := rc_store x.t x.V HxV.out w2 w.heap.size x1
    have hbz := below_awG hS.1 hAz (fun k hk => by omega) hS.1.size
    have hSz : (w2.setRow w.heap.size (rcC x.t x.V).toArray).cell? ⟨g, 1, none⟩ = some (.slice (some ⟨gL, off, none⟩) (m + 1) c) := by
      have := cell_setRow_other35 (w := w2) (g := w.heap.size) (cs := (rcC x.t x.V).toArray) (p := ⟨g, 1, none⟩) (by show g ≠ _; omega)
      rw [this]; exact hS.2
    generalize (w2.setRow w.heap.size (rcC x.t x.V).toArray) = w5 at *
    go_wp2_with fail
    refine Ord.Seg.go ⟨hbz, hSz⟩ (fun h => by cases h) ?_
    (try simp only [Act.put, List.setIfInBounds_toArray, List.set_cons_zero, List.set_cons_succ])
    refine Ord.e_nil ?_
    clear hAz hS hSz x1
    go_wp2
    exact bodyPost_ret (results_cell1 (fn := Try.f117) Try.results117 _ _ w.heap.size _ _ _ _ rfl hz Try.underlying25 rfl (by rw [List.size_toArray, rcC_size x.t x.V HxV.out]; kernel_rfl)) rfl ⟨rfl, hbz⟩

end Go.Proofs.Ytplgcfjcdjlnbaa

/-
  The log's put, Flush, Add walked (printed by gen_flog2.py).
-/
set_option linter.unusedSimpArgs false
set_option linter.unusedVariables false
namespace Go.Proofs.Ytplgcfjcdjlnbaa
open Go.RowKit NumLaw CrcLaw
attribute [local go_sem] Addr.add_mid

theorem aw_next {w w1 w2 : World} {g : Nat} {v v1 : Value} (ha : Aw (Foot g v) w w1) (hu : ∀ k, v1.ownBlock = some k → v.ownBlock = some k ∨ w.heap.size ≤ k) (hb : Aw (Foot g v1) w1 w2) : Aw (Foot g v) w w2 :=
  ⟨hb.os.trans ha.os, hb.tape.trans ha.tape, hb.output.trans ha.output, Nat.le_trans ha.size hb.size, fun k hk hn => (hb.block k (Nat.lt_of_lt_of_le hk ha.size) (fun hf => by
    rcases hf with rfl | hf
    · exact hn (.inl rfl)
    · rcases hu k hf with h1 | h1
      · exact hn (.inr h1)
      · omega)).trans (ha.block k hk hn)⟩
theorem RetL.next {w w1 w2 : World} {g ev r1 b1 r2 b2 : Nat} {v v1 : Value} {L2 : List En} (ha : Aw (Foot g v) w w1) (hu : ∀ k, v1.ownBlock = some k → v.ownBlock = some k ∨ w.heap.size ≤ k) (h : RetL w1 g ev v1 L2 r2 b2 w2) : RetL w g ev v L2 r2 b2 w2 := by
  obtain ⟨v2, h1, h2, h3⟩ := h
  refine ⟨v2, h1, aw_next ha hu h2, fun k hk => ?_⟩
  rcases h3 k hk with h4 | h4
  · exact hu k h4
  · right; have := ha.size; omega
theorem Lgr.rde {w : World} {g ev r b A' c : Nat} {A : Option Addr} {L : List En} (h : Lgr w g ev (.slice A L.length c) L r b) (hq : ∀ x ∈ L, EnQ x) : RdE w w.heap.size A L.length c L :=
  RdR.own (ls := L.map enC) h.2 (by rw [List.length_map]) (fun r hr => by obtain ⟨x, hx, rfl⟩ := List.mem_map.1 hr; exact enC_len x (hq x hx).2.1)
/-- What put leaves: the entry had room, or nothing turned. -/
def RetPt (g ev : Nat) (v : Value) (L : List En) (r b : Nat) (x : En) (w : World) (e : Ending) (w' : World) : Prop :=
  e = .returned (.bool (!decide (248 < (entB (L ++ [x])).length))) ∧ (¬ 248 < (entB (L ++ [x])).length → RetL w g ev v (L ++ [x]) r b w') ∧ (248 < (entB (L ++ [x])).length → Lgr w' g ev v L r b ∧ Below w.heap.size w w')
set_option maxRecDepth 10000 in
set_option maxHeartbeats 4000000 in
theorem fput_any (g ev : Nat) (v : Value) (L : List En) (r b : Nat) (x : En) (w : World) (h : Lgr w g ev v L r b) (hq : LogQ L) (hx : EnQ x) : Calls Try.prog 99 #[.pointer (some ⟨g, 0, none⟩), .agg (enC x).toArray] w (RetPt g ev v L r b x w) := by
  obtain ⟨A, c, rfl⟩ := h.sl
  obtain ⟨i1, hi1⟩ := info_parts en_info
  have Hi1 := Lib.hid hi1
  have xb := (Below.refl w.heap.size w).alloc (Nat.le_refl _) (.cells (enC x).toArray 46)
  have x1 : EnB (w.alloc (.cells (enC x).toArray 46)) w.heap.size x := heap_alloc_new w _
  have hlg := h.up xb
  have hgl := h.lt
  have hxV := hx.2.1
  have HxV := Lib.hid hxV
  obtain ⟨l1, l2, l3⟩ := last_okL hq.1
  have hLn := logQ_len hq
  have Hlast := Lib.hid (fun w1 (h1 : Lgr w1 g ev (.slice A L.length c) L r b) => flast_any g ev _ L r b w1 h1 hq.1 (by omega))
  have Hlay := Lib.hid (fun w1 => lay_any (lastT 0 L) (lastV z12L L) x w1 l1 l2 l3 hx)
  have hsn := entB_snoc L x
  have hll := layB_len (t := lastT 0 L) l2 l3 hx
  generalize lastT 0 L = T0 at *
  generalize lastV z12L L = V0 at *
  have HV0 := Lib.hid l2
  have hsl : (entB (L ++ [x])).length = (entB L).length + (layB T0 V0 x).length := by rw [hsn, List.length_append]
  have hS0 := hq.2.1
  generalize layB T0 V0 x = lB at *
  obtain ⟨S1, hS1⟩ : ∃ v, v = (entB (L ++ [x])).length := ⟨_, rfl⟩
  rw [← hS1] at hsl
  have HS1 := Lib.hid hS1
  obtain ⟨S0, hS0e⟩ : ∃ v, v = (entB L).length := ⟨_, rfl⟩
  rw [← hS0e] at hsl hS0
  have hlg0 := hlg.1
  rw [← hS0e] at hlg0
  have HS0 := Lib.hid hS0e
  have Hsl := Lib.hid hsl
  clear hi1 hxV l2 l3 hsn hS1 hS0e
  go_enter Try.func99, Try.ntmps99
  go_wp2_with fail
  generalize (w.alloc (.cells (enC x).toArray 46)) = w1 at *
  refine Ord.region_ (fun w' => EnB w' w.heap.size x) false [] (by kernel_rfl) (by kernel_rfl) x1 ?_
  replace x1 : EnB w1.drew w.heap.size x := x1
  replace hlg := hlg.keep (w' := w1.drew) ((Aw.refl (fun _ => False) w1).drew) (fun _ _ h => h)
  replace xb := xb.drew
  clear hlg0
  generalize w1.drew = w2 at *
  ((with_reducible refine Ord.e_p (v := ?_) ?_ ?_ ?_ ?_); rotate_left; (· exact rfl); (· kernel_rfl); (· intro w2; go_simp; try with_reducible rfl))
  (try simp only [Act.put, List.setIfInBounds_toArray, List.set_cons_zero, List.set_cons_succ])
  refine Ord.e_x rfl (by kernel_rfl) ?_
  go_wp2_with fail
  go_fit (Hlast.out w2 hlg)
  rintro e w3 ⟨rfl, hbx⟩
  replace x1 : EnB w3 w.heap.size x := blk_old x1 hbx (blk_lt x1)
  replace hlg := hlg.up hbx
  replace xb := bnx xb hbx
  clear hbx
  go_wp2_with fail
  refine Ord.Seg.go x1 (fun h => by cases h) ?_
  (try simp only [Act.put, List.setIfInBounds_toArray, List.set_cons_zero, List.set_cons_succ])
  refine Ord.e_rowS (b := w.heap.size) (o := 0) Try.underlying46 rfl (by rw [enC_len x HxV.out]; kernel_rfl) rfl (by unfold enC; simp) (fun w' hS => (show EnB w' w.heap.size x from hS).all) x1 (by kernel_rfl) ?_
  (try simp only [Act.put, List.setIfInBounds_toArray, List.set_cons_zero, List.set_cons_succ])
  refine Ord.e_x rfl (by kernel_rfl) ?_
  go_wp2_with fail
  go_fit (Hlay.out w3)
  rintro e w4 ⟨A4, c4, n4, rfl, own4, hbx⟩
  have hl4 := own_len own4
  replace x1 : EnB w4 w.heap.size x := blk_old x1 hbx (blk_lt x1)
  replace hlg := hlg.up hbx
  replace xb := bnx xb hbx
  have hsl2 : S1 = S0 + n4 := by rw [Hsl.out, hl4]
  have Hsl2 := Lib.hid hsl2
  rw [hl4] at hll
  obtain ⟨hll1, hll2⟩ := hll
  clear hbx own4 hl4 Hsl hsl
  go_wp2_with fail
  refine Ord.Seg.go x1 (fun h => by cases h) ?_
  (try simp only [Act.put, List.setIfInBounds_toArray, List.set_cons_zero, List.set_cons_succ])
  ((with_reducible refine Ord.e_p (v := ?_) ?_ ?_ ?_ ?_); rotate_left; (· exact rfl); (· kernel_rfl); (· intro w2; go_simp; try with_reducible rfl))
  (try simp only [Act.put, List.setIfInBounds_toArray, List.set_cons_zero, List.set_cons_succ])
  ((with_reducible refine Ord.e_p (v := ?_) ?_ ?_ ?_ ?_); rotate_left; (· exact rfl); (· kernel_rfl); (· intro w2; go_simp; try with_reducible rfl))
  (try simp only [Act.put, List.setIfInBounds_toArray, List.set_cons_zero, List.set_cons_succ])
  refine Ord.e_nil ?_
  have hcl : w4.heap[g]? = some (.cells #[.int .i64 (ev : Int), .slice A L.length c, .int .i64 (S0 : Int), .int .i64 (r : Int), .int .i64 (b : Int)] 78) := by rw [HS0.out]; exact hlg.1
  have c1 := blk_cell (i := 1) (v := .slice A L.length c) hcl rfl
  have c2 := blk_cell (i := 2) (v := .int .i64 (S0 : Int)) hcl rfl
  by_cases hf : 248 < S1
  · have hf' : (248 : Int) < (S0 : Int) + (n4 : Int) := by omega
    clear c1 hcl hsl2
    go_wp2
    go_ret
    rw [HS1.out] at hf
    exact ⟨by rw [decide_eq_true hf]; rfl, fun h => absurd hf h, fun _ => ⟨hlg, xb⟩⟩
  have hf' : ¬ (248 : Int) < (S0 : Int) + (n4 : Int) := by omega
  clear hsl2
  go_wp2_with fail
  clear c1 c2
  refine Ord.region_ (fun w' => EnB w' w.heap.size x) true [22] (by kernel_rfl) (by kernel_rfl) x1 ?_
  replace x1 : EnB w4.drew w.heap.size x := x1
  replace hcl : w4.drew.heap[g]? = _ := hcl
  have hown := own_up hlg.2 (w' := w4.drew) (Below.refl _ _).drew (Nat.le_refl _)
  replace xb := xb.drew
  clear hlg
  generalize w4.drew = w5 at *
  have c1 : w5.cell? ⟨g, 1, none⟩ = some (.slice A L.length c) := blk_cell (i := 1) hcl rfl
  ((with_reducible refine Ord.e_p (v := ?_) ?_ ?_ ?_ ?_); rotate_left; (· exact rfl); (· kernel_rfl); (· intro w2; go_simp; try with_reducible rfl))
  (try simp only [Act.put, List.setIfInBounds_toArray, List.set_cons_zero, List.set_cons_succ])
  ((with_reducible refine Ord.e_p (v := ?_) ?_ ?_ ?_ ?_); rotate_left; (· exact rfl); (· kernel_rfl); (· intro w2; go_simp; try with_reducible rfl))
  (try simp only [Act.put, List.setIfInBounds_toArray, List.set_cons_zero, List.set_cons_succ])
  ((with_reducible refine Ord.e_p (v := ?_) ?_ ?_ ?_ ?_); rotate_left; (· exact rfl); (· kernel_rfl); (· intro w2; go_simp; try with_reducible rfl))
  (try simp only [Act.put, List.setIfInBounds_toArray, List.set_cons_zero, List.set_cons_succ])
  ((with_reducible refine Ord.e_p (v := ?_) ?_ ?_ ?_ ?_); rotate_left; (· exact rfl); (· kernel_rfl); (· intro w2; go_simp; try with_reducible rfl))
  (try simp only [Act.put, List.setIfInBounds_toArray, List.set_cons_zero, List.set_cons_succ])
  refine Ord.e_load Try.underlying39 rfl c1 rfl (by rfl) (by kernel_rfl) ?_
  (try simp only [Act.put, List.setIfInBounds_toArray, List.set_cons_zero, List.set_cons_succ])
  refine Ord.e_rowS (b := w.heap.size) (o := 0) Try.underlying46 rfl (by rw [enC_len x HxV.out]; kernel_rfl) rfl (by unfold enC; simp) (fun w' hS => (show EnB w' w.heap.size x from hS).all) x1 (by kernel_rfl) ?_
  (try simp only [Act.put, List.setIfInBounds_toArray, List.set_cons_zero, List.set_cons_succ])
  refine Ord.e_x rfl (by kernel_rfl) ?_
  refine wpList_bs1 Try.underlying39 Hi1.out (by kernel_rfl) (by omega) (by omega) (enC_len x HxV.out) rfl ?_
  have hbn : Below w5.heap.size w5 (w5.alloc (.cells (enC x).toArray 46)) := (Below.refl _ _).alloc (Nat.le_refl _) _
  have hrd : Rd (w5.alloc (.cells (enC x).toArray 46)) (w5.heap.size + 1) 14 (some ⟨w5.heap.size, 0, none⟩) 1 1 (enC x) := by
    have := (RdR.lit (size := 14) (e := 46) w5 [enC x] (enC x).toArray (by simp) (by intro r hr; rw [List.mem_singleton.1 hr]; exact enC_len x HxV.out) (by simp [maxLen]) 1 rfl).rd (by omega)
    simpa using this
  have hne0 : ∀ j, (Value.slice A L.length c).ownBlock = some j → j ≠ w.heap.size := fun j hj => by have := (own_blk h.2 hj).2; omega
  replace hcl := blk_old hcl hbn (blk_lt hcl)
  replace x1 : EnB _ w.heap.size x := blk_old x1 hbn (blk_lt x1)
  replace hown := own_up hown hbn (Nat.le_refl _)
  replace xb := bnx xb hbn
  go_wp2_with fail
  refine Ord.Seg.go x1 (fun _ => hbn) ?_
  (try simp only [Act.put, List.setIfInBounds_toArray, List.set_cons_zero, List.set_cons_succ])
  clear hbn c1
  generalize (w5.alloc (.cells (enC x).toArray 46)) = w6 at *
  generalize w5.heap.size = gb at *
  refine Ord.e_x rfl (by kernel_rfl) ?_
  refine wpList_appG (base := g + 1) (n := L.length) Try.underlying39 Hi1.out (by kernel_rfl) (by omega) hown rfl hrd rfl (enC_one x) (k := L.length + 1) (ys := ((L ++ [x]).map enC).flatten) rfl (by simp) (by unfold maxLen; omega) (by omega) (by have := blk_lt hcl; omega) ?_
  intro A7 c7 w7 hown7 hgr hob
  have hne6 : ∀ j, (Value.slice A L.length c).ownBlock = some j → g < j := fun j hj => by have := (own_blk hown hj).1; omega
  have haw7 : Aw (Foot g (.slice A L.length c)) w w7 := (Aw.of_below' xb).trans ((Aw.of_grown hgr).mono (fun k hk => .inr hk))
  replace hcl := (hgr.block _ (blk_lt hcl) (fun e => by have := hne6 _ e.symm; omega)).trans hcl
  replace x1 : EnB w7 w.heap.size x := (hgr.block _ (blk_lt x1) (fun e => hne0 _ e.symm rfl)).trans x1
  have hup : ∀ k, (Value.slice A7 (L.length + 1) c7).ownBlock = some k → (Value.slice A L.length c).ownBlock = some k ∨ w.heap.size ≤ k := fun k hk => by
    rcases hob with h1 | h1
    · exact .inl (h1.symm.trans hk)
    · have h2 := h1.symm.trans hk
      injection h2 with h2
      right; have := xb.size; omega
  clear hgr hob hown hrd hne0 hne6 xb
  go_wp2_with fail
  refine Ord.Seg.go x1 (fun h => by cases h) ?_
  (try simp only [Act.put, List.setIfInBounds_toArray, List.set_cons_zero, List.set_cons_succ])
  ((with_reducible refine Ord.e_p (v := ?_) ?_ ?_ ?_ ?_); rotate_left; (· exact rfl); (· kernel_rfl); (· intro w2; go_simp; try with_reducible rfl))
  (try simp only [Act.put, List.setIfInBounds_toArray, List.set_cons_zero, List.set_cons_succ])
  ((with_reducible refine Ord.e_p (v := ?_) ?_ ?_ ?_ ?_); rotate_left; (· exact rfl); (· kernel_rfl); (· intro w2; go_simp; try with_reducible rfl))
  (try simp only [Act.put, List.setIfInBounds_toArray, List.set_cons_zero, List.set_cons_succ])
  have s1 : w7.cell? ⟨g, 1, none⟩ = some (.slice A L.length c) := blk_cell hcl rfl
  have s2 : w7.frozen? ⟨g, 1, none⟩ = false := blk_free (i := 1) hcl
  refine Ord.e_x rfl (by kernel_rfl) ?_
  go_wp2
  have hcl8 := blk_set (i := 1) hcl (.slice A7 (L.length + 1) c7)
  have haw8 : Aw (Foot g (.slice A L.length c)) w (w7.setCell ⟨g, 1, none⟩ (.slice A7 (L.length + 1) c7)) := haw7.set (p := ⟨g, 1, none⟩) _ (.inl rfl)
  have hawg : Aw (fun k => k = g) w7 (w7.setCell ⟨g, 1, none⟩ (.slice A7 (L.length + 1) c7)) := (Aw.refl _ _).set (p := ⟨g, 1, none⟩) _ rfl
  have hown8 := own_aw hown7 hawg (fun j hj hu => by have := (own_blk hown7 hj).1; omega)
  have x18 : EnB _ w.heap.size x := hawg.keep x1 (by omega)
  refine Ord.Seg.go x18 (fun h => by cases h) ?_
  (try simp only [Act.put, List.setIfInBounds_toArray, List.set_cons_zero, List.set_cons_succ])
  refine Ord.e_nil ?_
  clear s1 s2 hcl x1 hown7 haw7 hawg x18
  generalize (w7.setCell ⟨g, 1, none⟩ (.slice A7 (L.length + 1) c7)) = w8 at *
  replace hcl8 : w8.heap[g]? = some (.cells #[.int .i64 (ev : Int), .slice A7 (L.length + 1) c7, .int .i64 (S0 : Int), .int .i64 (r : Int), .int .i64 (b : Int)] 78) := hcl8
  have s1 : w8.cell? ⟨g, 2, none⟩ = some (.int .i64 (S0 : Int)) := blk_cell hcl8 rfl
  have s2 : w8.frozen? ⟨g, 2, none⟩ = false := blk_free (i := 2) hcl8
  have hcl9 := blk_set (i := 2) hcl8 (.int .i64 ((S0 : Int) + (n4 : Int)))
  have haw9 : Aw (Foot g (.slice A L.length c)) w (w8.setCell ⟨g, 2, none⟩ (.int .i64 ((S0 : Int) + (n4 : Int)))) := haw8.set (p := ⟨g, 2, none⟩) _ (.inl rfl)
  have hawg : Aw (fun k => k = g) w8 (w8.setCell ⟨g, 2, none⟩ (.int .i64 ((S0 : Int) + (n4 : Int)))) := (Aw.refl _ _).set (p := ⟨g, 2, none⟩) _ rfl
  have hown9 := own_aw hown8 hawg (fun j hj hu => by have := (own_blk hown8 hj).1; omega)
  clear haw8 hown8 hawg hcl8
  go_wp2
  go_ret
  rw [HS1.out] at hf
  refine ⟨by rw [decide_eq_false hf]; rfl, fun _ => ⟨_, ⟨?_, ?_⟩, haw9, hup⟩, fun h => absurd h hf⟩
  · rw [← HS1.out, Hsl2.out, show ((S0 + n4 : Nat) : Int) = (S0 : Int) + (n4 : Int) by omega]
    exact hcl9
  · rw [List.length_append]
    exact hown9
/-- Flush: what it hands back. -/
def RetF (w : World) (l : List UInt8) (g ev : Nat) (v : Value) (L' : List En) (r' b' : Nat) (e : Ending) (w' : World) : Prop :=
  ∃ A c n v', e = .returned (.slice A n c) ∧ w'.ownsRow w.heap.size 5 1 (.slice A n c) n (bv l) ∧ Lgr w' g ev v' L' r' b' ∧ Aw (Foot g v) w w' ∧ (∀ k, v'.ownBlock = some k → v.ownBlock = some k ∨ w.heap.size ≤ k) ∧ ∀ k, v'.ownBlock = some k → (Value.slice A n c).ownBlock ≠ some k
set_option maxRecDepth 10000 in
set_option maxHeartbeats 4000000 in
theorem fflush_any (g ev : Nat) (v : Value) (L : List En) (r b : Nat) (w : World) (h : Lgr w g ev v L r b) (hq : LogQ L) (hev : 1 ≤ ev) (hb : b ≤ 1000000) : Calls Try.prog 48 #[.pointer (some ⟨g, 0, none⟩)] w (RetF w (flO L b) g ev v [] r (flB L b)) := by
  obtain ⟨A, c, rfl⟩ := h.sl
  have hth := there_any g ev _ L r b w h hev
  have hgl := h.lt
  by_cases hL : L = []
  · subst hL
    have c1 := blk_cell (i := 1) (v := .slice A ([] : List En).length c) h.1 rfl
    have hn0 : ((([] : List En).length : Int) == 0) = true := rfl
    go_enter Try.func48, Try.ntmps48
    go_wp2_with fail
    go_fit hth
    rintro e w1 ⟨rfl, rfl⟩
    go_wp2
    go_ret
    exact ⟨none, 0, 0, _, rfl, World.ownsRow_nil _ _ _ _, h, Aw.refl _ _, fun k hk => .inl hk, fun k _ h2 => by cases h2⟩
  have hpos : 0 < L.length := List.length_pos_iff.2 hL
  have hn0 : ((L.length : Int) == 0) = false := by simp; omega
  have hnz : ¬ (L.length : Int) = 0 := by omega
  have hE := logQ_put hq hL
  have hLn := logQ_len hq
  have e1 : flO L b = putB b L := by unfold flO; rw [if_neg hL]
  have e2 : flB L b = b + 1 := by unfold flB; rw [if_neg hL]
  rw [e1, e2]
  have Hput := Lib.hid (fun w1 (h1 : RdE w1 w1.heap.size A L.length c L) => blkPut_any b A L.length c w1.heap.size L w1 (by omega) h1 (Nat.le_refl _) hq.1 (by omega))
  rw [hE] at Hput
  generalize putB b L = pB at *
  have hwb : IntKind.u32.wrap (b : Int) = (b : Int) := by rw [IntKind.wrap_u32]; omega
  have hcl := h.1
  have Hq := Lib.hid hq.1
  obtain ⟨n, hn⟩ : ∃ n, n = L.length := ⟨_, rfl⟩
  obtain ⟨S0, hS0⟩ : ∃ v, v = (entB L).length := ⟨_, rfl⟩
  rw [← hn] at Hput hn0 hnz
  rw [← hn, ← hS0] at hcl
  have hrd := h.rde (A' := 0) hq.1
  rw [← hn] at hrd
  have c1 := blk_cell (i := 1) (v := .slice A n c) hcl rfl
  have hawf : ∀ w2, Below w.heap.size w w2 → Aw (Foot g (.slice A L.length c)) w w2 := fun w2 h2 => Aw.of_below' h2
  have Hn := Lib.hid hn
  clear e1 e2 hn hS0 hq hE
  go_enter Try.func48, Try.ntmps48
  go_wp2_with fail
  go_fit hth
  rintro e w1 ⟨rfl, rfl⟩
  go_wp2_with fail
  refine Ord.region_ (fun w' => w'.heap[g]? = some (.cells #[.int .i64 (ev : Int), .slice A n c, .int .i64 (S0 : Int), .int .i64 (r : Int), .int .i64 (b : Int)] 78)) false [] (by kernel_rfl) (by kernel_rfl) hcl ?_
  have hS : w.drew.heap[g]? = some (.cells #[.int .i64 (ev : Int), .slice A n c, .int .i64 (S0 : Int), .int .i64 (r : Int), .int .i64 (b : Int)] 78) := hcl
  have hbb : Below w.heap.size w w.drew := (Below.refl _ _).drew
  replace hrd : RdE w.drew w.drew.heap.size A n c L := RdR.nx hrd hbb
  clear c1 hcl hth
  generalize hwd : w.drew = w2 at *
  clear hwd
  ((with_reducible refine Ord.e_p (v := ?_) ?_ ?_ ?_ ?_); rotate_left; (· exact rfl); (· kernel_rfl); (· intro w2; go_simp; try with_reducible rfl))
  (try simp only [Act.put, List.setIfInBounds_toArray, List.set_cons_zero, List.set_cons_succ])
  ((with_reducible refine Ord.e_p (v := ?_) ?_ ?_ ?_ ?_); rotate_left; (· exact rfl); (· kernel_rfl); (· intro w2; go_simp; try with_reducible rfl))
  (try simp only [Act.put, List.setIfInBounds_toArray, List.set_cons_zero, List.set_cons_succ])
  ((with_reducible refine Ord.e_p (v := ?_) ?_ ?_ ?_ ?_); rotate_left; (· exact rfl); (· kernel_rfl); (· intro w2; go_simp; try with_reducible rfl))
  (try simp only [Act.put, List.setIfInBounds_toArray, List.set_cons_zero, List.set_cons_succ])
  refine Ord.e_loadS Try.underlying3 rfl (fun w' hS => blk_cell (i := 4) (v := .int .i64 (b : Int)) hS rfl) hS rfl (by kernel_rfl) ?_
  (try simp only [Act.put, List.setIfInBounds_toArray, List.set_cons_zero, List.set_cons_succ])
  ((with_reducible refine Ord.e_p (v := ?_) ?_ ?_ ?_ ?_); rotate_left; (· exact rfl); (· kernel_rfl); (· intro w2; go_simp; try with_reducible rfl))
  (try simp only [Act.put, List.setIfInBounds_toArray, List.set_cons_zero, List.set_cons_succ])
  ((with_reducible refine Ord.e_p (v := ?_) ?_ ?_ ?_ ?_); rotate_left; (· exact rfl); (· kernel_rfl); (· intro w2; go_simp; try with_reducible rfl))
  (try simp only [Act.put, List.setIfInBounds_toArray, List.set_cons_zero, List.set_cons_succ])
  ((with_reducible refine Ord.e_p (v := ?_) ?_ ?_ ?_ ?_); rotate_left; (· exact rfl); (· kernel_rfl); (· intro w2; go_simp; try with_reducible rfl))
  (try simp only [Act.put, List.setIfInBounds_toArray, List.set_cons_zero, List.set_cons_succ])
  ((with_reducible refine Ord.e_p (v := ?_) ?_ ?_ ?_ ?_); rotate_left; (· exact rfl); (· kernel_rfl); (· intro w2; go_simp; try with_reducible rfl))
  (try simp only [Act.put, List.setIfInBounds_toArray, List.set_cons_zero, List.set_cons_succ])
  refine Ord.e_loadS Try.underlying39 rfl (fun w' hS => blk_cell (i := 1) (v := .slice A n c) hS rfl) hS rfl (by kernel_rfl) ?_
  (try simp only [Act.put, List.setIfInBounds_toArray, List.set_cons_zero, List.set_cons_succ])
  ((with_reducible refine Ord.e_p (v := ?_) ?_ ?_ ?_ ?_); rotate_left; (· exact rfl); (· kernel_rfl); (· intro w2; go_simp; try with_reducible rfl))
  (try simp only [Act.put, List.setIfInBounds_toArray, List.set_cons_zero, List.set_cons_succ])
  refine Ord.e_x rfl (by kernel_rfl) ?_
  go_wp2_with fail
  go_fit (Hput.out w2 hrd)
  rintro e w3 ⟨A3, c3, n3, rfl, own3, hbx⟩
  replace hS := blk_old hS hbx (blk_lt hS)
  replace own3 := own_mono own3 hbb.size
  replace hbb := bnx hbb hbx
  clear hbx hrd
  go_wp2_with fail
  refine Ord.Seg.go hS (fun h => by cases h) ?_
  (try simp only [Act.put, List.setIfInBounds_toArray, List.set_cons_zero, List.set_cons_succ])
  ((with_reducible refine Ord.e_p (v := ?_) ?_ ?_ ?_ ?_); rotate_left; (· exact rfl); (· kernel_rfl); (· intro w2; go_simp; try with_reducible rfl))
  (try simp only [Act.put, List.setIfInBounds_toArray, List.set_cons_zero, List.set_cons_succ])
  ((with_reducible refine Ord.e_p (v := ?_) ?_ ?_ ?_ ?_); rotate_left; (· exact rfl); (· kernel_rfl); (· intro w2; go_simp; try with_reducible rfl))
  (try simp only [Act.put, List.setIfInBounds_toArray, List.set_cons_zero, List.set_cons_succ])
  ((with_reducible refine Ord.e_p (v := ?_) ?_ ?_ ?_ ?_); rotate_left; (· exact rfl); (· kernel_rfl); (· intro w2; go_simp; try with_reducible rfl))
  (try simp only [Act.put, List.setIfInBounds_toArray, List.set_cons_zero, List.set_cons_succ])
  ((with_reducible refine Ord.e_p (v := ?_) ?_ ?_ ?_ ?_); rotate_left; (· exact rfl); (· kernel_rfl); (· intro w2; go_simp; try with_reducible rfl))
  (try simp only [Act.put, List.setIfInBounds_toArray, List.set_cons_zero, List.set_cons_succ])
  ((with_reducible refine Ord.e_p (v := ?_) ?_ ?_ ?_ ?_); rotate_left; (· exact rfl); (· kernel_rfl); (· intro w2; go_simp; try with_reducible rfl))
  (try simp only [Act.put, List.setIfInBounds_toArray, List.set_cons_zero, List.set_cons_succ])
  refine Ord.e_nil ?_
  have hcl := hS
  clear hS
  have s1 : w3.cell? ⟨g, 1, none⟩ = some (.slice A n c) := blk_cell hcl rfl
  have s2 : w3.frozen? ⟨g, 1, none⟩ = false := blk_free (i := 1) hcl
  have hk1 := blk_set (i := 1) hcl (.slice none 0 0)
  have s3 : (w3.setCell ⟨g, 1, none⟩ (.slice none 0 0)).cell? ⟨g, 2, none⟩ = some (.int .i64 (S0 : Int)) := blk_cell (i := 2) hk1 rfl
  have s4 : (w3.setCell ⟨g, 1, none⟩ (.slice none 0 0)).frozen? ⟨g, 2, none⟩ = false := blk_free (i := 2) hk1
  have hk2 := blk_set (i := 2) hk1 (.int .i64 0)
  have s5 : ((w3.setCell ⟨g, 1, none⟩ (.slice none 0 0)).setCell ⟨g, 2, none⟩ (.int .i64 0)).cell? ⟨g, 4, none⟩ = some (.int .i64 (b : Int)) := blk_cell (i := 4) hk2 rfl
  have s6 : ((w3.setCell ⟨g, 1, none⟩ (.slice none 0 0)).setCell ⟨g, 2, none⟩ (.int .i64 0)).frozen? ⟨g, 4, none⟩ = false := blk_free (i := 4) hk2
  have hk3 := blk_set (i := 4) hk2 (.int .i64 ((b : Int) + 1))
  have haw : Aw (Foot g (.slice A L.length c)) w (((w3.setCell ⟨g, 1, none⟩ (.slice none 0 0)).setCell ⟨g, 2, none⟩ (.int .i64 0)).setCell ⟨g, 4, none⟩ (.int .i64 ((b : Int) + 1))) := (((hawf w3 hbb).set (p := ⟨g, 1, none⟩) _ (.inl rfl)).set (p := ⟨g, 2, none⟩) _ (.inl rfl)).set (p := ⟨g, 4, none⟩) _ (.inl rfl)
  have hawg : Aw (fun k => k = g) w3 (((w3.setCell ⟨g, 1, none⟩ (.slice none 0 0)).setCell ⟨g, 2, none⟩ (.int .i64 0)).setCell ⟨g, 4, none⟩ (.int .i64 ((b : Int) + 1))) := (((Aw.refl (fun k => k = g) w3).set (p := ⟨g, 1, none⟩) _ rfl).set (p := ⟨g, 2, none⟩) _ rfl).set (p := ⟨g, 4, none⟩) _ rfl
  have own9 := own_aw own3 hawg (fun j hj hu => by have := (own_blk own3 hj).1; omega)
  clear hk1 hk2 hawg own3 hcl hbb hawf
  go_wp2
  go_ret
  refine ⟨A3, c3, n3, .slice none 0 0, rfl, own9, ⟨?_, World.ownsRow_nil _ _ _ _⟩, haw, fun k hk => (by cases hk), fun k hk => by cases hk⟩
  rw [show ((b + 1 : Nat) : Int) = (b : Int) + 1 by omega]
  exact hk3
set_option maxRecDepth 10000 in
set_option maxHeartbeats 4000000 in
theorem fadd_any (g ev : Nat) (v : Value) (L : List En) (r b t : Nat) (V : List Int) (w : World) (h : Lgr w g ev v L r b) (hq : LogQ L) (hev : 1 ≤ ev) (hev2 : ev ≤ 255) (hr : r ≤ 1000000) (hb : b ≤ 1000000) (ht : t < 4294967296) (hV : V.length = 12) (h32 : ∀ z ∈ V, in32 z) :
    Calls Try.prog 50 #[.pointer (some ⟨g, 0, none⟩), .agg (rcC t V).toArray] w (RetF w (adO ev L r b t V) g ev v (adL ev L r t V) (r + 1) (adB ev L r b t V)) := by
  have xb := (Below.refl w.heap.size w).alloc (Nat.le_refl _) (.cells (rcC t V).toArray 25)
  have x0 : RcB (w.alloc (.cells (rcC t V).toArray 25)) w.heap.size t V := heap_alloc_new w _
  have hlg := h.up xb
  have hgl := h.lt
  have HV := Lib.hid hV
  have Hent := Lib.hid (fun w1 v1 (h1 : Lgr w1 g ev v1 L r b) => fentry_any g ev v1 L r b t V w1 h1 hev hev2 hr hV)
  have Hent2 := Lib.hid (fun w1 v1 (h1 : Lgr w1 g ev v1 [] r (flB L b)) => fentry_any g ev v1 [] r (flB L b) t V w1 h1 hev hev2 hr hV)
  have Hput := Lib.hid (fun w1 v1 (h1 : Lgr w1 g ev v1 L r b) => fput_any g ev v1 L r b (adX ev L r t V) w1 h1 hq (adX_q ht hV h32))
  have Hput2 := Lib.hid (fun w1 v1 (h1 : Lgr w1 g ev v1 [] r (flB L b)) => fput_any g ev v1 [] r (flB L b) ⟨true, t, V⟩ w1 h1 logQ_nil ⟨ht, hV, h32⟩)
  have H53 : Hid (¬ 248 < (entB ([] ++ [(⟨true, t, V⟩ : En)])).length) := Lib.hid (by rw [List.nil_append, key53 t V hV]; omega)
  have Hfl := Lib.hid (fun w1 v1 (h1 : Lgr w1 g ev v1 L r b) => fflush_any g ev v1 L r b w1 h1 hq hev hb)
  have Hth := Lib.hid (fun w1 v1 (h1 : Lgr w1 g ev v1 L r b) => there_any g ev v1 L r b w1 h1 hev)
  have ex0 : adX ev [] r t V = ⟨true, t, V⟩ := rfl
  rw [ex0] at Hent2
  have HF : Hid (adF ev L r t V = decide (248 < (entB (L ++ [adX ev L r t V])).length)) := Lib.hid rfl
  have HL1 : Hid (adL ev L r t V = if adF ev L r t V = true then [⟨true, t, V⟩] else L ++ [adX ev L r t V]) := Lib.hid rfl
  have HB1 : Hid (adB ev L r b t V = if adF ev L r t V = true then b + 1 else b) := Lib.hid rfl
  have HO1 : Hid (adO ev L r b t V = if adF ev L r t V = true then putB b L else []) := Lib.hid rfl
  have Hne := Lib.hid (fun h => adF_ne (ev := ev) (L := L) (r := r) (t := t) hV h)
  have hvb : ∀ k, v.ownBlock = some k → k < w.heap.size := fun k hk => (own_blk h.2 hk).2
  generalize adO ev L r b t V = aO at *
  generalize adB ev L r b t V = aB at *
  generalize adL ev L r t V = aL at *
  clear hV h32 ht hq ex0 h
  go_enter Try.func50, Try.ntmps50
  go_wp2_with fail
  generalize (w.alloc (.cells (rcC t V).toArray 25)) = w1 at *
  go_fit (Hth.out w1 _ hlg)
  rintro e w1' ⟨rfl, rfl⟩
  go_wp2_with (first | (with_reducible refine stop_loadT 25 ?_) | (with_reducible refine stop_storeT 25 ?_) | (with_reducible refine stop_loadG 25 ?_))
  refine go_ (wpList_load_mid rfl _ _ rfl w.heap.size 0 rfl _ _ x0.all Try.underlying25 rfl (by rw [rcC_size t V HV.out]; kernel_rfl) ?_)
  go_wp2_with fail
  go_fit (Hent.out w1 _ hlg)
  rintro e w2 ⟨rfl, hbx⟩
  replace hlg := hlg.up hbx
  replace x0 : RcB w2 w.heap.size t V := blk_old x0 hbx (blk_lt x0)
  replace xb := bnx xb hbx
  clear hbx
  go_wp2_with fail
  go_fit (Hput.out w2 _ hlg)
  rintro e w3 ⟨rfl, hyes, hno⟩
  by_cases hF : 248 < (entB (L ++ [adX ev L r t V])).length
  · obtain ⟨hlg3, hb3⟩ := hno hF
    have hFt : adF ev L r t V = true := by rw [HF.out, decide_eq_true hF]
    have eL : aL = [⟨true, t, V⟩] := by rw [HL1.out, if_pos hFt]
    have hLn := Hne.out hFt
    have eB : aB = flB L b := by rw [HB1.out, if_pos hFt]; unfold flB; rw [if_neg hLn]
    have eO : aO = flO L b := by rw [HO1.out, if_pos hFt]; unfold flO; rw [if_neg hLn]
    subst eL; subst eB; subst eO
    rw [decide_eq_true hF]
    have hfl := Hfl.out w3 _ hlg3
    replace x0 : RcB w3 w.heap.size t V := blk_old x0 hb3 (blk_lt x0)
    replace xb := bnx xb hb3
    clear hyes hno hb3 hlg hlg3 hF hFt hLn
    go_wp2_with fail
    go_fit hfl
    rintro e w4 ⟨A4, c4, n4, v4, rfl, own4, hlg4, haw4, hu4, hd4⟩
    have hsz3 : w.heap.size < w3.heap.size := blk_lt x0
    have x04 : RcB w4 w.heap.size t V := haw4.keep x0 (fun hf => by
      rcases hf with hf | hf
      · omega
      · have := hvb _ hf; omega)
    replace haw4 : Aw (Foot g v) w w4 := (Aw.of_below' xb).trans haw4
    replace hu4 : ∀ k, v4.ownBlock = some k → v.ownBlock = some k ∨ w.heap.size ≤ k := fun k hk => by
      rcases hu4 k hk with h1 | h1
      · exact .inl h1
      · right; omega
    replace own4 := own_mono own4 (Nat.le_of_lt hsz3)
    clear x0 xb hfl
    go_wp2_with (first | (with_reducible refine stop_loadT 25 ?_) | (with_reducible refine stop_storeT 25 ?_) | (with_reducible refine stop_loadG 25 ?_))
    refine go_ (wpList_load_mid rfl _ _ rfl w.heap.size 0 rfl _ _ x04.all Try.underlying25 rfl (by rw [rcC_size t V HV.out]; kernel_rfl) ?_)
    go_wp2_with fail
    go_fit (Hent2.out w4 _ hlg4)
    rintro e w5 ⟨rfl, hbx⟩
    replace hlg4 := hlg4.up hbx
    replace own4 := own_up own4 hbx (Nat.le_refl _)
    replace haw4 := haw4.trans (Aw.of_below' hbx)
    clear hbx x04 hsz3
    go_wp2_with fail
    go_fit (Hput2.out w5 _ hlg4)
    rintro e w6 ⟨rfl, hyes, _⟩
    obtain ⟨v6, hlg6, haw6, hu6⟩ := hyes H53.out
    rw [decide_eq_false H53.out]
    have own6 := own_aw own4 haw6 (fun k hk hf => by
      have h1 := own_blk own4 hk
      rcases hf with hf | hf
      · omega
      · exact hd4 k hf hk)
    have hd6 : ∀ k, v6.ownBlock = some k → (Value.slice A4 n4 c4).ownBlock ≠ some k := fun k hk hf => by
      rcases hu6 k hk with h1 | h1
      · exact hd4 k h1 hf
      · have := (own_blk own4 hf).2; omega
    have hsz5 := haw4.size
    have hcl : w6.heap[g]? = some (.cells #[.int .i64 (ev : Int), v6, .int .i64 ((entB ([] ++ [(⟨true, t, V⟩ : En)])).length : Int), .int .i64 (r : Int), .int .i64 (flB L b : Int)] 78) := hlg6.1
    have own7 : w6.ownsRow (g + 1) 46 14 v6 [(⟨true, t, V⟩ : En)].length ([(⟨true, t, V⟩ : En)].map enC).flatten := hlg6.2
    replace haw6 := aw_next haw4 hu4 haw6
    replace hu6 : ∀ k, v6.ownBlock = some k → v.ownBlock = some k ∨ w.heap.size ≤ k := fun k hk => by
      rcases hu6 k hk with h1 | h1
      · exact hu4 k h1
      · right; omega
    clear own4 haw4 hu4 hd4 hlg4 hlg6 hyes
    obtain ⟨S1, hS1⟩ : ∃ v, v = (entB ([] ++ [(⟨true, t, V⟩ : En)])).length := ⟨_, rfl⟩
    rw [← hS1] at hcl
    have HS1 : Hid (S1 = (entB [(⟨true, t, V⟩ : En)]).length) := Lib.hid hS1
    clear hS1
    have s1 : w6.cell? ⟨g, 3, none⟩ = some (.int .i64 (r : Int)) := blk_cell (i := 3) hcl rfl
    have s2 : w6.frozen? ⟨g, 3, none⟩ = false := blk_free (i := 3) hcl
    have hcl8 := blk_set (i := 3) hcl (.int .i64 ((r : Int) + 1))
    have haw8 : Aw (Foot g v) w (w6.setCell ⟨g, 3, none⟩ (.int .i64 ((r : Int) + 1))) := haw6.set (p := ⟨g, 3, none⟩) _ (.inl rfl)
    have hawg : Aw (fun k => k = g) w6 (w6.setCell ⟨g, 3, none⟩ (.int .i64 ((r : Int) + 1))) := (Aw.refl (fun k => k = g) w6).set (p := ⟨g, 3, none⟩) _ rfl
    have hown8 := own_aw own7 hawg (fun j hj hu => by have := (own_blk own7 hj).1; omega)
    have own9 := own_aw own6 hawg (fun j hj hu => by have := (own_blk own6 hj).1; omega)
    clear hawg own7 own6 haw6 hcl
    go_wp2
    go_ret
    refine ⟨A4, c4, n4, v6, rfl, own9, ⟨?_, hown8⟩, haw8, hu6, hd6⟩
    rw [← HS1.out, show ((r + 1 : Nat) : Int) = (r : Int) + 1 by omega]
    exact hcl8
  · have hFf : ¬ adF ev L r t V = true := by rw [HF.out, decide_eq_false hF]; simp
    have eL : aL = L ++ [adX ev L r t V] := by rw [HL1.out, if_neg hFf]
    have eB : aB = b := by rw [HB1.out, if_neg hFf]
    have eO : aO = [] := by rw [HO1.out, if_neg hFf]
    subst eL; subst eB; subst eO
    rw [decide_eq_false hF]
    obtain ⟨v6, hlg6, haw6, hu6⟩ := hyes hF
    have hcl : w3.heap[g]? = some (.cells #[.int .i64 (ev : Int), v6, .int .i64 ((entB (L ++ [adX ev L r t V])).length : Int), .int .i64 (r : Int), .int .i64 (aB : Int)] 78) := hlg6.1
    have own7 := hlg6.2
    replace haw6 : Aw (Foot g v) w w3 := (Aw.of_below' xb).trans haw6
    replace hu6 : ∀ k, v6.ownBlock = some k → v.ownBlock = some k ∨ w.heap.size ≤ k := fun k hk => by
      rcases hu6 k hk with h1 | h1
      · exact .inl h1
      · right; have := xb.size; omega
    clear hlg6 hyes hno hlg x0 xb
    obtain ⟨S1, hS1⟩ : ∃ v, v = (entB (L ++ [adX ev L r t V])).length := ⟨_, rfl⟩
    rw [← hS1] at hcl
    have HS1 := Lib.hid hS1
    clear hS1
    have s1 : w3.cell? ⟨g, 3, none⟩ = some (.int .i64 (r : Int)) := blk_cell (i := 3) hcl rfl
    have s2 : w3.frozen? ⟨g, 3, none⟩ = false := blk_free (i := 3) hcl
    have hcl8 := blk_set (i := 3) hcl (.int .i64 ((r : Int) + 1))
    have haw8 : Aw (Foot g v) w (w3.setCell ⟨g, 3, none⟩ (.int .i64 ((r : Int) + 1))) := haw6.set (p := ⟨g, 3, none⟩) _ (.inl rfl)
    have hawg : Aw (fun k => k = g) w3 (w3.setCell ⟨g, 3, none⟩ (.int .i64 ((r : Int) + 1))) := (Aw.refl (fun k => k = g) w3).set (p := ⟨g, 3, none⟩) _ rfl
    have hown8 := own_aw own7 hawg (fun j hj hu => by have := (own_blk own7 hj).1; omega)
    clear hawg own7 haw6 hcl
    go_wp2
    go_ret
    refine ⟨none, 0, 0, v6, rfl, World.ownsRow_nil _ _ _ _, ⟨?_, hown8⟩, haw8, hu6, fun k _ h2 => by cases h2⟩
    rw [← HS1.out, show ((r + 1 : Nat) : Int) = (r : Int) + 1 by omega]
    exact hcl8

end Go.Proofs.Ytplgcfjcdjlnbaa

/-
  flog.Write walked (printed by gen_flog3.py).
-/
set_option linter.unusedSimpArgs false
set_option linter.unusedVariables false
namespace Go.Proofs.Ytplgcfjcdjlnbaa
open Go.RowKit NumLaw CrcLaw
attribute [local go_sem] Addr.add_mid

def rcR (p : Nat × List Int) : List Value := rcC p.1 p.2
/-- Records that a slice reads. -/
def RdC (w : World) (B : Nat) (A : Option Addr) (n c : Nat) (R : List (Nat × List Int)) : Prop := RdR w B 13 A n c (R.map rcR)
theorem RdC.len {w : World} {B : Nat} {A : Option Addr} {n c : Nat} {R : List (Nat × List Int)} (h : RdC w B A n c R) : R.length = n := by have := h.1; rwa [List.length_map] at this
theorem RdC.at_ {w : World} {B : Nat} {A : Option Addr} {n c : Nat} {R : List (Nat × List Int)} (h : RdC w B A n c R) {k : Nat} (hk : k < n) : ∃ g off p, A = some ⟨g, off, none⟩ ∧ g < B ∧ R[k]? = some p ∧ w.rangeAt g (off + k * 13) (rcR p) := by
  obtain ⟨g, off, r, h1, h2, h3, h4, h5⟩ := RdR.at_ h hk
  rw [List.getElem?_map] at h3
  cases hx : R[k]? with
  | none => rw [hx] at h3; cases h3
  | some x =>
    rw [hx] at h3
    injection h3 with h3
    subst h3
    exact ⟨g, off, x, h1, h2, rfl, h5⟩
theorem flogWrite_no (ev : Int) (A : Option Addr) (n c : Nat) (w : World) (h : ev < 1 ∨ 255 < ev) : Calls Try.prog 44 #[.int .i64 ev, .slice A n c] w fun e w' => e = .returned (.tuple #[.slice none 0 0, .int .i64 1]) ∧ w = w' := by
  go_enter Try.func44, Try.ntmps44
  go_wp2_with fail
  go_fit (flogNew_no ev w h)
  rintro e w1 ⟨rfl, rfl⟩
  go_wp2
  go_ret2
  exact ⟨rfl, rfl⟩
set_option maxRecDepth 10000 in
set_option maxHeartbeats 8000000 in
theorem flogWrite_any (ev : Nat) (A : Option Addr) (n c B : Nat) (R : List (Nat × List Int)) (w : World) (h1 : 1 ≤ ev) (h2 : ev ≤ 255) (h : RdC w B A n c R) (hB : B ≤ w.heap.size) (hq : ∀ p ∈ R, RcQ p) (hn : n ≤ 10000) :
    Calls Try.prog 44 #[.int .i64 (ev : Int), .slice A n c] w (RetBk w (wrO ev R) 0) := by
  have hll := h.len
  have hle := h.2.2.1
  have hmx := h.2.2.2.1
  unfold maxLen at hmx
  obtain ⟨i0, hi⟩ := info_parts u8_info
  have Hi := Lib.hid hi
  have Hll := Lib.hid hll
  have HQ := Lib.hid hq
  have Hok := Lib.hid (fun k hk => stW_ok (ev := ev) hq k (by rw [hll]; exact hk) (by omega))
  have HW : Hid (wrO ev R = (stW ev R n).2.2 ++ flO (stW ev R n).1 (stW ev R n).2.1) := Lib.hid (by unfold wrO; rw [hll])
  clear hll hi hq
  go_enter Try.func44, Try.ntmps44
  go_wp2_with fail
  go_fit (flogNew_any ev w h1 h2)
  rintro e w1 ⟨rfl, hlg, hb⟩
  obtain ⟨g, hg⟩ : ∃ v, v = w.heap.size := ⟨_, rfl⟩
  rw [← hg] at hlg ⊢
  have Hg := Lib.hid hg
  clear hg
  go_wp2_with fail
  go_loopw [7, 16] (fun s i wr => ∃ (k m : Nat) (A2 : Option Addr) (c2 : Nat) (v : Value), k ≤ n ∧ i = .int .i64 k ∧ s = .slice A2 m c2 ∧ Lgr wr g ev v (stW ev R k).1 k (stW ev R k).2.1 ∧ wr.ownsRow (g + 1) 5 1 (.slice A2 m c2) m (bv (stW ev R k).2.2) ∧ (∀ j, v.ownBlock = some j → (Value.slice A2 m c2).ownBlock ≠ some j) ∧ Below w.heap.size w wr) (fun _ i _ => n - (intOf i).toNat)
  case atStart => exact ⟨0, 0, none, 0, _, by omega, rfl, rfl, hlg, World.ownsRow_nil _ _ _ _, fun j _ h => (by cases h), hb⟩
  case round =>
    clear hlg hb w1
    obtain ⟨k, m, A2, c2, v, hk, rfl, rfl, hlg, hown, hd, hb⟩ := hrel
    obtain ⟨k1, k2, k3⟩ := Hok.out k hk
    have hml := own_len hown
    rw [k3] at hml
    by_cases hlt : k < n
    · have hlt' : (k : Int) < (n : Int) := by omega
      obtain ⟨gL, off, p, hA, hgB, hx, hr⟩ := h.at_ hlt
      subst hA
      obtain ⟨q1, q2, q3⟩ := HQ.out p (List.mem_of_getElem? hx)
      have Hst := Lib.hid (stW_at (ev := ev) hx)
      have Hadd := Lib.hid (fun w1 v1 (h1' : Lgr w1 g ev v1 (stW ev R k).1 k (stW ev R k).2.1) => fadd_any g ev v1 (stW ev R k).1 k (stW ev R k).2.1 p.1 p.2 w1 h1' k1 h1 h2 (by omega) (by omega) q1 q2 q3)
      have hal := adO_len (ev := ev) (L := (stW ev R k).1) (r := k) (b := (stW ev R k).2.1) (t := p.1) (V := p.2) k1 (by omega) q2
      have hbl : adB ev (stW ev R k).1 k (stW ev R k).2.1 p.1 p.2 ≤ k + 1 := by unfold adB; split <;> omega
      have hr1 : wr.rangeAt gL (off + k * 13) (rcC p.1 p.2) := fun j u hu => (hb.cell (p := ⟨gL, off + k * 13 + j, none⟩) (show gL < w.heap.size by omega)).trans (hr j u hu)
      have HpV := Lib.hid q2
      have Hr1 := Lib.hid hr1
      have S1 : Hid ((stW ev R (k + 1)).1 = adL ev (stW ev R k).1 k p.1 p.2) := Lib.hid (by rw [Hst.out]; rfl)
      have S2 : Hid ((stW ev R (k + 1)).2.1 = adB ev (stW ev R k).1 k (stW ev R k).2.1 p.1 p.2) := Lib.hid (by rw [Hst.out]; rfl)
      have S3 : Hid ((stW ev R (k + 1)).2.2 = (stW ev R k).2.2 ++ adO ev (stW ev R k).1 k (stW ev R k).2.1 p.1 p.2) := Lib.hid (by rw [Hst.out]; rfl)
      generalize adL ev (stW ev R k).1 k p.1 p.2 = aL at *
      generalize adB ev (stW ev R k).1 k (stW ev R k).2.1 p.1 p.2 = aB at *
      generalize adO ev (stW ev R k).1 k (stW ev R k).2.1 p.1 p.2 = aO at *
      generalize (stW ev R k).1 = L0 at *
      generalize (stW ev R k).2.1 = b0 at *
      generalize (stW ev R k).2.2 = o0 at *
      clear hx hr hr1 q1 q2 q3 k1 k3 Hst
      go_wp2_with (first | (with_reducible refine stop_loadT 25 ?_) | (with_reducible refine stop_storeT 25 ?_) | (with_reducible refine stop_loadG 25 ?_))
      refine go_ (wpList_load_mid rfl _ _ rfl gL (off + k * 13) rfl _ _ Hr1.out Try.underlying25 rfl (by rw [rcC_size p.1 p.2 HpV.out]; kernel_rfl) ?_)
      go_wp2_with (first | (with_reducible refine stop_loadT 25 ?_) | (with_reducible refine stop_storeT 25 ?_) | (with_reducible refine stop_loadG 25 ?_))
      have hbx : Below wr.heap.size wr (wr.alloc (.cells #[.int .u32 0, .int .i32 0, .int .i32 0, .int .i32 0, .int .i32 0, .int .i32 0, .int .i32 0, .int .i32 0, .int .i32 0, .int .i32 0, .int .i32 0, .int .i32 0, .int .i32 0] 25)) := (Below.refl _ _).alloc (Nat.le_refl _) _
      have r6 := heap_alloc_new wr (.cells #[.int .u32 0, .int .i32 0, .int .i32 0, .int .i32 0, .int .i32 0, .int .i32 0, .int .i32 0, .int .i32 0, .int .i32 0, .int .i32 0, .int .i32 0, .int .i32 0, .int .i32 0] 25)
      have hne : ∀ j, Foot g v j → j ≠ wr.heap.size := fun j hj => by have := (hlg.foot hj).2; omega
      have hne2 : ∀ j, (Value.slice A2 m c2).ownBlock = some j → j ≠ wr.heap.size := fun j hj => by have := (own_blk hown hj).2; omega
      have hg6 : w.heap.size ≤ wr.heap.size := hb.size
      replace hlg := hlg.up hbx
      replace hown := own_up hown hbx (Nat.le_refl _)
      replace hb := bnx hb hbx
      generalize (wr.alloc (.cells #[.int .u32 0, .int .i32 0, .int .i32 0, .int .i32 0, .int .i32 0, .int .i32 0, .int .i32 0, .int .i32 0, .int .i32 0, .int .i32 0, .int .i32 0, .int .i32 0, .int .i32 0] 25)) = wa at *
      generalize wr.heap.size = g6 at *
      replace r6 : RcB wa g6 0 z12 := r6
      clear hbx Hr1
      refine go_ (wpList_store_row rfl _ _ _ rfl g6 (rcC p.1 p.2).toArray rfl rfl _ _ r6 (by rw [List.size_toArray, rcC_size p.1 p.2 HpV.out]; kernel_rfl) (by rw [List.size_toArray, List.size_toArray, rcC_size p.1 p.2 HpV.out]; rfl) (all_oneCell_toArray (rcC_one p.1 p.2)) ?_)
      obtain ⟨x6, hAz⟩ := rc_store p.1 p.2 HpV.out wa g6 r6
      replace hlg := hlg.keep hAz (fun j hj => hne j hj)
      replace hown := own_aw hown hAz (fun j hj => hne2 j hj)
      replace hb := below_awG hb hAz (fun j hj => by omega) hb.size
      generalize (wa.setRow g6 (rcC p.1 p.2).toArray) = wb at *
      clear hAz r6 hne hne2
      go_wp2_with (first | (with_reducible refine stop_loadT 25 ?_) | (with_reducible refine stop_storeT 25 ?_) | (with_reducible refine stop_loadG 25 ?_))
      refine go_ (wpList_load_mid rfl _ _ rfl g6 0 rfl _ _ x6.all Try.underlying25 rfl (by rw [rcC_size p.1 p.2 HpV.out]; kernel_rfl) ?_)
      clear x6
      go_wp2_with fail
      go_fit (Hadd.out wb v hlg)
      rintro e wc ⟨A4, c4, n4, v4, rfl, own4, hlg4, haw4, hu4, hd4⟩
      have hl4 := own_len own4
      have hr4 := Rd.own own4
      have hown4 := own_aw hown haw4 (fun j hj hf => by
        rcases hf with hf | hf
        · have := (own_blk hown hj).1; omega
        · exact hd j hf hj)
      have hb4 := below_awG hb haw4 (fun j hj => by have := (hlg.foot hj).1; have := Hg.out; omega) hb.size
      have hdd : ∀ j, v4.ownBlock = some j → (Value.slice A2 m c2).ownBlock ≠ some j := fun j hj hf => by
        rcases hu4 j hj with h3 | h3
        · exact hd j h3 hf
        · have := (own_blk hown hf).2; omega
      clear hlg hown hb hd own4 haw4 hu4 hd4
      go_wp2_with (at_builtin; refine stop_ ?_)
      refine go_ (wpList_appG (base := g + 1) (n := m) Try.underlying26 Hi.out rfl (by omega) hown4 rfl hr4 rfl (bv_one _) (k := m + n4) (ys := bv (o0 ++ aO)) rfl (bv_app _ _).symm (by unfold maxLen; omega) (by omega) (by have := hlg4.lt; omega) ?_)
      intro A5 c5 wd own5 hgr hob
      have hlg5 := hlg4.keep (Aw.of_grown hgr) (fun j hj hf => by
        rcases hj with hj | hj
        · have := (own_blk hown4 hf).1; omega
        · exact hdd j hj hf)
      have hb5 := Below.grown hb4 hgr hb4.size (fun j hj => by have := (own_blk hown4 hj).1; have := Hg.out; omega)
      have hd5 : ∀ j, v4.ownBlock = some j → (Value.slice A5 (m + n4) c5).ownBlock ≠ some j := fun j hj hf => by
        rcases hob with h3 | h3
        · exact hdd j hj (h3.symm.trans hf)
        · have h4 := h3.symm.trans hf
          injection h4 with h4
          have := (own_blk hlg4.2 hj).2
          omega
      clear hgr hob hown4 hb4 hdd hlg4 hr4
      go_wp2
      go_roundw
      case rel => exact ⟨k + 1, m + n4, A5, c5, v4, by omega, by go_num, rfl, by rw [S1.out, S2.out]; exact hlg5, by rw [S3.out]; exact own5, hd5, hb5⟩
      case measure => simp [intOf]; omega
    · obtain rfl : k = n := by omega
      have Hfl := Lib.hid (fun w1 v1 (h1' : Lgr w1 g ev v1 (stW ev R k).1 k (stW ev R k).2.1) => fflush_any g ev v1 (stW ev R k).1 k (stW ev R k).2.1 w1 h1' k1 h1 (by omega))
      have hfl := flO_len k1 (b := (stW ev R k).2.1) (by omega)
      have hfb : flB (stW ev R k).1 (stW ev R k).2.1 ≤ k + 1 := by unfold flB; split <;> omega
      generalize flB (stW ev R k).1 (stW ev R k).2.1 = fB at *
      generalize flO (stW ev R k).1 (stW ev R k).2.1 = fO at *
      generalize (stW ev R k).1 = L0 at *
      generalize (stW ev R k).2.1 = b0 at *
      generalize (stW ev R k).2.2 = o0 at *
      clear k1 k3
      go_wp2_with fail
      go_fit (Hfl.out wr v hlg)
      rintro e wc ⟨A4, c4, n4, v4, rfl, own4, hlg4, haw4, hu4, hd4⟩
      have hl4 := own_len own4
      have hr4 := Rd.own own4
      have hown4 := own_aw hown haw4 (fun j hj hf => by
        rcases hf with hf | hf
        · have := (own_blk hown hj).1; omega
        · exact hd j hf hj)
      have hb4 := below_awG hb haw4 (fun j hj => by have := (hlg.foot hj).1; have := Hg.out; omega) hb.size
      clear hlg hown hb hd own4 haw4 hu4 hd4
      go_wp2_with (at_builtin; refine stop_ ?_)
      refine go_ (wpList_appG (base := g + 1) (n := m) Try.underlying26 Hi.out rfl (by omega) hown4 rfl hr4 rfl (bv_one _) (k := m + n4) (ys := bv (o0 ++ fO)) rfl (bv_app _ _).symm (by unfold maxLen; omega) (by omega) (by have := hlg4.lt; omega) ?_)
      intro A5 c5 wd own5 hgr hob
      have hb5 := Below.grown hb4 hgr hb4.size (fun j hj => by have := (own_blk hown4 hj).1; have := Hg.out; omega)
      clear hgr hob hown4 hb4 hlg4 hr4
      go_wp2
      go_ret2
      exact ⟨A5, c5, m + n4, rfl, by rw [HW.out]; exact own_mono own5 (by have := Hg.out; omega), hb5⟩

end Go.Proofs.Ytplgcfjcdjlnbaa
