/-
  The document's Flush and Add of layer 36 walked (printed by gen_flog4.py).
-/
import Derived.Test.YtplgcfjcdjlnbaaKGS
import Derived.Test.YtplgcfjcdjlnbaaKGQ
import Derived.Test.YtplgcfjcdjlnbaaKBlk6
set_option linter.unusedSimpArgs false
set_option linter.unusedVariables false
namespace Go.Proofs.Ytplgcfjcdjlnbaa
open Go.RowKit NumLaw CrcLaw
attribute [local go_sem] Addr.add_mid

theorem ownb_any {A : Option Addr} {n c n' c' j : Nat} (h : (Value.slice A n c).ownBlock = some j) : (Value.slice A n' c').ownBlock = some j := by
  cases A with
  | none => cases h
  | some a => exact h
/-- The document's log as a value. -/
def qlC (ev : Nat) (A : Option Addr) (n c r b : Nat) : Array Value := #[.int .i64 (ev : Int), .slice A n c, .int .i64 (r : Int), .int .i64 (b : Int)]
def RetQF (l : List UInt8) (ev : Nat) (L' : List En) (r' b' : Nat) (w : World) (e : Ending) (w' : World) : Prop :=
  ∃ A c A2 n2 c2, e = .returned (.tuple #[.agg (qlC ev A L'.length c r' b'), .slice A2 n2 c2]) ∧ RdE w' w'.heap.size A L'.length c L' ∧ w'.ownsRow w.heap.size 5 1 (.slice A2 n2 c2) n2 (bv l) ∧ Below w.heap.size w w' ∧ (0 < L'.length → ∀ j, (Value.slice A L'.length c).ownBlock = some j → w.heap.size ≤ j)
set_option maxRecDepth 10000 in
set_option maxHeartbeats 4000000 in
theorem qflush_any (ev : Nat) (A : Option Addr) (c B : Nat) (L : List En) (r b : Nat) (w : World) (h : RdE w B A L.length c L) (hB : B ≤ w.heap.size) (hq : LogQ L) (hb : b ≤ 1000000) :
    Calls Try.prog 49 #[.agg (qlC ev A L.length c r b)] w (RetQF (flO L b) ev [] r (flB L b) w) := by
  obtain ⟨x0, x1, xs, xb⟩ := al2 w (.cells (qlC ev A L.length c r b) 66) (.cells #[.int .i64 0, .slice none 0 0, .int .i64 0, .int .i64 0] 66)
  by_cases hL : L = []
  · subst hL
    have hn0 : ((([] : List En).length : Int) == 0) = true := rfl
    go_enter Try.func49, Try.ntmps49
    go_wp2_with (with_reducible refine stop_loadT 39 ?_)
    (try rw [xs])
    generalize ((w.alloc (.cells (qlC ev A ([] : List En).length c r b) 66)).alloc (.cells #[.int .i64 0, .slice none 0 0, .int .i64 0, .int .i64 0] 66)) = w1 at *
    have c1 : w1.cell? ⟨w.heap.size, 1, none⟩ = some (.slice A ([] : List En).length c) := blk_cell (i := 1) x0 rfl
    refine go_ ?_
    go_wp2_with (first | (with_reducible refine stop_loadT 66 ?_) | (with_reducible refine stop_storeT 66 ?_))
    refine go_ (wpList_load_row rfl _ _ rfl w.heap.size rfl _ _ _ _ x0 Try.underlying66 rfl (by kernel_rfl) ?_)
    go_wp2_with (first | (with_reducible refine stop_loadT 66 ?_) | (with_reducible refine stop_storeT 66 ?_))
    refine go_ (wpList_store_row rfl _ _ _ rfl (w.heap.size + 1) (qlC ev A ([] : List En).length c r b) rfl rfl _ _ x1 (by kernel_rfl) rfl (by kernel_rfl) ?_)
    have hz := setRow_heap _ _ _ (qlC ev A ([] : List En).length c r b) _ _ x1
    have hbz := below_setRow xb (by omega) (qlC ev A ([] : List En).length c r b) (g := w.heap.size + 1)
    generalize (w1.setRow (w.heap.size + 1) (qlC ev A ([] : List En).length c r b)) = w5 at *
    go_wp2
    exact bodyPost_ret (results_cell2 (fn := Try.f49) Try.results49 _ _ (w.heap.size + 1) _ _ _ _ rfl hz Try.underlying66 rfl (by kernel_rfl)) rfl ⟨A, c, none, 0, 0, rfl, (RdR.up h (hbz.mono hB)).more (Nat.le_trans hB hbz.size), World.ownsRow_nil _ _ _ _, hbz, fun h => absurd h (Nat.lt_irrefl _)⟩
  have hpos : 0 < L.length := List.length_pos_iff.2 hL
  have hn0 : ((L.length : Int) == 0) = false := by simp; omega
  have hnz : ¬ (L.length : Int) = 0 := by omega
  have hE := logQ_put hq hL
  have hLn := logQ_len hq
  have e1 : flO L b = putB b L := by unfold flO; rw [if_neg hL]
  have e2 : flB L b = b + 1 := by unfold flB; rw [if_neg hL]
  rw [e1, e2]
  have Hput := Lib.hid (fun w1 (h1 : RdE w1 B A L.length c L) (hB1 : B ≤ w1.heap.size) => qblkPut_any b A L.length c B L w1 (by omega) h1 hB1 hq.1 (by omega))
  rw [hE] at Hput
  generalize putB b L = pB at *
  have hwb : IntKind.u32.wrap (b : Int) = (b : Int) := by rw [IntKind.wrap_u32]; omega
  obtain ⟨n, hn⟩ : ∃ n, n = L.length := ⟨_, rfl⟩
  rw [← hn] at Hput hn0 hnz x0 x1 xs xb h ⊢
  clear e1 e2 hn hq hE
  go_enter Try.func49, Try.ntmps49
  go_wp2_with (with_reducible refine stop_loadT 39 ?_)
  (try rw [xs])
  generalize ((w.alloc (.cells (qlC ev A n c r b) 66)).alloc (.cells #[.int .i64 0, .slice none 0 0, .int .i64 0, .int .i64 0] 66)) = w1 at *
  have c1 : w1.cell? ⟨w.heap.size, 1, none⟩ = some (.slice A n c) := blk_cell (i := 1) x0 rfl
  have c3 : w1.cell? ⟨w.heap.size, 3, none⟩ = some (.int .i64 (b : Int)) := blk_cell (i := 3) x0 rfl
  refine go_ ?_
  go_wp2_with fail
  go_fit (Hput.out w1 (RdR.up h (xb.mono hB)) (Nat.le_trans hB xb.size))
  rintro e w3 ⟨A3, c3', n3, rfl, own3, hbx⟩
  replace x0 := blk_old x0 hbx (blk_lt x0)
  replace x1 := blk_old x1 hbx (blk_lt x1)
  have lt1 : w.heap.size + 1 < w1.heap.size := by omega
  replace own3 := own_mono own3 (base' := w.heap.size + 2) (by omega)
  replace xb := bnx xb hbx
  clear hbx c1 c3
  have s1 : w3.cell? ⟨w.heap.size, 1, none⟩ = some (.slice A n c) := blk_cell (i := 1) x0 rfl
  have s2 : w3.frozen? ⟨w.heap.size, 1, none⟩ = false := blk_free (i := 1) x0
  have hk1 := blk_set (i := 1) x0 (.slice none 0 0)
  have s3 : (w3.setCell ⟨w.heap.size, 1, none⟩ (.slice none 0 0)).cell? ⟨w.heap.size, 3, none⟩ = some (.int .i64 (b : Int)) := blk_cell (i := 3) hk1 rfl
  have s4 : (w3.setCell ⟨w.heap.size, 1, none⟩ (.slice none 0 0)).frozen? ⟨w.heap.size, 3, none⟩ = false := blk_free (i := 3) hk1
  have hk2 := blk_set (i := 3) hk1 (.int .i64 ((b : Int) + 1))
  have hawg : Aw (fun k => k = w.heap.size) w3 ((w3.setCell ⟨w.heap.size, 1, none⟩ (.slice none 0 0)).setCell ⟨w.heap.size, 3, none⟩ (.int .i64 ((b : Int) + 1))) := ((Aw.refl (fun k => k = w.heap.size) w3).set (p := ⟨w.heap.size, 1, none⟩) _ rfl).set (p := ⟨w.heap.size, 3, none⟩) _ rfl
  have own4 := own_aw own3 hawg (fun j hj hu => by have := (own_blk own3 hj).1; omega)
  have x14 := hawg.keep x1 (by omega)
  have xb4 := below_awG xb hawg (fun k hk => by omega) xb.size
  clear hawg own3 x1 xb hk1
  go_wp2_with (with_reducible refine stop_loadT 66 ?_)
  clear s1 s2 s3 s4
  generalize ((w3.setCell ⟨w.heap.size, 1, none⟩ (.slice none 0 0)).setCell ⟨w.heap.size, 3, none⟩ (.int .i64 ((b : Int) + 1))) = w4 at *
  replace hk2 : w4.heap[w.heap.size]? = some (.cells (qlC ev none 0 0 r (b + 1)) 66) := hk2
  refine go_ (wpList_load_row rfl _ _ rfl w.heap.size rfl _ _ _ _ hk2 Try.underlying66 rfl (by kernel_rfl) ?_)
  go_wp2_with (first | (with_reducible refine stop_loadT 66 ?_) | (with_reducible refine stop_storeT 66 ?_))
  refine go_ (wpList_store_row rfl _ _ _ rfl (w.heap.size + 1) (qlC ev none 0 0 r (b + 1)) rfl rfl _ _ x14 (by kernel_rfl) rfl (by kernel_rfl) ?_)
  have hz := setRow_heap _ _ _ (qlC ev none 0 0 r (b + 1)) _ _ x14
  have hbz := below_setRow xb4 (by omega) (qlC ev none 0 0 r (b + 1)) (g := w.heap.size + 1)
  have own5 := own_aw own4 (aw_setRow35 (w.heap.size + 1) (qlC ev none 0 0 r (b + 1))) (fun j hj hu => by have := (own_blk own4 hj).1; omega)
  generalize (w4.setRow (w.heap.size + 1) (qlC ev none 0 0 r (b + 1))) = w5 at *
  go_wp2
  exact bodyPost_ret (results_cell2 (fn := Try.f49) Try.results49 _ _ (w.heap.size + 1) _ _ _ _ rfl hz Try.underlying66 rfl (by kernel_rfl)) rfl ⟨none, 0, A3, n3, c3', rfl, rdE_none _ _, own_mono own5 (by omega), hbz, fun h => absurd h (Nat.lt_irrefl _)⟩
theorem rd_one35 (w : World) (X : En) (hX : X.V.length = 12) : Rd (w.alloc (.cells (enC X).toArray 46)) (w.heap.size + 1) 14 (some ⟨w.heap.size, 0, none⟩) 1 1 (enC X) := by
  have := (RdR.lit (size := 14) (e := 46) w [enC X] (enC X).toArray (by simp) (by intro r hr; rw [List.mem_singleton.1 hr]; exact enC_len X hX) (by simp [maxLen]) 1 rfl).rd (by omega)
  simpa using this
theorem RdR.rd_up35 {w w' : World} {gc : Nat} {xs : List Value} (h : Rd w (gc + 1) 14 (some ⟨gc, 0, none⟩) 1 1 xs) (hb : Below w.heap.size w w') (hg : gc < w.heap.size) : Rd w' (gc + 1) 14 (some ⟨gc, 0, none⟩) 1 1 xs := h.up (hb.mono (by omega))
theorem rd_grown35 {w w' : World} {gc : Nat} {xs : List Value} {row : Option Nat} (h : Rd w (gc + 1) 14 (some ⟨gc, 0, none⟩) 1 1 xs) (hg : w.grownBy w' row) (hlt : gc < w.heap.size) (hne : row = some gc → False) : Rd w' (gc + 1) 14 (some ⟨gc, 0, none⟩) 1 1 xs :=
  ⟨h.len, h.le, h.max, fun hn => by
    obtain ⟨ad, e, hb, hc⟩ := h.at_ hn
    injection e with e
    subst e
    refine ⟨_, rfl, hb, fun j u hu => ?_⟩
    rw [← hc j u hu]
    unfold World.cell?
    rw [show ((⟨gc, 0, none⟩ : Addr).add j).block = gc by rw [blk_add], hg.block gc hlt (fun e => hne e.symm)]⟩
theorem stop_build2q {P : Program} {w : World} {ops : Array Oper} {rest : List Oper} {a : Act} {Q : Exit → Act → World → Prop} {d : Option Tmp} {t ty : TypeId} {x y : Operand} {pos : String} {af : Array Edge}
    (h : Stop (wpList P ops Q (⟨d, .build t #[(0, x), (1, y)], ty, pos, af, none⟩ :: rest) a w)) : wpList P ops Q (⟨d, .build t #[(0, x), (1, y)], ty, pos, af, none⟩ :: rest) a w := h
theorem wpList_buildEnQ {w : World} {ops : Array Oper} {rest : List Oper} {a : Act} {Q : Exit → Act → World → Prop} {d : Option Tmp} {x y : Operand} {ty : TypeId} {pos : String} {af : Array Edge}
    {k : Bool} {t : Nat} {V : List Int} (hV : V.length = 12) (hx : a.eval x = .bool k) (hy : a.eval y = .agg (rcC t V).toArray)
    (h : wpList Try.prog ops Q rest (a.put d (.agg (enC ⟨k, t, V⟩).toArray)) w) : wpList Try.prog ops Q (⟨d, .build 46 #[(0, x), (1, y)], ty, pos, af, none⟩ :: rest) a w := by
  refine wpList_plain rfl fun _ hK => ?_
  unfold Oper.wp execOp
  simp only [List.map_toArray, List.map_cons, List.map_nil, hx, hy, Sem.run_bind, run_buildEn k t V hV w, Result.andThen_ok, Sem.run_pure]
  exact hK _ _ h
set_option maxRecDepth 10000 in
set_option maxHeartbeats 16000000 in
theorem qadd_any (ev : Nat) (A : Option Addr) (n c B : Nat) (L : List En) (r b t : Nat) (V : List Int) (w : World) (hn : L.length = n) (h : RdE w B A n c L) (hB : B ≤ w.heap.size) (hq : LogQ L) (hev : 1 ≤ ev) (hev2 : ev ≤ 255) (hr : r ≤ 1000000) (hb : b ≤ 1000000) (ht : t < 4294967296) (hV : V.length = 12) (h32 : ∀ z ∈ V, in32 z) :
    Calls Try.prog 51 #[.agg (qlC ev A n c r b), .agg (rcC t V).toArray] w (RetQF (adO ev L r b t V) ev (adL ev L r t V) (r + 1) (adB ev L r b t V) w) := by
  obtain ⟨i1, hi1⟩ := info_parts en_info
  have Hi1 := Lib.hid hi1
  have HV := Lib.hid hV
  have hLn := logQ_len hq
  have hn82 : n ≤ 82 := by omega
  have hmx := h.2.2.2.1
  have hle := h.2.2.1
  unfold maxLen at hmx
  obtain ⟨X, hX⟩ : ∃ v, v = adX ev L r t V := ⟨_, rfl⟩
  have HX : Hid (X.V.length = 12) := Lib.hid (by rw [hX]; exact hV)
  have HqX : Hid (∀ x ∈ L ++ [X], EnQ x) := Lib.hid (fun x hx => by
    rcases List.mem_append.1 hx with hx | hx
    · exact hq.1 x hx
    · rw [List.mem_singleton.1 hx, hX]; exact adX_q ht hV h32)
  have HrA : Hid (∀ y ∈ (L ++ [X]).map enC, y.length = 14) := Lib.hid (fun y hy => by obtain ⟨x, hx, rfl⟩ := List.mem_map.1 hy; exact enC_len x (HqX.out x hx).2.1)
  have HeL : Hid (∀ u ∈ (L.map enC).flatten, u.oneCell' = true) := Lib.hid (fun u hu => by
    obtain ⟨y, hy, hu⟩ := List.mem_flatten.1 hu
    obtain ⟨x, _, rfl⟩ := List.mem_map.1 hy
    exact enC_one x u hu)
  have Hn := Lib.hid hn
  have Hh := Lib.hid h
  have hfl := fun w1 (h1 : RdE w1 B A L.length c L) (hB1 : B ≤ w1.heap.size) => qflush_any ev A c B L r b w1 h1 hB1 hq hb
  rw [hn] at hfl
  have Hfl := Lib.hid hfl
  have HF : adF ev L r t V = decide (248 < (entB (L ++ [X])).length) := by rw [hX]; rfl
  have HRoom : Hid (¬ 248 < (entB (L ++ [X])).length → adL ev L r t V = L ++ [X] ∧ adB ev L r b t V = b ∧ adO ev L r b t V = []) := Lib.hid (fun hF => by
    have hFf : ¬ adF ev L r t V = true := by rw [HF, decide_eq_false hF]; simp
    refine ⟨?_, ?_, ?_⟩
    · unfold adL; rw [if_neg hFf, hX]
    · unfold adB; rw [if_neg hFf]
    · unfold adO; rw [if_neg hFf])
  have HFull : Hid (248 < (entB (L ++ [X])).length → adL ev L r t V = [⟨true, t, V⟩] ∧ adB ev L r b t V = flB L b ∧ adO ev L r b t V = flO L b) := Lib.hid (fun hF => by
    have hFf : adF ev L r t V = true := by rw [HF, decide_eq_true hF]
    have hLn := adF_ne hV hFf
    refine ⟨?_, ?_, ?_⟩
    · unfold adL; rw [if_pos hFf]
    · unfold adB flB; rw [if_pos hFf, if_neg hLn]
    · unfold adO flO; rw [if_pos hFf, if_neg hLn])
  generalize adO ev L r b t V = aO at *
  generalize adB ev L r b t V = aB at *
  generalize adL ev L r t V = aL at *
  obtain ⟨x0, x1, x2, xs, xb⟩ := al3 w (.cells (qlC ev A n c r b) 66) (.cells (rcC t V).toArray 25) (.cells #[.int .i64 0, .slice none 0 0, .int .i64 0, .int .i64 0] 66)
  clear hi1 hV h32 hq ht HF hfl
  by_cases hL : L = []
  · have h0 : n = 0 := by rw [← hn, hL]; rfl
    subst h0
    have hx : X = ⟨true, t, V⟩ := by rw [hX, hL]; rfl
    have Hx := Lib.hid hx
    clear hX hn hL hx
    go_enter Try.func51, Try.ntmps51
    go_wp2_with fail
    (try rw [show w.heap.size + 1 + 1 = w.heap.size + 2 by omega])
    generalize (((w.alloc (.cells (qlC ev A 0 c r b) 66)).alloc (.cells (rcC t V).toArray 25)).alloc (.cells #[.int .i64 0, .slice none 0 0, .int .i64 0, .int .i64 0] 66)) = w1 at *
    replace x1 : RcB w1 (w.heap.size + 1) t V := x1
    refine Ord.region_ (fun w' => w'.heap[w.heap.size]? = some (.cells (qlC ev A 0 c r b) 66) ∧ RcB w' (w.heap.size + 1) t V) false [] (by kernel_rfl) (by kernel_rfl) ⟨x0, x1⟩ ?_
    have hS : w1.drew.heap[w.heap.size]? = some (.cells (qlC ev A 0 c r b) 66) ∧ RcB w1.drew (w.heap.size + 1) t V := ⟨x0, x1⟩
    replace x2 : w1.drew.heap[w.heap.size + 2]? = _ := x2
    replace xb := xb.drew
    have hsz2 : w.heap.size + 3 ≤ w1.drew.heap.size := Nat.le_of_eq xs.symm
    generalize w1.drew = w2 at *
    clear x0 x1 xs
    ((with_reducible refine Ord.e_p (v := ?_) ?_ ?_ ?_ ?_); rotate_left; (· exact rfl); (· kernel_rfl); (· intro w2; go_simp; try with_reducible rfl))
    (try simp only [Act.put, List.setIfInBounds_toArray, List.set_cons_zero, List.set_cons_succ])
    refine Ord.e_loadS Try.underlying39 rfl (fun w' hS => blk_cell (i := 1) (v := .slice A 0 c) (show _ ∧ RcB w' (w.heap.size + 1) t V from hS).1 rfl) hS rfl (by kernel_rfl) ?_
    (try simp only [Act.put, List.setIfInBounds_toArray, List.set_cons_zero, List.set_cons_succ])
    ((with_reducible refine Ord.e_p (v := ?_) ?_ ?_ ?_ ?_); rotate_left; (· exact rfl); (· kernel_rfl); (· intro w2; go_simp; try with_reducible rfl))
    (try simp only [Act.put, List.setIfInBounds_toArray, List.set_cons_zero, List.set_cons_succ])
    ((with_reducible refine Ord.e_p (v := ?_) ?_ ?_ ?_ ?_); rotate_left; (· exact rfl); (· kernel_rfl); (· intro w2; go_simp; try with_reducible rfl))
    (try simp only [Act.put, List.setIfInBounds_toArray, List.set_cons_zero, List.set_cons_succ])
    ((with_reducible refine Ord.e_p (v := ?_) ?_ ?_ ?_ ?_); rotate_left; (· exact rfl); (· kernel_rfl); (· intro w2; go_simp; try with_reducible rfl))
    (try simp only [Act.put, List.setIfInBounds_toArray, List.set_cons_zero, List.set_cons_succ])
    ((with_reducible refine Ord.e_u ?_ ?_); (· kernel_rfl))
    (try simp only [Act.put, List.setIfInBounds_toArray, List.set_cons_zero, List.set_cons_succ])
    ((with_reducible refine Ord.e_u ?_ ?_); (· kernel_rfl))
    (try simp only [Act.put, List.setIfInBounds_toArray, List.set_cons_zero, List.set_cons_succ])
    ((with_reducible refine Ord.e_u ?_ ?_); (· kernel_rfl))
    (try simp only [Act.put, List.setIfInBounds_toArray, List.set_cons_zero, List.set_cons_succ])
    ((with_reducible refine Ord.e_u ?_ ?_); (· kernel_rfl))
    (try simp only [Act.put, List.setIfInBounds_toArray, List.set_cons_zero, List.set_cons_succ])
    ((with_reducible refine Ord.e_u ?_ ?_); (· kernel_rfl))
    (try simp only [Act.put, List.setIfInBounds_toArray, List.set_cons_zero, List.set_cons_succ])
    ((with_reducible refine Ord.e_u ?_ ?_); (· kernel_rfl))
    (try simp only [Act.put, List.setIfInBounds_toArray, List.set_cons_zero, List.set_cons_succ])
    ((with_reducible refine Ord.e_p (v := ?_) ?_ ?_ ?_ ?_); rotate_left; (· exact rfl); (· kernel_rfl); (· intro w2; go_simp; try with_reducible rfl))
    (try simp only [Act.put, List.setIfInBounds_toArray, List.set_cons_zero, List.set_cons_succ])
    refine Ord.e_rowS (b := w.heap.size + 1) (o := 0) Try.underlying25 rfl (by rw [rcC_size t V HV.out]; kernel_rfl) rfl (by unfold rcC; simp) (fun w' hS => (show _ ∧ RcB w' (w.heap.size + 1) t V from hS).2.all) hS (by kernel_rfl) ?_
    (try simp only [Act.put, List.setIfInBounds_toArray, List.set_cons_zero, List.set_cons_succ])
    refine Ord.e_p (v := .agg (enC ⟨true, t, V⟩).toArray) rfl (by kernel_rfl) (fun w2 => exec_buildEn (k := true) HV.out rfl rfl w2) ?_
    (try simp only [Act.put, List.setIfInBounds_toArray, List.set_cons_zero, List.set_cons_succ])
    refine Ord.e_x rfl (by kernel_rfl) ?_
    go_wp2_with fail
    have hbx : Below w2.heap.size w2 (w2.alloc (.cells #[.bool false, .int .u32 0, .int .i32 0, .int .i32 0, .int .i32 0, .int .i32 0, .int .i32 0, .int .i32 0, .int .i32 0, .int .i32 0, .int .i32 0, .int .i32 0, .int .i32 0, .int .i32 0] 46)) := (Below.refl _ _).alloc (Nat.le_refl _) _
    have x6 := heap_alloc_new w2 (.cells #[.bool false, .int .u32 0, .int .i32 0, .int .i32 0, .int .i32 0, .int .i32 0, .int .i32 0, .int .i32 0, .int .i32 0, .int .i32 0, .int .i32 0, .int .i32 0, .int .i32 0, .int .i32 0] 46)
    have hlt6 : w.heap.size + 2 < w2.heap.size := by omega
    replace x2 := blk_old x2 hbx hlt6
    replace hS := And.intro (blk_old hS.1 hbx (blk_lt hS.1)) (show RcB _ (w.heap.size + 1) t V from blk_old hS.2 hbx (blk_lt hS.2))
    replace xb := bnx xb hbx
    refine Ord.Seg.go hS (fun h => by cases h) ?_
    (try simp only [Act.put, List.setIfInBounds_toArray, List.set_cons_zero, List.set_cons_succ])
    generalize (w2.alloc (.cells #[.bool false, .int .u32 0, .int .i32 0, .int .i32 0, .int .i32 0, .int .i32 0, .int .i32 0, .int .i32 0, .int .i32 0, .int .i32 0, .int .i32 0, .int .i32 0, .int .i32 0, .int .i32 0] 46)) = w3 at *
    generalize w2.heap.size = g6 at *
    replace x6 : EnB w3 g6 zen := x6
    clear hbx
    refine Ord.e_x rfl (by kernel_rfl) ?_
    refine wpList_store_row rfl _ _ _ rfl g6 (enC ⟨true, t, V⟩).toArray rfl rfl _ _ x6 (by rw [List.size_toArray, enC_len _ HV.out]; kernel_rfl) (by rw [List.size_toArray, List.size_toArray, enC_len (⟨true, t, V⟩ : En) HV.out]; rfl) (all_oneCell_toArray (enC_one _)) ?_
    obtain ⟨y6, hAz⟩ := en_store ⟨true, t, V⟩ HV.out w3 g6 x6
    have x2z := hAz.keep x2 (by omega)
    have hSz := And.intro (hAz.keep hS.1 (by omega)) (show RcB _ (w.heap.size + 1) t V from hAz.keep hS.2 (by omega))
    have xbz := below_awG xb hAz (fun k hk => by omega) xb.size
    generalize (w3.setRow g6 (enC ⟨true, t, V⟩).toArray) = w4 at *
    clear hAz x6 x2 hS xb
    go_wp2_with fail
    refine Ord.Seg.go hSz (fun h => by cases h) ?_
    (try simp only [Act.put, List.setIfInBounds_toArray, List.set_cons_zero, List.set_cons_succ])
    refine Ord.e_nil ?_
    rw [← Hx.out] at y6
    have hlr4 : w.heap.size + 2 < w4.heap.size := blk_lt x2z
    have k1 : w4.cell? ⟨w.heap.size, 1, none⟩ = some (.slice A 0 c) := blk_cell (i := 1) hSz.1 rfl
    have hlt0 : w.heap.size < w4.heap.size := blk_lt hSz.1
    have HhL : Hid (∀ w', Below w4.heap.size w4 w' → RdE w' B A 0 c L) := Lib.hid (fun w' hb' => RdR.up h ((bnx xbz hb').mono hB))
    clear h
    go_wp2_with fail
    refine Ord.region_m [0, 3, 5, 6] [[0, 1, 2, 3, 4, 5, 6, 7], [0, 1, 2, 4, 5, 3, 6, 7], [4, 5, 0, 1, 2, 3, 6, 7]] (fun w' => Below w4.heap.size w4 w') false [] (by kernel_rfl) (by kernel_rfl) ((Below.refl _ _).drew) ?_
    have hT : Below w4.heap.size w4 w4.drew := (Below.refl _ _).drew
    generalize w4.drew = v0 at *
    intro LL hLL
    simp only [List.mem_cons, List.not_mem_nil, or_false] at hLL
    rcases hLL with rfl | rfl | rfl
    · simp only [Ord.lst, List.filterMap_cons, List.filterMap_nil, List.getElem?_toArray, List.getElem?_cons_succ, List.getElem?_cons_zero]
      refine Ord.e_x rfl (by kernel_rfl) ?_
      go_wp2_with fail
      have ownA : (v0.alloc (.cells #[] 46)).ownsRow w4.heap.size 46 14 (.slice (some ⟨v0.heap.size, 0, none⟩) 0 0) 0 [] := own_empty v0 _ _ hT.size 14
      have hbx : Below v0.heap.size v0 (v0.alloc (.cells #[] 46)) := (Below.refl _ _).alloc (Nat.le_refl _) _
      replace hT := bnx hT hbx
      refine Ord.Seg.go hT (fun h => by cases h) ?_
      (try simp only [Act.put, List.setIfInBounds_toArray, List.set_cons_zero, List.set_cons_succ])
      generalize (v0.alloc (.cells #[] 46)) = v1 at *
      generalize v0.heap.size = gb at *
      clear hbx
      have hgb : gb < v1.heap.size := (own_blk ownA rfl).2
      ((with_reducible refine Ord.e_p (v := ?_) ?_ ?_ ?_ ?_); rotate_left; (· exact rfl); (· kernel_rfl); (· intro w2; go_simp; try with_reducible rfl))
      (try simp only [Act.put, List.setIfInBounds_toArray, List.set_cons_zero, List.set_cons_succ])
      refine Ord.e_loadS Try.underlying39 rfl (fun w' hS => ((show Below _ w4 w' from hS).cell (p := ⟨w.heap.size, 1, none⟩) hlt0).trans k1) hT rfl (by kernel_rfl) ?_
      (try simp only [Act.put, List.setIfInBounds_toArray, List.set_cons_zero, List.set_cons_succ])
      refine Ord.e_x rfl (by kernel_rfl) ?_
      refine wpList_appG (base := w4.heap.size) (n := 0) Try.underlying39 Hi1.out (by kernel_rfl) (by omega) ownA rfl (RdR.rd (HhL.out _ hT) (by omega)) rfl HeL.out (k := 0) (ys := (L.map enC).flatten) (Nat.zero_add _) (List.nil_append _) (by unfold maxLen; omega) (by omega) hT.size ?_
      intro A5 c5 v2 ownB hgr hob
      replace hT := Below.grown hT hgr hT.size (fun j hj => (own_blk ownA hj).1)
      clear hgr hob ownA
      go_wp2_with fail
      refine Ord.Seg.go hT (fun h => by cases h) ?_
      (try simp only [Act.put, List.setIfInBounds_toArray, List.set_cons_zero, List.set_cons_succ])
      refine Ord.e_rowS (b := g6) (o := 0) Try.underlying46 rfl (by rw [enC_len X HX.out]; kernel_rfl) rfl (by unfold enC; simp) (fun w' hS => (show EnB w' g6 X from blk_old y6 (show Below _ w4 w' from hS) (blk_lt y6)).all) hT (by kernel_rfl) ?_
      (try simp only [Act.put, List.setIfInBounds_toArray, List.set_cons_zero, List.set_cons_succ])
      refine Ord.e_x rfl (by kernel_rfl) ?_
      refine wpList_bs1 Try.underlying39 Hi1.out (by kernel_rfl) (by omega) (by omega) (enC_len X HX.out) rfl ?_
      have hbx : Below v2.heap.size v2 (v2.alloc (.cells (enC X).toArray 46)) := (Below.refl _ _).alloc (Nat.le_refl _) _
      have hrd : Rd (v2.alloc (.cells (enC X).toArray 46)) (v2.heap.size + 1) 14 (some ⟨v2.heap.size, 0, none⟩) 1 1 (enC X) := rd_one35 v2 X HX.out
      replace ownB := own_up ownB hbx (Nat.le_refl _)
      have hgl : w4.heap.size ≤ v2.heap.size := hT.size
      replace hT := bnx hT hbx
      go_wp2_with fail
      refine Ord.Seg.go hT (fun h => by cases h) ?_
      (try simp only [Act.put, List.setIfInBounds_toArray, List.set_cons_zero, List.set_cons_succ])
      have hgc : v2.heap.size < (v2.alloc (.cells (enC X).toArray 46)).heap.size := by simp
      clear hbx
      generalize (v2.alloc (.cells (enC X).toArray 46)) = v3 at *
      generalize v2.heap.size = gc at *
      refine Ord.e_x rfl (by kernel_rfl) ?_
      refine wpList_appG (base := w4.heap.size) (n := 0) Try.underlying39 Hi1.out (by kernel_rfl) (by omega) ownB rfl hrd rfl (enC_one X) (k := 0 + 1) (ys := ((L ++ [X]).map enC).flatten) rfl (by simp) (by unfold maxLen; omega) (by omega) hT.size ?_
      intro A6 c6 v4 ownC hgr hob
      replace hT := Below.grown hT hgr hT.size (fun j hj => (own_blk ownB hj).1)
      clear hgr hob ownB hrd
      go_wp2_with fail
      refine Ord.Seg.go hT (fun h => by cases h) ?_
      (try simp only [Act.put, List.setIfInBounds_toArray, List.set_cons_zero, List.set_cons_succ])
      ((with_reducible refine Ord.e_p (v := ?_) ?_ ?_ ?_ ?_); rotate_left; (· exact rfl); (· kernel_rfl); (· intro w2; go_simp; try with_reducible rfl))
      (try simp only [Act.put, List.setIfInBounds_toArray, List.set_cons_zero, List.set_cons_succ])
      refine Ord.e_nil ?_
      generalize v4 = u0 at *
      replace hSz := And.intro (blk_old hSz.1 hT (blk_lt hSz.1)) (show RcB u0 (w.heap.size + 1) t V from blk_old hSz.2 hT (blk_lt hSz.2))
      replace x2z := blk_old x2z hT (blk_lt x2z)
      replace xbz := bnx xbz hT
      have hrA : RdE u0 u0.heap.size A6 (0 + 1) c6 (L ++ [X]) := RdR.own (ls := (L ++ [X]).map enC) ownC (by rw [List.length_map, List.length_append, Hn.out]; rfl) HrA.out
      have hlr2 : w.heap.size + 2 < w4.heap.size := hlr4
      clear hT k1 y6
      go_wp2_with fail
      go_fit (qbsize_any A6 (0 + 1) c6 u0.heap.size (L ++ [X]) u0 hrA (Nat.le_refl _) HqX.out (by omega))
      rintro e u1 ⟨rfl, hbx⟩
      replace hSz := And.intro (blk_old hSz.1 hbx (blk_lt hSz.1)) (show RcB u1 (w.heap.size + 1) t V from blk_old hSz.2 hbx (blk_lt hSz.2))
      replace x2z := blk_old x2z hbx (blk_lt x2z)
      replace xbz := bnx xbz hbx
      have ownZ := own_up ownC hbx (Nat.le_refl _)
      clear hbx hrA ownC
      by_cases hF : 248 < (entB (L ++ [X])).length
      · have hF' : (248 : Int) < ((entB (L ++ [X])).length : Int) := by omega
        obtain ⟨q1, q2, q3⟩ := HFull.out hF
        have Q1 := Lib.hid q1
        have Q2 := Lib.hid q2
        have Q3 := Lib.hid q3
        clear q1 q2 q3 hF ownZ
        go_wp2_with (first | (with_reducible refine stop_loadT 66 ?_) | (with_reducible refine stop_storeT 66 ?_))
        refine go_ (wpList_load_row rfl _ _ rfl w.heap.size rfl _ _ _ _ hSz.1 Try.underlying66 rfl (by kernel_rfl) ?_)
        go_wp2_with fail
        go_fit (Hfl.out u1 (RdR.up Hh.out (xbz.mono hB)) (Nat.le_trans hB xbz.size))
        rintro e u2 ⟨Af, cf, At, nt, ct, rfl, _, ownT, hbx, _⟩
        have hsz1 : w.heap.size + 2 < u1.heap.size := blk_lt x2z
        replace hSz := And.intro (blk_old hSz.1 hbx (blk_lt hSz.1)) (show RcB u2 (w.heap.size + 1) t V from blk_old hSz.2 hbx (blk_lt hSz.2))
        replace x2z := blk_old x2z hbx (blk_lt x2z)
        replace xbz := bnx xbz hbx
        replace ownT := own_mono ownT (base' := w.heap.size + 3) (by omega)
        clear hbx
        rw [show ([] : List En).length = 0 from rfl]
        go_wp2_with (first | (with_reducible refine stop_loadT 66 ?_) | (with_reducible refine stop_storeT 66 ?_))
        refine go_ (wpList_store_row rfl _ _ _ rfl w.heap.size (qlC ev Af 0 cf r (flB L b)) rfl rfl _ _ hSz.1 (by kernel_rfl) rfl (by kernel_rfl) ?_)
        have hz1 := setRow_heap _ _ _ (qlC ev Af 0 cf r (flB L b)) _ _ hSz.1
        have hA1 : Aw (fun k => k = w.heap.size) u2 (u2.setRow w.heap.size (qlC ev Af 0 cf r (flB L b))) := aw_setRow35 _ _
        have x2y := hA1.keep x2z (by omega)
        have hR1 : RcB _ (w.heap.size + 1) t V := hA1.keep hSz.2 (by omega)
        have xby := below_awG xbz hA1 (fun k hk => by omega) xbz.size
        have ownT2 := own_aw ownT hA1 (fun j hj hu => by have := (own_blk ownT hj).1; omega)
        generalize (u2.setRow w.heap.size (qlC ev Af 0 cf r (flB L b))) = u3 at *
        clear hA1 hSz x2z xbz ownT
        go_wp2_with (first | (with_reducible refine stop_loadT 25 ?_) | (with_reducible refine stop_storeT 25 ?_) | (with_reducible refine stop_loadG 25 ?_))
        refine go_ (wpList_load_mid rfl _ _ rfl (w.heap.size + 1) 0 rfl _ _ hR1.all Try.underlying25 rfl (by rw [rcC_size t V HV.out]; kernel_rfl) ?_)
        go_wp2_with (with_reducible refine stop_build2q ?_)
        refine go_ (wpList_buildEnQ (k := true) HV.out rfl rfl ?_)
        go_wp2_with (with_reducible refine stop_bs ?_)
        refine go_ (wpList_bs1 Try.underlying39 Hi1.out (by kernel_rfl) (by omega) (by omega) (enC_len (⟨true, t, V⟩ : En) HV.out) rfl ?_)
        have hbn : Below u3.heap.size u3 (u3.alloc (.cells (enC ⟨true, t, V⟩).toArray 46)) := (Below.refl _ _).alloc (Nat.le_refl _) _
        have hlt3 : w.heap.size + 2 < u3.heap.size := blk_lt x2y
        have ownZ : (u3.alloc (.cells (enC ⟨true, t, V⟩).toArray 46)).ownsRow (w.heap.size + 3) 46 14 (.slice (some ⟨u3.heap.size, 0, none⟩) 1 1) 1 [enC ⟨true, t, V⟩].flatten := own_litR u3 (w.heap.size + 3) _ [enC ⟨true, t, V⟩] _ (by simp) (by intro r hr; rw [List.mem_singleton.1 hr]; exact enC_len (⟨true, t, V⟩ : En) HV.out) (by simp [maxLen]) (by omega) 1 rfl
        have hSz : _ ∧ True := ⟨blk_old hz1 hbn (blk_lt hz1), trivial⟩
        have x2z := blk_old x2y hbn (blk_lt x2y)
        have xbz := bnx xby hbn
        have ownT := own_up ownT2 hbn (Nat.le_refl _)
        clear hbn hz1 x2y xby ownT2 hR1
        generalize (u3.alloc (.cells (enC ⟨true, t, V⟩).toArray 46)) = u4 at *
        generalize u3.heap.size = gz at *
        have s1 : u4.cell? ⟨w.heap.size, 1, none⟩ = some (.slice Af 0 cf) := blk_cell (i := 1) hSz.1 rfl
        have s2 : u4.frozen? ⟨w.heap.size, 1, none⟩ = false := blk_free (i := 1) hSz.1
        have hk1 := blk_set (i := 1) hSz.1 (.slice (some ⟨gz, 0, none⟩) 1 1)
        have s3 : (u4.setCell ⟨w.heap.size, 1, none⟩ (.slice (some ⟨gz, 0, none⟩) 1 1)).cell? ⟨w.heap.size, 2, none⟩ = some (.int .i64 (r : Int)) := blk_cell (i := 2) hk1 rfl
        have s4 : (u4.setCell ⟨w.heap.size, 1, none⟩ (.slice (some ⟨gz, 0, none⟩) 1 1)).frozen? ⟨w.heap.size, 2, none⟩ = false := blk_free (i := 2) hk1
        have hk2 := blk_set (i := 2) hk1 (.int .i64 ((r : Int) + 1))
        have hawg : Aw (fun k => k = w.heap.size) u4 ((u4.setCell ⟨w.heap.size, 1, none⟩ (.slice (some ⟨gz, 0, none⟩) 1 1)).setCell ⟨w.heap.size, 2, none⟩ (.int .i64 ((r : Int) + 1))) := ((Aw.refl (fun k => k = w.heap.size) u4).set (p := ⟨w.heap.size, 1, none⟩) _ rfl).set (p := ⟨w.heap.size, 2, none⟩) _ rfl
        have x24 := hawg.keep x2z (by omega)
        have xb4 := below_awG xbz hawg (fun k hk => by omega) xbz.size
        have hown4 := own_aw ownZ hawg (fun j hj hu => by have := (own_blk ownZ hj).1; omega)
        have hown5 := own_aw ownT hawg (fun j hj hu => by have := (own_blk ownT hj).1; omega)
        clear hawg ownZ ownT x2z xbz hk1 hSz
        go_wp2_with (with_reducible refine stop_loadT 66 ?_)
        clear s1 s2 s3 s4
        generalize ((u4.setCell ⟨w.heap.size, 1, none⟩ (.slice (some ⟨gz, 0, none⟩) 1 1)).setCell ⟨w.heap.size, 2, none⟩ (.int .i64 ((r : Int) + 1))) = y4 at *
        replace hk2 : y4.heap[w.heap.size]? = some (.cells (qlC ev (some ⟨gz, 0, none⟩) (1) 1 (r + 1) (flB L b)) 66) := hk2
        refine go_ (wpList_load_row rfl _ _ rfl w.heap.size rfl _ _ _ _ hk2 Try.underlying66 rfl (by kernel_rfl) ?_)
        go_wp2_with (first | (with_reducible refine stop_loadT 66 ?_) | (with_reducible refine stop_storeT 66 ?_))
        refine go_ (wpList_store_row rfl _ _ _ rfl (w.heap.size + 2) (qlC ev (some ⟨gz, 0, none⟩) (1) 1 (r + 1) (flB L b)) rfl rfl _ _ x24 (by kernel_rfl) rfl (by kernel_rfl) ?_)
        have hz := setRow_heap _ _ _ (qlC ev (some ⟨gz, 0, none⟩) (1) 1 (r + 1) (flB L b)) _ _ x24
        have hbz := below_setRow xb4 (by omega) (qlC ev (some ⟨gz, 0, none⟩) (1) 1 (r + 1) (flB L b)) (g := w.heap.size + 2)
        have own6 := own_aw hown4 (aw_setRow35 (w.heap.size + 2) (qlC ev (some ⟨gz, 0, none⟩) (1) 1 (r + 1) (flB L b))) (fun j hj hu => by have := (own_blk hown4 hj).1; omega)
        have own7 := own_aw hown5 (aw_setRow35 (w.heap.size + 2) (qlC ev (some ⟨gz, 0, none⟩) (1) 1 (r + 1) (flB L b))) (fun j hj hu => by have := (own_blk hown5 hj).1; omega)
        generalize (y4.setRow (w.heap.size + 2) (qlC ev (some ⟨gz, 0, none⟩) (1) 1 (r + 1) (flB L b))) = y5 at *
        go_wp2
        exact bodyPost_ret (results_cell2 (fn := Try.f51) Try.results51 _ _ (w.heap.size + 2) _ _ _ _ rfl hz Try.underlying66 rfl (by kernel_rfl)) rfl (by
          rw [Q1.out, Q2.out, Q3.out]
          exact ⟨some ⟨gz, 0, none⟩, 1, At, nt, ct, rfl, RdR.own (ls := [(⟨true, t, V⟩ : En)].map enC) own6 rfl (fun r hr => by obtain ⟨x, hx, rfl⟩ := List.mem_map.1 hr; rw [List.mem_singleton.1 hx]; exact enC_len (⟨true, t, V⟩ : En) HV.out), own_mono own7 (by omega), hbz, fun _ j hj => by have := (own_blk own6 hj).1; omega⟩)
      · have hF' : ¬ (248 : Int) < ((entB (L ++ [X])).length : Int) := by omega
        obtain ⟨q1, q2, q3⟩ := HRoom.out hF
        have Q1 := Lib.hid q1
        have Q2 := Lib.hid q2
        have Q3 := Lib.hid q3
        have ownT : u1.ownsRow (w.heap.size + 3) 5 1 (.slice none 0 0) 0 (bv []) := World.ownsRow_nil _ _ _ _
        clear q1 q2 q3 hF
        have s1 : u1.cell? ⟨w.heap.size, 1, none⟩ = some (.slice A 0 c) := blk_cell (i := 1) hSz.1 rfl
        have s2 : u1.frozen? ⟨w.heap.size, 1, none⟩ = false := blk_free (i := 1) hSz.1
        have hk1 := blk_set (i := 1) hSz.1 (.slice A6 (0 + 1) c6)
        have s3 : (u1.setCell ⟨w.heap.size, 1, none⟩ (.slice A6 (0 + 1) c6)).cell? ⟨w.heap.size, 2, none⟩ = some (.int .i64 (r : Int)) := blk_cell (i := 2) hk1 rfl
        have s4 : (u1.setCell ⟨w.heap.size, 1, none⟩ (.slice A6 (0 + 1) c6)).frozen? ⟨w.heap.size, 2, none⟩ = false := blk_free (i := 2) hk1
        have hk2 := blk_set (i := 2) hk1 (.int .i64 ((r : Int) + 1))
        have hawg : Aw (fun k => k = w.heap.size) u1 ((u1.setCell ⟨w.heap.size, 1, none⟩ (.slice A6 (0 + 1) c6)).setCell ⟨w.heap.size, 2, none⟩ (.int .i64 ((r : Int) + 1))) := ((Aw.refl (fun k => k = w.heap.size) u1).set (p := ⟨w.heap.size, 1, none⟩) _ rfl).set (p := ⟨w.heap.size, 2, none⟩) _ rfl
        have x24 := hawg.keep x2z (by omega)
        have xb4 := below_awG xbz hawg (fun k hk => by omega) xbz.size
        have hown4 := own_aw ownZ hawg (fun j hj hu => by have := (own_blk ownZ hj).1; omega)
        have hown5 := own_aw ownT hawg (fun j hj hu => by have := (own_blk ownT hj).1; omega)
        clear hawg ownZ ownT x2z xbz hk1 hSz
        go_wp2_with (with_reducible refine stop_loadT 66 ?_)
        clear s1 s2 s3 s4
        generalize ((u1.setCell ⟨w.heap.size, 1, none⟩ (.slice A6 (0 + 1) c6)).setCell ⟨w.heap.size, 2, none⟩ (.int .i64 ((r : Int) + 1))) = y4 at *
        replace hk2 : y4.heap[w.heap.size]? = some (.cells (qlC ev A6 ((0 + 1)) c6 (r + 1) b) 66) := hk2
        refine go_ (wpList_load_row rfl _ _ rfl w.heap.size rfl _ _ _ _ hk2 Try.underlying66 rfl (by kernel_rfl) ?_)
        go_wp2_with (first | (with_reducible refine stop_loadT 66 ?_) | (with_reducible refine stop_storeT 66 ?_))
        refine go_ (wpList_store_row rfl _ _ _ rfl (w.heap.size + 2) (qlC ev A6 ((0 + 1)) c6 (r + 1) b) rfl rfl _ _ x24 (by kernel_rfl) rfl (by kernel_rfl) ?_)
        have hz := setRow_heap _ _ _ (qlC ev A6 ((0 + 1)) c6 (r + 1) b) _ _ x24
        have hbz := below_setRow xb4 (by omega) (qlC ev A6 ((0 + 1)) c6 (r + 1) b) (g := w.heap.size + 2)
        have own6 := own_aw hown4 (aw_setRow35 (w.heap.size + 2) (qlC ev A6 ((0 + 1)) c6 (r + 1) b)) (fun j hj hu => by have := (own_blk hown4 hj).1; omega)
        have own7 := own_aw hown5 (aw_setRow35 (w.heap.size + 2) (qlC ev A6 ((0 + 1)) c6 (r + 1) b)) (fun j hj hu => by have := (own_blk hown5 hj).1; omega)
        generalize (y4.setRow (w.heap.size + 2) (qlC ev A6 ((0 + 1)) c6 (r + 1) b)) = y5 at *
        go_wp2
        exact bodyPost_ret (results_cell2 (fn := Try.f51) Try.results51 _ _ (w.heap.size + 2) _ _ _ _ rfl hz Try.underlying66 rfl (by kernel_rfl)) rfl (by
          rw [Q1.out, Q2.out, Q3.out]
          exact ⟨A6, c6, none, 0, 0, by rw [List.length_append, Hn.out]; rfl, by rw [List.length_append, Hn.out]; exact RdR.own (ls := (L ++ [X]).map enC) own6 (by first | (rw [List.length_map, List.length_append, Hn.out]; done) | (rw [List.length_map, List.length_append, Hn.out]; rfl)) HrA.out, World.ownsRow_nil _ _ _ _, hbz, fun _ j hj => by have := (own_blk own6 (ownb_any hj)).1; omega⟩)
    · simp only [Ord.lst, List.filterMap_cons, List.filterMap_nil, List.getElem?_toArray, List.getElem?_cons_succ, List.getElem?_cons_zero]
      refine Ord.e_x rfl (by kernel_rfl) ?_
      go_wp2_with fail
      have ownA : (v0.alloc (.cells #[] 46)).ownsRow w4.heap.size 46 14 (.slice (some ⟨v0.heap.size, 0, none⟩) 0 0) 0 [] := own_empty v0 _ _ hT.size 14
      have hbx : Below v0.heap.size v0 (v0.alloc (.cells #[] 46)) := (Below.refl _ _).alloc (Nat.le_refl _) _
      replace hT := bnx hT hbx
      refine Ord.Seg.go hT (fun h => by cases h) ?_
      (try simp only [Act.put, List.setIfInBounds_toArray, List.set_cons_zero, List.set_cons_succ])
      generalize (v0.alloc (.cells #[] 46)) = v1 at *
      generalize v0.heap.size = gb at *
      clear hbx
      have hgb : gb < v1.heap.size := (own_blk ownA rfl).2
      ((with_reducible refine Ord.e_p (v := ?_) ?_ ?_ ?_ ?_); rotate_left; (· exact rfl); (· kernel_rfl); (· intro w2; go_simp; try with_reducible rfl))
      (try simp only [Act.put, List.setIfInBounds_toArray, List.set_cons_zero, List.set_cons_succ])
      refine Ord.e_loadS Try.underlying39 rfl (fun w' hS => ((show Below _ w4 w' from hS).cell (p := ⟨w.heap.size, 1, none⟩) hlt0).trans k1) hT rfl (by kernel_rfl) ?_
      (try simp only [Act.put, List.setIfInBounds_toArray, List.set_cons_zero, List.set_cons_succ])
      refine Ord.e_rowS (b := g6) (o := 0) Try.underlying46 rfl (by rw [enC_len X HX.out]; kernel_rfl) rfl (by unfold enC; simp) (fun w' hS => (show EnB w' g6 X from blk_old y6 (show Below _ w4 w' from hS) (blk_lt y6)).all) hT (by kernel_rfl) ?_
      (try simp only [Act.put, List.setIfInBounds_toArray, List.set_cons_zero, List.set_cons_succ])
      refine Ord.e_x rfl (by kernel_rfl) ?_
      refine wpList_bs1 Try.underlying39 Hi1.out (by kernel_rfl) (by omega) (by omega) (enC_len X HX.out) rfl ?_
      have hbx : Below v1.heap.size v1 (v1.alloc (.cells (enC X).toArray 46)) := (Below.refl _ _).alloc (Nat.le_refl _) _
      have hrd : Rd (v1.alloc (.cells (enC X).toArray 46)) (v1.heap.size + 1) 14 (some ⟨v1.heap.size, 0, none⟩) 1 1 (enC X) := rd_one35 v1 X HX.out
      replace ownA := own_up ownA hbx (Nat.le_refl _)
      replace hgb : gb < v1.heap.size := hgb
      have hgl : w4.heap.size ≤ v1.heap.size := hT.size
      replace hT := bnx hT hbx
      go_wp2_with fail
      refine Ord.Seg.go hT (fun h => by cases h) ?_
      (try simp only [Act.put, List.setIfInBounds_toArray, List.set_cons_zero, List.set_cons_succ])
      have hgc : v1.heap.size < (v1.alloc (.cells (enC X).toArray 46)).heap.size := by simp
      clear hbx
      generalize (v1.alloc (.cells (enC X).toArray 46)) = v2 at *
      generalize v1.heap.size = gc at *
      refine Ord.e_x rfl (by kernel_rfl) ?_
      refine wpList_appG (base := w4.heap.size) (n := 0) Try.underlying39 Hi1.out (by kernel_rfl) (by omega) ownA rfl (RdR.rd (HhL.out _ hT) (by omega)) rfl HeL.out (k := 0) (ys := (L.map enC).flatten) (Nat.zero_add _) (List.nil_append _) (by unfold maxLen; omega) (by omega) hT.size ?_
      intro A5 c5 v3 ownB hgr hob
      replace hrd := rd_grown35 hrd hgr (by omega) (fun h2 => by
        have h3 : some gb = some gc := h2
        injection h3 with h3
        omega)
      replace hT := Below.grown hT hgr hT.size (fun j hj => (own_blk ownA hj).1)
      clear hgr hob ownA
      go_wp2_with fail
      refine Ord.Seg.go hT (fun h => by cases h) ?_
      (try simp only [Act.put, List.setIfInBounds_toArray, List.set_cons_zero, List.set_cons_succ])
      refine Ord.e_x rfl (by kernel_rfl) ?_
      refine wpList_appG (base := w4.heap.size) (n := 0) Try.underlying39 Hi1.out (by kernel_rfl) (by omega) ownB rfl hrd rfl (enC_one X) (k := 0 + 1) (ys := ((L ++ [X]).map enC).flatten) rfl (by simp) (by unfold maxLen; omega) (by omega) hT.size ?_
      intro A6 c6 v4 ownC hgr hob
      replace hT := Below.grown hT hgr hT.size (fun j hj => (own_blk ownB hj).1)
      clear hgr hob ownB hrd
      go_wp2_with fail
      refine Ord.Seg.go hT (fun h => by cases h) ?_
      (try simp only [Act.put, List.setIfInBounds_toArray, List.set_cons_zero, List.set_cons_succ])
      ((with_reducible refine Ord.e_p (v := ?_) ?_ ?_ ?_ ?_); rotate_left; (· exact rfl); (· kernel_rfl); (· intro w2; go_simp; try with_reducible rfl))
      (try simp only [Act.put, List.setIfInBounds_toArray, List.set_cons_zero, List.set_cons_succ])
      refine Ord.e_nil ?_
      generalize v4 = u0 at *
      replace hSz := And.intro (blk_old hSz.1 hT (blk_lt hSz.1)) (show RcB u0 (w.heap.size + 1) t V from blk_old hSz.2 hT (blk_lt hSz.2))
      replace x2z := blk_old x2z hT (blk_lt x2z)
      replace xbz := bnx xbz hT
      have hrA : RdE u0 u0.heap.size A6 (0 + 1) c6 (L ++ [X]) := RdR.own (ls := (L ++ [X]).map enC) ownC (by rw [List.length_map, List.length_append, Hn.out]; rfl) HrA.out
      have hlr2 : w.heap.size + 2 < w4.heap.size := hlr4
      clear hT k1 y6
      go_wp2_with fail
      go_fit (qbsize_any A6 (0 + 1) c6 u0.heap.size (L ++ [X]) u0 hrA (Nat.le_refl _) HqX.out (by omega))
      rintro e u1 ⟨rfl, hbx⟩
      replace hSz := And.intro (blk_old hSz.1 hbx (blk_lt hSz.1)) (show RcB u1 (w.heap.size + 1) t V from blk_old hSz.2 hbx (blk_lt hSz.2))
      replace x2z := blk_old x2z hbx (blk_lt x2z)
      replace xbz := bnx xbz hbx
      have ownZ := own_up ownC hbx (Nat.le_refl _)
      clear hbx hrA ownC
      by_cases hF : 248 < (entB (L ++ [X])).length
      · have hF' : (248 : Int) < ((entB (L ++ [X])).length : Int) := by omega
        obtain ⟨q1, q2, q3⟩ := HFull.out hF
        have Q1 := Lib.hid q1
        have Q2 := Lib.hid q2
        have Q3 := Lib.hid q3
        clear q1 q2 q3 hF ownZ
        go_wp2_with (first | (with_reducible refine stop_loadT 66 ?_) | (with_reducible refine stop_storeT 66 ?_))
        refine go_ (wpList_load_row rfl _ _ rfl w.heap.size rfl _ _ _ _ hSz.1 Try.underlying66 rfl (by kernel_rfl) ?_)
        go_wp2_with fail
        go_fit (Hfl.out u1 (RdR.up Hh.out (xbz.mono hB)) (Nat.le_trans hB xbz.size))
        rintro e u2 ⟨Af, cf, At, nt, ct, rfl, _, ownT, hbx, _⟩
        have hsz1 : w.heap.size + 2 < u1.heap.size := blk_lt x2z
        replace hSz := And.intro (blk_old hSz.1 hbx (blk_lt hSz.1)) (show RcB u2 (w.heap.size + 1) t V from blk_old hSz.2 hbx (blk_lt hSz.2))
        replace x2z := blk_old x2z hbx (blk_lt x2z)
        replace xbz := bnx xbz hbx
        replace ownT := own_mono ownT (base' := w.heap.size + 3) (by omega)
        clear hbx
        rw [show ([] : List En).length = 0 from rfl]
        go_wp2_with (first | (with_reducible refine stop_loadT 66 ?_) | (with_reducible refine stop_storeT 66 ?_))
        refine go_ (wpList_store_row rfl _ _ _ rfl w.heap.size (qlC ev Af 0 cf r (flB L b)) rfl rfl _ _ hSz.1 (by kernel_rfl) rfl (by kernel_rfl) ?_)
        have hz1 := setRow_heap _ _ _ (qlC ev Af 0 cf r (flB L b)) _ _ hSz.1
        have hA1 : Aw (fun k => k = w.heap.size) u2 (u2.setRow w.heap.size (qlC ev Af 0 cf r (flB L b))) := aw_setRow35 _ _
        have x2y := hA1.keep x2z (by omega)
        have hR1 : RcB _ (w.heap.size + 1) t V := hA1.keep hSz.2 (by omega)
        have xby := below_awG xbz hA1 (fun k hk => by omega) xbz.size
        have ownT2 := own_aw ownT hA1 (fun j hj hu => by have := (own_blk ownT hj).1; omega)
        generalize (u2.setRow w.heap.size (qlC ev Af 0 cf r (flB L b))) = u3 at *
        clear hA1 hSz x2z xbz ownT
        go_wp2_with (first | (with_reducible refine stop_loadT 25 ?_) | (with_reducible refine stop_storeT 25 ?_) | (with_reducible refine stop_loadG 25 ?_))
        refine go_ (wpList_load_mid rfl _ _ rfl (w.heap.size + 1) 0 rfl _ _ hR1.all Try.underlying25 rfl (by rw [rcC_size t V HV.out]; kernel_rfl) ?_)
        go_wp2_with (with_reducible refine stop_build2q ?_)
        refine go_ (wpList_buildEnQ (k := true) HV.out rfl rfl ?_)
        go_wp2_with (with_reducible refine stop_bs ?_)
        refine go_ (wpList_bs1 Try.underlying39 Hi1.out (by kernel_rfl) (by omega) (by omega) (enC_len (⟨true, t, V⟩ : En) HV.out) rfl ?_)
        have hbn : Below u3.heap.size u3 (u3.alloc (.cells (enC ⟨true, t, V⟩).toArray 46)) := (Below.refl _ _).alloc (Nat.le_refl _) _
        have hlt3 : w.heap.size + 2 < u3.heap.size := blk_lt x2y
        have ownZ : (u3.alloc (.cells (enC ⟨true, t, V⟩).toArray 46)).ownsRow (w.heap.size + 3) 46 14 (.slice (some ⟨u3.heap.size, 0, none⟩) 1 1) 1 [enC ⟨true, t, V⟩].flatten := own_litR u3 (w.heap.size + 3) _ [enC ⟨true, t, V⟩] _ (by simp) (by intro r hr; rw [List.mem_singleton.1 hr]; exact enC_len (⟨true, t, V⟩ : En) HV.out) (by simp [maxLen]) (by omega) 1 rfl
        have hSz : _ ∧ True := ⟨blk_old hz1 hbn (blk_lt hz1), trivial⟩
        have x2z := blk_old x2y hbn (blk_lt x2y)
        have xbz := bnx xby hbn
        have ownT := own_up ownT2 hbn (Nat.le_refl _)
        clear hbn hz1 x2y xby ownT2 hR1
        generalize (u3.alloc (.cells (enC ⟨true, t, V⟩).toArray 46)) = u4 at *
        generalize u3.heap.size = gz at *
        have s1 : u4.cell? ⟨w.heap.size, 1, none⟩ = some (.slice Af 0 cf) := blk_cell (i := 1) hSz.1 rfl
        have s2 : u4.frozen? ⟨w.heap.size, 1, none⟩ = false := blk_free (i := 1) hSz.1
        have hk1 := blk_set (i := 1) hSz.1 (.slice (some ⟨gz, 0, none⟩) 1 1)
        have s3 : (u4.setCell ⟨w.heap.size, 1, none⟩ (.slice (some ⟨gz, 0, none⟩) 1 1)).cell? ⟨w.heap.size, 2, none⟩ = some (.int .i64 (r : Int)) := blk_cell (i := 2) hk1 rfl
        have s4 : (u4.setCell ⟨w.heap.size, 1, none⟩ (.slice (some ⟨gz, 0, none⟩) 1 1)).frozen? ⟨w.heap.size, 2, none⟩ = false := blk_free (i := 2) hk1
        have hk2 := blk_set (i := 2) hk1 (.int .i64 ((r : Int) + 1))
        have hawg : Aw (fun k => k = w.heap.size) u4 ((u4.setCell ⟨w.heap.size, 1, none⟩ (.slice (some ⟨gz, 0, none⟩) 1 1)).setCell ⟨w.heap.size, 2, none⟩ (.int .i64 ((r : Int) + 1))) := ((Aw.refl (fun k => k = w.heap.size) u4).set (p := ⟨w.heap.size, 1, none⟩) _ rfl).set (p := ⟨w.heap.size, 2, none⟩) _ rfl
        have x24 := hawg.keep x2z (by omega)
        have xb4 := below_awG xbz hawg (fun k hk => by omega) xbz.size
        have hown4 := own_aw ownZ hawg (fun j hj hu => by have := (own_blk ownZ hj).1; omega)
        have hown5 := own_aw ownT hawg (fun j hj hu => by have := (own_blk ownT hj).1; omega)
        clear hawg ownZ ownT x2z xbz hk1 hSz
        go_wp2_with (with_reducible refine stop_loadT 66 ?_)
        clear s1 s2 s3 s4
        generalize ((u4.setCell ⟨w.heap.size, 1, none⟩ (.slice (some ⟨gz, 0, none⟩) 1 1)).setCell ⟨w.heap.size, 2, none⟩ (.int .i64 ((r : Int) + 1))) = y4 at *
        replace hk2 : y4.heap[w.heap.size]? = some (.cells (qlC ev (some ⟨gz, 0, none⟩) (1) 1 (r + 1) (flB L b)) 66) := hk2
        refine go_ (wpList_load_row rfl _ _ rfl w.heap.size rfl _ _ _ _ hk2 Try.underlying66 rfl (by kernel_rfl) ?_)
        go_wp2_with (first | (with_reducible refine stop_loadT 66 ?_) | (with_reducible refine stop_storeT 66 ?_))
        refine go_ (wpList_store_row rfl _ _ _ rfl (w.heap.size + 2) (qlC ev (some ⟨gz, 0, none⟩) (1) 1 (r + 1) (flB L b)) rfl rfl _ _ x24 (by kernel_rfl) rfl (by kernel_rfl) ?_)
        have hz := setRow_heap _ _ _ (qlC ev (some ⟨gz, 0, none⟩) (1) 1 (r + 1) (flB L b)) _ _ x24
        have hbz := below_setRow xb4 (by omega) (qlC ev (some ⟨gz, 0, none⟩) (1) 1 (r + 1) (flB L b)) (g := w.heap.size + 2)
        have own6 := own_aw hown4 (aw_setRow35 (w.heap.size + 2) (qlC ev (some ⟨gz, 0, none⟩) (1) 1 (r + 1) (flB L b))) (fun j hj hu => by have := (own_blk hown4 hj).1; omega)
        have own7 := own_aw hown5 (aw_setRow35 (w.heap.size + 2) (qlC ev (some ⟨gz, 0, none⟩) (1) 1 (r + 1) (flB L b))) (fun j hj hu => by have := (own_blk hown5 hj).1; omega)
        generalize (y4.setRow (w.heap.size + 2) (qlC ev (some ⟨gz, 0, none⟩) (1) 1 (r + 1) (flB L b))) = y5 at *
        go_wp2
        exact bodyPost_ret (results_cell2 (fn := Try.f51) Try.results51 _ _ (w.heap.size + 2) _ _ _ _ rfl hz Try.underlying66 rfl (by kernel_rfl)) rfl (by
          rw [Q1.out, Q2.out, Q3.out]
          exact ⟨some ⟨gz, 0, none⟩, 1, At, nt, ct, rfl, RdR.own (ls := [(⟨true, t, V⟩ : En)].map enC) own6 rfl (fun r hr => by obtain ⟨x, hx, rfl⟩ := List.mem_map.1 hr; rw [List.mem_singleton.1 hx]; exact enC_len (⟨true, t, V⟩ : En) HV.out), own_mono own7 (by omega), hbz, fun _ j hj => by have := (own_blk own6 hj).1; omega⟩)
      · have hF' : ¬ (248 : Int) < ((entB (L ++ [X])).length : Int) := by omega
        obtain ⟨q1, q2, q3⟩ := HRoom.out hF
        have Q1 := Lib.hid q1
        have Q2 := Lib.hid q2
        have Q3 := Lib.hid q3
        have ownT : u1.ownsRow (w.heap.size + 3) 5 1 (.slice none 0 0) 0 (bv []) := World.ownsRow_nil _ _ _ _
        clear q1 q2 q3 hF
        have s1 : u1.cell? ⟨w.heap.size, 1, none⟩ = some (.slice A 0 c) := blk_cell (i := 1) hSz.1 rfl
        have s2 : u1.frozen? ⟨w.heap.size, 1, none⟩ = false := blk_free (i := 1) hSz.1
        have hk1 := blk_set (i := 1) hSz.1 (.slice A6 (0 + 1) c6)
        have s3 : (u1.setCell ⟨w.heap.size, 1, none⟩ (.slice A6 (0 + 1) c6)).cell? ⟨w.heap.size, 2, none⟩ = some (.int .i64 (r : Int)) := blk_cell (i := 2) hk1 rfl
        have s4 : (u1.setCell ⟨w.heap.size, 1, none⟩ (.slice A6 (0 + 1) c6)).frozen? ⟨w.heap.size, 2, none⟩ = false := blk_free (i := 2) hk1
        have hk2 := blk_set (i := 2) hk1 (.int .i64 ((r : Int) + 1))
        have hawg : Aw (fun k => k = w.heap.size) u1 ((u1.setCell ⟨w.heap.size, 1, none⟩ (.slice A6 (0 + 1) c6)).setCell ⟨w.heap.size, 2, none⟩ (.int .i64 ((r : Int) + 1))) := ((Aw.refl (fun k => k = w.heap.size) u1).set (p := ⟨w.heap.size, 1, none⟩) _ rfl).set (p := ⟨w.heap.size, 2, none⟩) _ rfl
        have x24 := hawg.keep x2z (by omega)
        have xb4 := below_awG xbz hawg (fun k hk => by omega) xbz.size
        have hown4 := own_aw ownZ hawg (fun j hj hu => by have := (own_blk ownZ hj).1; omega)
        have hown5 := own_aw ownT hawg (fun j hj hu => by have := (own_blk ownT hj).1; omega)
        clear hawg ownZ ownT x2z xbz hk1 hSz
        go_wp2_with (with_reducible refine stop_loadT 66 ?_)
        clear s1 s2 s3 s4
        generalize ((u1.setCell ⟨w.heap.size, 1, none⟩ (.slice A6 (0 + 1) c6)).setCell ⟨w.heap.size, 2, none⟩ (.int .i64 ((r : Int) + 1))) = y4 at *
        replace hk2 : y4.heap[w.heap.size]? = some (.cells (qlC ev A6 ((0 + 1)) c6 (r + 1) b) 66) := hk2
        refine go_ (wpList_load_row rfl _ _ rfl w.heap.size rfl _ _ _ _ hk2 Try.underlying66 rfl (by kernel_rfl) ?_)
        go_wp2_with (first | (with_reducible refine stop_loadT 66 ?_) | (with_reducible refine stop_storeT 66 ?_))
        refine go_ (wpList_store_row rfl _ _ _ rfl (w.heap.size + 2) (qlC ev A6 ((0 + 1)) c6 (r + 1) b) rfl rfl _ _ x24 (by kernel_rfl) rfl (by kernel_rfl) ?_)
        have hz := setRow_heap _ _ _ (qlC ev A6 ((0 + 1)) c6 (r + 1) b) _ _ x24
        have hbz := below_setRow xb4 (by omega) (qlC ev A6 ((0 + 1)) c6 (r + 1) b) (g := w.heap.size + 2)
        have own6 := own_aw hown4 (aw_setRow35 (w.heap.size + 2) (qlC ev A6 ((0 + 1)) c6 (r + 1) b)) (fun j hj hu => by have := (own_blk hown4 hj).1; omega)
        have own7 := own_aw hown5 (aw_setRow35 (w.heap.size + 2) (qlC ev A6 ((0 + 1)) c6 (r + 1) b)) (fun j hj hu => by have := (own_blk hown5 hj).1; omega)
        generalize (y4.setRow (w.heap.size + 2) (qlC ev A6 ((0 + 1)) c6 (r + 1) b)) = y5 at *
        go_wp2
        exact bodyPost_ret (results_cell2 (fn := Try.f51) Try.results51 _ _ (w.heap.size + 2) _ _ _ _ rfl hz Try.underlying66 rfl (by kernel_rfl)) rfl (by
          rw [Q1.out, Q2.out, Q3.out]
          exact ⟨A6, c6, none, 0, 0, by rw [List.length_append, Hn.out]; rfl, by rw [List.length_append, Hn.out]; exact RdR.own (ls := (L ++ [X]).map enC) own6 (by first | (rw [List.length_map, List.length_append, Hn.out]; done) | (rw [List.length_map, List.length_append, Hn.out]; rfl)) HrA.out, World.ownsRow_nil _ _ _ _, hbz, fun _ j hj => by have := (own_blk own6 (ownb_any hj)).1; omega⟩)
    · simp only [Ord.lst, List.filterMap_cons, List.filterMap_nil, List.getElem?_toArray, List.getElem?_cons_succ, List.getElem?_cons_zero]
      refine Ord.e_rowS (b := g6) (o := 0) Try.underlying46 rfl (by rw [enC_len X HX.out]; kernel_rfl) rfl (by unfold enC; simp) (fun w' hS => (show EnB w' g6 X from blk_old y6 (show Below _ w4 w' from hS) (blk_lt y6)).all) hT (by kernel_rfl) ?_
      (try simp only [Act.put, List.setIfInBounds_toArray, List.set_cons_zero, List.set_cons_succ])
      refine Ord.e_x rfl (by kernel_rfl) ?_
      refine wpList_bs1 Try.underlying39 Hi1.out (by kernel_rfl) (by omega) (by omega) (enC_len X HX.out) rfl ?_
      have hbx : Below v0.heap.size v0 (v0.alloc (.cells (enC X).toArray 46)) := (Below.refl _ _).alloc (Nat.le_refl _) _
      have hrd : Rd (v0.alloc (.cells (enC X).toArray 46)) (v0.heap.size + 1) 14 (some ⟨v0.heap.size, 0, none⟩) 1 1 (enC X) := rd_one35 v0 X HX.out
      have hgl : w4.heap.size ≤ v0.heap.size := hT.size
      replace hT := bnx hT hbx
      go_wp2_with fail
      refine Ord.Seg.go hT (fun h => by cases h) ?_
      (try simp only [Act.put, List.setIfInBounds_toArray, List.set_cons_zero, List.set_cons_succ])
      have hgc : v0.heap.size < (v0.alloc (.cells (enC X).toArray 46)).heap.size := by simp
      clear hbx
      generalize (v0.alloc (.cells (enC X).toArray 46)) = v1 at *
      generalize v0.heap.size = gc at *
      refine Ord.e_x rfl (by kernel_rfl) ?_
      go_wp2_with fail
      have ownA : (v1.alloc (.cells #[] 46)).ownsRow w4.heap.size 46 14 (.slice (some ⟨v1.heap.size, 0, none⟩) 0 0) 0 [] := own_empty v1 _ _ hT.size 14
      have hbx : Below v1.heap.size v1 (v1.alloc (.cells #[] 46)) := (Below.refl _ _).alloc (Nat.le_refl _) _
      replace hrd := RdR.rd_up35 hrd hbx hgc
      replace hT := bnx hT hbx
      refine Ord.Seg.go hT (fun h => by cases h) ?_
      (try simp only [Act.put, List.setIfInBounds_toArray, List.set_cons_zero, List.set_cons_succ])
      generalize (v1.alloc (.cells #[] 46)) = v2 at *
      generalize v1.heap.size = gb at *
      clear hbx
      have hgb : gb < v2.heap.size := (own_blk ownA rfl).2
      ((with_reducible refine Ord.e_p (v := ?_) ?_ ?_ ?_ ?_); rotate_left; (· exact rfl); (· kernel_rfl); (· intro w2; go_simp; try with_reducible rfl))
      (try simp only [Act.put, List.setIfInBounds_toArray, List.set_cons_zero, List.set_cons_succ])
      refine Ord.e_loadS Try.underlying39 rfl (fun w' hS => ((show Below _ w4 w' from hS).cell (p := ⟨w.heap.size, 1, none⟩) hlt0).trans k1) hT rfl (by kernel_rfl) ?_
      (try simp only [Act.put, List.setIfInBounds_toArray, List.set_cons_zero, List.set_cons_succ])
      refine Ord.e_x rfl (by kernel_rfl) ?_
      refine wpList_appG (base := w4.heap.size) (n := 0) Try.underlying39 Hi1.out (by kernel_rfl) (by omega) ownA rfl (RdR.rd (HhL.out _ hT) (by omega)) rfl HeL.out (k := 0) (ys := (L.map enC).flatten) (Nat.zero_add _) (List.nil_append _) (by unfold maxLen; omega) (by omega) hT.size ?_
      intro A5 c5 v3 ownB hgr hob
      replace hrd := rd_grown35 hrd hgr (by omega) (fun h2 => by
        have h3 : some gb = some gc := h2
        injection h3 with h3
        omega)
      replace hT := Below.grown hT hgr hT.size (fun j hj => (own_blk ownA hj).1)
      clear hgr hob ownA
      go_wp2_with fail
      refine Ord.Seg.go hT (fun h => by cases h) ?_
      (try simp only [Act.put, List.setIfInBounds_toArray, List.set_cons_zero, List.set_cons_succ])
      refine Ord.e_x rfl (by kernel_rfl) ?_
      refine wpList_appG (base := w4.heap.size) (n := 0) Try.underlying39 Hi1.out (by kernel_rfl) (by omega) ownB rfl hrd rfl (enC_one X) (k := 0 + 1) (ys := ((L ++ [X]).map enC).flatten) rfl (by simp) (by unfold maxLen; omega) (by omega) hT.size ?_
      intro A6 c6 v4 ownC hgr hob
      replace hT := Below.grown hT hgr hT.size (fun j hj => (own_blk ownB hj).1)
      clear hgr hob ownB hrd
      go_wp2_with fail
      refine Ord.Seg.go hT (fun h => by cases h) ?_
      (try simp only [Act.put, List.setIfInBounds_toArray, List.set_cons_zero, List.set_cons_succ])
      ((with_reducible refine Ord.e_p (v := ?_) ?_ ?_ ?_ ?_); rotate_left; (· exact rfl); (· kernel_rfl); (· intro w2; go_simp; try with_reducible rfl))
      (try simp only [Act.put, List.setIfInBounds_toArray, List.set_cons_zero, List.set_cons_succ])
      refine Ord.e_nil ?_
      generalize v4 = u0 at *
      replace hSz := And.intro (blk_old hSz.1 hT (blk_lt hSz.1)) (show RcB u0 (w.heap.size + 1) t V from blk_old hSz.2 hT (blk_lt hSz.2))
      replace x2z := blk_old x2z hT (blk_lt x2z)
      replace xbz := bnx xbz hT
      have hrA : RdE u0 u0.heap.size A6 (0 + 1) c6 (L ++ [X]) := RdR.own (ls := (L ++ [X]).map enC) ownC (by rw [List.length_map, List.length_append, Hn.out]; rfl) HrA.out
      have hlr2 : w.heap.size + 2 < w4.heap.size := hlr4
      clear hT k1 y6
      go_wp2_with fail
      go_fit (qbsize_any A6 (0 + 1) c6 u0.heap.size (L ++ [X]) u0 hrA (Nat.le_refl _) HqX.out (by omega))
      rintro e u1 ⟨rfl, hbx⟩
      replace hSz := And.intro (blk_old hSz.1 hbx (blk_lt hSz.1)) (show RcB u1 (w.heap.size + 1) t V from blk_old hSz.2 hbx (blk_lt hSz.2))
      replace x2z := blk_old x2z hbx (blk_lt x2z)
      replace xbz := bnx xbz hbx
      have ownZ := own_up ownC hbx (Nat.le_refl _)
      clear hbx hrA ownC
      by_cases hF : 248 < (entB (L ++ [X])).length
      · have hF' : (248 : Int) < ((entB (L ++ [X])).length : Int) := by omega
        obtain ⟨q1, q2, q3⟩ := HFull.out hF
        have Q1 := Lib.hid q1
        have Q2 := Lib.hid q2
        have Q3 := Lib.hid q3
        clear q1 q2 q3 hF ownZ
        go_wp2_with (first | (with_reducible refine stop_loadT 66 ?_) | (with_reducible refine stop_storeT 66 ?_))
        refine go_ (wpList_load_row rfl _ _ rfl w.heap.size rfl _ _ _ _ hSz.1 Try.underlying66 rfl (by kernel_rfl) ?_)
        go_wp2_with fail
        go_fit (Hfl.out u1 (RdR.up Hh.out (xbz.mono hB)) (Nat.le_trans hB xbz.size))
        rintro e u2 ⟨Af, cf, At, nt, ct, rfl, _, ownT, hbx, _⟩
        have hsz1 : w.heap.size + 2 < u1.heap.size := blk_lt x2z
        replace hSz := And.intro (blk_old hSz.1 hbx (blk_lt hSz.1)) (show RcB u2 (w.heap.size + 1) t V from blk_old hSz.2 hbx (blk_lt hSz.2))
        replace x2z := blk_old x2z hbx (blk_lt x2z)
        replace xbz := bnx xbz hbx
        replace ownT := own_mono ownT (base' := w.heap.size + 3) (by omega)
        clear hbx
        rw [show ([] : List En).length = 0 from rfl]
        go_wp2_with (first | (with_reducible refine stop_loadT 66 ?_) | (with_reducible refine stop_storeT 66 ?_))
        refine go_ (wpList_store_row rfl _ _ _ rfl w.heap.size (qlC ev Af 0 cf r (flB L b)) rfl rfl _ _ hSz.1 (by kernel_rfl) rfl (by kernel_rfl) ?_)
        have hz1 := setRow_heap _ _ _ (qlC ev Af 0 cf r (flB L b)) _ _ hSz.1
        have hA1 : Aw (fun k => k = w.heap.size) u2 (u2.setRow w.heap.size (qlC ev Af 0 cf r (flB L b))) := aw_setRow35 _ _
        have x2y := hA1.keep x2z (by omega)
        have hR1 : RcB _ (w.heap.size + 1) t V := hA1.keep hSz.2 (by omega)
        have xby := below_awG xbz hA1 (fun k hk => by omega) xbz.size
        have ownT2 := own_aw ownT hA1 (fun j hj hu => by have := (own_blk ownT hj).1; omega)
        generalize (u2.setRow w.heap.size (qlC ev Af 0 cf r (flB L b))) = u3 at *
        clear hA1 hSz x2z xbz ownT
        go_wp2_with (first | (with_reducible refine stop_loadT 25 ?_) | (with_reducible refine stop_storeT 25 ?_) | (with_reducible refine stop_loadG 25 ?_))
        refine go_ (wpList_load_mid rfl _ _ rfl (w.heap.size + 1) 0 rfl _ _ hR1.all Try.underlying25 rfl (by rw [rcC_size t V HV.out]; kernel_rfl) ?_)
        go_wp2_with (with_reducible refine stop_build2q ?_)
        refine go_ (wpList_buildEnQ (k := true) HV.out rfl rfl ?_)
        go_wp2_with (with_reducible refine stop_bs ?_)
        refine go_ (wpList_bs1 Try.underlying39 Hi1.out (by kernel_rfl) (by omega) (by omega) (enC_len (⟨true, t, V⟩ : En) HV.out) rfl ?_)
        have hbn : Below u3.heap.size u3 (u3.alloc (.cells (enC ⟨true, t, V⟩).toArray 46)) := (Below.refl _ _).alloc (Nat.le_refl _) _
        have hlt3 : w.heap.size + 2 < u3.heap.size := blk_lt x2y
        have ownZ : (u3.alloc (.cells (enC ⟨true, t, V⟩).toArray 46)).ownsRow (w.heap.size + 3) 46 14 (.slice (some ⟨u3.heap.size, 0, none⟩) 1 1) 1 [enC ⟨true, t, V⟩].flatten := own_litR u3 (w.heap.size + 3) _ [enC ⟨true, t, V⟩] _ (by simp) (by intro r hr; rw [List.mem_singleton.1 hr]; exact enC_len (⟨true, t, V⟩ : En) HV.out) (by simp [maxLen]) (by omega) 1 rfl
        have hSz : _ ∧ True := ⟨blk_old hz1 hbn (blk_lt hz1), trivial⟩
        have x2z := blk_old x2y hbn (blk_lt x2y)
        have xbz := bnx xby hbn
        have ownT := own_up ownT2 hbn (Nat.le_refl _)
        clear hbn hz1 x2y xby ownT2 hR1
        generalize (u3.alloc (.cells (enC ⟨true, t, V⟩).toArray 46)) = u4 at *
        generalize u3.heap.size = gz at *
        have s1 : u4.cell? ⟨w.heap.size, 1, none⟩ = some (.slice Af 0 cf) := blk_cell (i := 1) hSz.1 rfl
        have s2 : u4.frozen? ⟨w.heap.size, 1, none⟩ = false := blk_free (i := 1) hSz.1
        have hk1 := blk_set (i := 1) hSz.1 (.slice (some ⟨gz, 0, none⟩) 1 1)
        have s3 : (u4.setCell ⟨w.heap.size, 1, none⟩ (.slice (some ⟨gz, 0, none⟩) 1 1)).cell? ⟨w.heap.size, 2, none⟩ = some (.int .i64 (r : Int)) := blk_cell (i := 2) hk1 rfl
        have s4 : (u4.setCell ⟨w.heap.size, 1, none⟩ (.slice (some ⟨gz, 0, none⟩) 1 1)).frozen? ⟨w.heap.size, 2, none⟩ = false := blk_free (i := 2) hk1
        have hk2 := blk_set (i := 2) hk1 (.int .i64 ((r : Int) + 1))
        have hawg : Aw (fun k => k = w.heap.size) u4 ((u4.setCell ⟨w.heap.size, 1, none⟩ (.slice (some ⟨gz, 0, none⟩) 1 1)).setCell ⟨w.heap.size, 2, none⟩ (.int .i64 ((r : Int) + 1))) := ((Aw.refl (fun k => k = w.heap.size) u4).set (p := ⟨w.heap.size, 1, none⟩) _ rfl).set (p := ⟨w.heap.size, 2, none⟩) _ rfl
        have x24 := hawg.keep x2z (by omega)
        have xb4 := below_awG xbz hawg (fun k hk => by omega) xbz.size
        have hown4 := own_aw ownZ hawg (fun j hj hu => by have := (own_blk ownZ hj).1; omega)
        have hown5 := own_aw ownT hawg (fun j hj hu => by have := (own_blk ownT hj).1; omega)
        clear hawg ownZ ownT x2z xbz hk1 hSz
        go_wp2_with (with_reducible refine stop_loadT 66 ?_)
        clear s1 s2 s3 s4
        generalize ((u4.setCell ⟨w.heap.size, 1, none⟩ (.slice (some ⟨gz, 0, none⟩) 1 1)).setCell ⟨w.heap.size, 2, none⟩ (.int .i64 ((r : Int) + 1))) = y4 at *
        replace hk2 : y4.heap[w.heap.size]? = some (.cells (qlC ev (some ⟨gz, 0, none⟩) (1) 1 (r + 1) (flB L b)) 66) := hk2
        refine go_ (wpList_load_row rfl _ _ rfl w.heap.size rfl _ _ _ _ hk2 Try.underlying66 rfl (by kernel_rfl) ?_)
        go_wp2_with (first | (with_reducible refine stop_loadT 66 ?_) | (with_reducible refine stop_storeT 66 ?_))
        refine go_ (wpList_store_row rfl _ _ _ rfl (w.heap.size + 2) (qlC ev (some ⟨gz, 0, none⟩) (1) 1 (r + 1) (flB L b)) rfl rfl _ _ x24 (by kernel_rfl) rfl (by kernel_rfl) ?_)
        have hz := setRow_heap _ _ _ (qlC ev (some ⟨gz, 0, none⟩) (1) 1 (r + 1) (flB L b)) _ _ x24
        have hbz := below_setRow xb4 (by omega) (qlC ev (some ⟨gz, 0, none⟩) (1) 1 (r + 1) (flB L b)) (g := w.heap.size + 2)
        have own6 := own_aw hown4 (aw_setRow35 (w.heap.size + 2) (qlC ev (some ⟨gz, 0, none⟩) (1) 1 (r + 1) (flB L b))) (fun j hj hu => by have := (own_blk hown4 hj).1; omega)
        have own7 := own_aw hown5 (aw_setRow35 (w.heap.size + 2) (qlC ev (some ⟨gz, 0, none⟩) (1) 1 (r + 1) (flB L b))) (fun j hj hu => by have := (own_blk hown5 hj).1; omega)
        generalize (y4.setRow (w.heap.size + 2) (qlC ev (some ⟨gz, 0, none⟩) (1) 1 (r + 1) (flB L b))) = y5 at *
        go_wp2
        exact bodyPost_ret (results_cell2 (fn := Try.f51) Try.results51 _ _ (w.heap.size + 2) _ _ _ _ rfl hz Try.underlying66 rfl (by kernel_rfl)) rfl (by
          rw [Q1.out, Q2.out, Q3.out]
          exact ⟨some ⟨gz, 0, none⟩, 1, At, nt, ct, rfl, RdR.own (ls := [(⟨true, t, V⟩ : En)].map enC) own6 rfl (fun r hr => by obtain ⟨x, hx, rfl⟩ := List.mem_map.1 hr; rw [List.mem_singleton.1 hx]; exact enC_len (⟨true, t, V⟩ : En) HV.out), own_mono own7 (by omega), hbz, fun _ j hj => by have := (own_blk own6 hj).1; omega⟩)
      · have hF' : ¬ (248 : Int) < ((entB (L ++ [X])).length : Int) := by omega
        obtain ⟨q1, q2, q3⟩ := HRoom.out hF
        have Q1 := Lib.hid q1
        have Q2 := Lib.hid q2
        have Q3 := Lib.hid q3
        have ownT : u1.ownsRow (w.heap.size + 3) 5 1 (.slice none 0 0) 0 (bv []) := World.ownsRow_nil _ _ _ _
        clear q1 q2 q3 hF
        have s1 : u1.cell? ⟨w.heap.size, 1, none⟩ = some (.slice A 0 c) := blk_cell (i := 1) hSz.1 rfl
        have s2 : u1.frozen? ⟨w.heap.size, 1, none⟩ = false := blk_free (i := 1) hSz.1
        have hk1 := blk_set (i := 1) hSz.1 (.slice A6 (0 + 1) c6)
        have s3 : (u1.setCell ⟨w.heap.size, 1, none⟩ (.slice A6 (0 + 1) c6)).cell? ⟨w.heap.size, 2, none⟩ = some (.int .i64 (r : Int)) := blk_cell (i := 2) hk1 rfl
        have s4 : (u1.setCell ⟨w.heap.size, 1, none⟩ (.slice A6 (0 + 1) c6)).frozen? ⟨w.heap.size, 2, none⟩ = false := blk_free (i := 2) hk1
        have hk2 := blk_set (i := 2) hk1 (.int .i64 ((r : Int) + 1))
        have hawg : Aw (fun k => k = w.heap.size) u1 ((u1.setCell ⟨w.heap.size, 1, none⟩ (.slice A6 (0 + 1) c6)).setCell ⟨w.heap.size, 2, none⟩ (.int .i64 ((r : Int) + 1))) := ((Aw.refl (fun k => k = w.heap.size) u1).set (p := ⟨w.heap.size, 1, none⟩) _ rfl).set (p := ⟨w.heap.size, 2, none⟩) _ rfl
        have x24 := hawg.keep x2z (by omega)
        have xb4 := below_awG xbz hawg (fun k hk => by omega) xbz.size
        have hown4 := own_aw ownZ hawg (fun j hj hu => by have := (own_blk ownZ hj).1; omega)
        have hown5 := own_aw ownT hawg (fun j hj hu => by have := (own_blk ownT hj).1; omega)
        clear hawg ownZ ownT x2z xbz hk1 hSz
        go_wp2_with (with_reducible refine stop_loadT 66 ?_)
        clear s1 s2 s3 s4
        generalize ((u1.setCell ⟨w.heap.size, 1, none⟩ (.slice A6 (0 + 1) c6)).setCell ⟨w.heap.size, 2, none⟩ (.int .i64 ((r : Int) + 1))) = y4 at *
        replace hk2 : y4.heap[w.heap.size]? = some (.cells (qlC ev A6 ((0 + 1)) c6 (r + 1) b) 66) := hk2
        refine go_ (wpList_load_row rfl _ _ rfl w.heap.size rfl _ _ _ _ hk2 Try.underlying66 rfl (by kernel_rfl) ?_)
        go_wp2_with (first | (with_reducible refine stop_loadT 66 ?_) | (with_reducible refine stop_storeT 66 ?_))
        refine go_ (wpList_store_row rfl _ _ _ rfl (w.heap.size + 2) (qlC ev A6 ((0 + 1)) c6 (r + 1) b) rfl rfl _ _ x24 (by kernel_rfl) rfl (by kernel_rfl) ?_)
        have hz := setRow_heap _ _ _ (qlC ev A6 ((0 + 1)) c6 (r + 1) b) _ _ x24
        have hbz := below_setRow xb4 (by omega) (qlC ev A6 ((0 + 1)) c6 (r + 1) b) (g := w.heap.size + 2)
        have own6 := own_aw hown4 (aw_setRow35 (w.heap.size + 2) (qlC ev A6 ((0 + 1)) c6 (r + 1) b)) (fun j hj hu => by have := (own_blk hown4 hj).1; omega)
        have own7 := own_aw hown5 (aw_setRow35 (w.heap.size + 2) (qlC ev A6 ((0 + 1)) c6 (r + 1) b)) (fun j hj hu => by have := (own_blk hown5 hj).1; omega)
        generalize (y4.setRow (w.heap.size + 2) (qlC ev A6 ((0 + 1)) c6 (r + 1) b)) = y5 at *
        go_wp2
        exact bodyPost_ret (results_cell2 (fn := Try.f51) Try.results51 _ _ (w.heap.size + 2) _ _ _ _ rfl hz Try.underlying66 rfl (by kernel_rfl)) rfl (by
          rw [Q1.out, Q2.out, Q3.out]
          exact ⟨A6, c6, none, 0, 0, by rw [List.length_append, Hn.out]; rfl, by rw [List.length_append, Hn.out]; exact RdR.own (ls := (L ++ [X]).map enC) own6 (by first | (rw [List.length_map, List.length_append, Hn.out]; done) | (rw [List.length_map, List.length_append, Hn.out]; rfl)) HrA.out, World.ownsRow_nil _ _ _ _, hbz, fun _ j hj => by have := (own_blk own6 (ownb_any hj)).1; omega⟩)

  · have hpos : 0 < n := by rw [← hn]; exact List.length_pos_iff.2 hL
    have hn0 : ((n : Int) == 0) = false := by simp; omega
    have hrm : IntKind.i64.wrap ((r : Int).tmod (ev : Int)) = ((r % ev : Nat) : Int) := by
      rw [Int.tmod_eq_emod_of_nonneg (by omega), ← Int.natCast_emod, IntWalk.i64_in _ (by have := Nat.mod_lt r (show 0 < ev by omega); omega)]
    have hrm2 : (r : Int).tmod (ev : Int) = ((r % ev : Nat) : Int) := by
      rw [Int.tmod_eq_emod_of_nonneg (by omega), ← Int.natCast_emod]
    have hev0 : ¬ (ev : Int) = 0 := by omega
    have hevn : ¬ ev = 0 := by omega
    have hx : X = ⟨((((r % ev : Nat) : Int)) == 0), t, V⟩ := by
      rw [hX]
      unfold adX adK
      rw [show (L.length == 0) = false by simp; exact hL, Bool.false_or]
      congr 1
      rw [Bool.eq_iff_iff]
      simp
      omega
    obtain ⟨q, hq⟩ : ∃ q, q = r % ev := ⟨_, rfl⟩
    rw [← hq] at hrm hrm2 hx
    have Hx := Lib.hid hx
    clear hq hX hn hL hx
    go_enter Try.func51, Try.ntmps51
    go_wp2_with fail
    (try rw [show w.heap.size + 1 + 1 = w.heap.size + 2 by omega])
    generalize (((w.alloc (.cells (qlC ev A n c r b) 66)).alloc (.cells (rcC t V).toArray 25)).alloc (.cells #[.int .i64 0, .slice none 0 0, .int .i64 0, .int .i64 0] 66)) = w1 at *
    replace x1 : RcB w1 (w.heap.size + 1) t V := x1
    refine Ord.region_ (fun w' => w'.heap[w.heap.size]? = some (.cells (qlC ev A n c r b) 66) ∧ RcB w' (w.heap.size + 1) t V) false [] (by kernel_rfl) (by kernel_rfl) ⟨x0, x1⟩ ?_
    have hS : w1.drew.heap[w.heap.size]? = some (.cells (qlC ev A n c r b) 66) ∧ RcB w1.drew (w.heap.size + 1) t V := ⟨x0, x1⟩
    replace x2 : w1.drew.heap[w.heap.size + 2]? = _ := x2
    replace xb := xb.drew
    have hsz2 : w.heap.size + 3 ≤ w1.drew.heap.size := Nat.le_of_eq xs.symm
    generalize w1.drew = w2 at *
    clear x0 x1 xs
    ((with_reducible refine Ord.e_p (v := ?_) ?_ ?_ ?_ ?_); rotate_left; (· exact rfl); (· kernel_rfl); (· intro w2; go_simp; try with_reducible rfl))
    (try simp only [Act.put, List.setIfInBounds_toArray, List.set_cons_zero, List.set_cons_succ])
    refine Ord.e_loadS Try.underlying39 rfl (fun w' hS => blk_cell (i := 1) (v := .slice A n c) (show _ ∧ RcB w' (w.heap.size + 1) t V from hS).1 rfl) hS rfl (by kernel_rfl) ?_
    (try simp only [Act.put, List.setIfInBounds_toArray, List.set_cons_zero, List.set_cons_succ])
    ((with_reducible refine Ord.e_p (v := ?_) ?_ ?_ ?_ ?_); rotate_left; (· exact rfl); (· kernel_rfl); (· intro w2; go_simp; try with_reducible rfl))
    (try simp only [Act.put, List.setIfInBounds_toArray, List.set_cons_zero, List.set_cons_succ])
    ((with_reducible refine Ord.e_p (v := ?_) ?_ ?_ ?_ ?_); rotate_left; (· exact rfl); (· kernel_rfl); (· intro w2; go_simp; try with_reducible rfl))
    (try simp only [Act.put, List.setIfInBounds_toArray, List.set_cons_zero, List.set_cons_succ])
    ((with_reducible refine Ord.e_p (v := ?_) ?_ ?_ ?_ ?_); rotate_left; (· exact rfl); (· kernel_rfl); (· intro w2; go_simp; try with_reducible rfl))
    (try simp only [Act.put, List.setIfInBounds_toArray, List.set_cons_zero, List.set_cons_succ])
    ((with_reducible refine Ord.e_p (v := ?_) ?_ ?_ ?_ ?_); rotate_left; (· exact rfl); (· kernel_rfl); (· intro w2; go_simp; try with_reducible rfl))
    (try simp only [Act.put, List.setIfInBounds_toArray, List.set_cons_zero, List.set_cons_succ])
    refine Ord.e_loadS Try.underlying3 rfl (fun w' hS => blk_cell (i := 2) (v := .int .i64 (r : Int)) (show _ ∧ RcB w' (w.heap.size + 1) t V from hS).1 rfl) hS rfl (by kernel_rfl) ?_
    (try simp only [Act.put, List.setIfInBounds_toArray, List.set_cons_zero, List.set_cons_succ])
    ((with_reducible refine Ord.e_p (v := ?_) ?_ ?_ ?_ ?_); rotate_left; (· exact rfl); (· kernel_rfl); (· intro w2; go_simp; try with_reducible rfl))
    (try simp only [Act.put, List.setIfInBounds_toArray, List.set_cons_zero, List.set_cons_succ])
    refine Ord.e_loadS Try.underlying3 rfl (fun w' hS => blk_cell (i := 0) (v := .int .i64 (ev : Int)) (show _ ∧ RcB w' (w.heap.size + 1) t V from hS).1 rfl) hS rfl (by kernel_rfl) ?_
    (try simp only [Act.put, List.setIfInBounds_toArray, List.set_cons_zero, List.set_cons_succ])
    ((with_reducible refine Ord.e_p (v := ?_) ?_ ?_ ?_ ?_); rotate_left; (· exact rfl); (· kernel_rfl); (· intro w2; go_simp; try with_reducible rfl))
    (try simp only [Act.put, List.setIfInBounds_toArray, List.set_cons_zero, List.set_cons_succ])
    ((with_reducible refine Ord.e_p (v := ?_) ?_ ?_ ?_ ?_); rotate_left; (· exact rfl); (· kernel_rfl); (· intro w2; go_simp; try with_reducible rfl))
    (try simp only [Act.put, List.setIfInBounds_toArray, List.set_cons_zero, List.set_cons_succ])
    ((with_reducible refine Ord.e_p (v := ?_) ?_ ?_ ?_ ?_); rotate_left; (· exact rfl); (· kernel_rfl); (· intro w2; go_simp; try with_reducible rfl))
    (try simp only [Act.put, List.setIfInBounds_toArray, List.set_cons_zero, List.set_cons_succ])
    refine Ord.e_rowS (b := w.heap.size + 1) (o := 0) Try.underlying25 rfl (by rw [rcC_size t V HV.out]; kernel_rfl) rfl (by unfold rcC; simp) (fun w' hS => (show _ ∧ RcB w' (w.heap.size + 1) t V from hS).2.all) hS (by kernel_rfl) ?_
    (try simp only [Act.put, List.setIfInBounds_toArray, List.set_cons_zero, List.set_cons_succ])
    refine Ord.e_p (v := .agg (enC ⟨((q : Int) == 0), t, V⟩).toArray) rfl (by kernel_rfl) (fun w2 => exec_buildEn (k := ((q : Int) == 0)) HV.out rfl rfl w2) ?_
    (try simp only [Act.put, List.setIfInBounds_toArray, List.set_cons_zero, List.set_cons_succ])
    refine Ord.e_x rfl (by kernel_rfl) ?_
    go_wp2_with fail
    have hbx : Below w2.heap.size w2 (w2.alloc (.cells #[.bool false, .int .u32 0, .int .i32 0, .int .i32 0, .int .i32 0, .int .i32 0, .int .i32 0, .int .i32 0, .int .i32 0, .int .i32 0, .int .i32 0, .int .i32 0, .int .i32 0, .int .i32 0] 46)) := (Below.refl _ _).alloc (Nat.le_refl _) _
    have x6 := heap_alloc_new w2 (.cells #[.bool false, .int .u32 0, .int .i32 0, .int .i32 0, .int .i32 0, .int .i32 0, .int .i32 0, .int .i32 0, .int .i32 0, .int .i32 0, .int .i32 0, .int .i32 0, .int .i32 0, .int .i32 0] 46)
    have hlt6 : w.heap.size + 2 < w2.heap.size := by omega
    replace x2 := blk_old x2 hbx hlt6
    replace hS := And.intro (blk_old hS.1 hbx (blk_lt hS.1)) (show RcB _ (w.heap.size + 1) t V from blk_old hS.2 hbx (blk_lt hS.2))
    replace xb := bnx xb hbx
    refine Ord.Seg.go hS (fun h => by cases h) ?_
    (try simp only [Act.put, List.setIfInBounds_toArray, List.set_cons_zero, List.set_cons_succ])
    generalize (w2.alloc (.cells #[.bool false, .int .u32 0, .int .i32 0, .int .i32 0, .int .i32 0, .int .i32 0, .int .i32 0, .int .i32 0, .int .i32 0, .int .i32 0, .int .i32 0, .int .i32 0, .int .i32 0, .int .i32 0] 46)) = w3 at *
    generalize w2.heap.size = g6 at *
    replace x6 : EnB w3 g6 zen := x6
    clear hbx
    refine Ord.e_x rfl (by kernel_rfl) ?_
    refine wpList_store_row rfl _ _ _ rfl g6 (enC ⟨((q : Int) == 0), t, V⟩).toArray rfl rfl _ _ x6 (by rw [List.size_toArray, enC_len _ HV.out]; kernel_rfl) (by rw [List.size_toArray, List.size_toArray, enC_len (⟨((q : Int) == 0), t, V⟩ : En) HV.out]; rfl) (all_oneCell_toArray (enC_one _)) ?_
    obtain ⟨y6, hAz⟩ := en_store ⟨((q : Int) == 0), t, V⟩ HV.out w3 g6 x6
    have x2z := hAz.keep x2 (by omega)
    have hSz := And.intro (hAz.keep hS.1 (by omega)) (show RcB _ (w.heap.size + 1) t V from hAz.keep hS.2 (by omega))
    have xbz := below_awG xb hAz (fun k hk => by omega) xb.size
    generalize (w3.setRow g6 (enC ⟨((q : Int) == 0), t, V⟩).toArray) = w4 at *
    clear hAz x6 x2 hS xb
    go_wp2_with fail
    refine Ord.Seg.go hSz (fun h => by cases h) ?_
    (try simp only [Act.put, List.setIfInBounds_toArray, List.set_cons_zero, List.set_cons_succ])
    refine Ord.e_nil ?_
    rw [← Hx.out] at y6
    have hlr4 : w.heap.size + 2 < w4.heap.size := blk_lt x2z
    have k1 : w4.cell? ⟨w.heap.size, 1, none⟩ = some (.slice A n c) := blk_cell (i := 1) hSz.1 rfl
    have hlt0 : w.heap.size < w4.heap.size := blk_lt hSz.1
    have HhL : Hid (∀ w', Below w4.heap.size w4 w' → RdE w' B A n c L) := Lib.hid (fun w' hb' => RdR.up h ((bnx xbz hb').mono hB))
    clear h
    go_wp2_with fail
    refine Ord.region_m [0, 3, 5, 6] [[0, 1, 2, 3, 4, 5, 6, 7], [0, 1, 2, 4, 5, 3, 6, 7], [4, 5, 0, 1, 2, 3, 6, 7]] (fun w' => Below w4.heap.size w4 w') false [] (by kernel_rfl) (by kernel_rfl) ((Below.refl _ _).drew) ?_
    have hT : Below w4.heap.size w4 w4.drew := (Below.refl _ _).drew
    generalize w4.drew = v0 at *
    intro LL hLL
    simp only [List.mem_cons, List.not_mem_nil, or_false] at hLL
    rcases hLL with rfl | rfl | rfl
    · simp only [Ord.lst, List.filterMap_cons, List.filterMap_nil, List.getElem?_toArray, List.getElem?_cons_succ, List.getElem?_cons_zero]
      refine Ord.e_x rfl (by kernel_rfl) ?_
      go_wp2_with fail
      have ownA : (v0.alloc (.cells #[] 46)).ownsRow w4.heap.size 46 14 (.slice (some ⟨v0.heap.size, 0, none⟩) 0 0) 0 [] := own_empty v0 _ _ hT.size 14
      have hbx : Below v0.heap.size v0 (v0.alloc (.cells #[] 46)) := (Below.refl _ _).alloc (Nat.le_refl _) _
      replace hT := bnx hT hbx
      refine Ord.Seg.go hT (fun h => by cases h) ?_
      (try simp only [Act.put, List.setIfInBounds_toArray, List.set_cons_zero, List.set_cons_succ])
      generalize (v0.alloc (.cells #[] 46)) = v1 at *
      generalize v0.heap.size = gb at *
      clear hbx
      have hgb : gb < v1.heap.size := (own_blk ownA rfl).2
      ((with_reducible refine Ord.e_p (v := ?_) ?_ ?_ ?_ ?_); rotate_left; (· exact rfl); (· kernel_rfl); (· intro w2; go_simp; try with_reducible rfl))
      (try simp only [Act.put, List.setIfInBounds_toArray, List.set_cons_zero, List.set_cons_succ])
      refine Ord.e_loadS Try.underlying39 rfl (fun w' hS => ((show Below _ w4 w' from hS).cell (p := ⟨w.heap.size, 1, none⟩) hlt0).trans k1) hT rfl (by kernel_rfl) ?_
      (try simp only [Act.put, List.setIfInBounds_toArray, List.set_cons_zero, List.set_cons_succ])
      refine Ord.e_x rfl (by kernel_rfl) ?_
      refine wpList_appG (base := w4.heap.size) (n := 0) Try.underlying39 Hi1.out (by kernel_rfl) (by omega) ownA rfl (RdR.rd (HhL.out _ hT) (by omega)) rfl HeL.out (k := n) (ys := (L.map enC).flatten) (Nat.zero_add _) (List.nil_append _) (by unfold maxLen; omega) (by omega) hT.size ?_
      intro A5 c5 v2 ownB hgr hob
      replace hT := Below.grown hT hgr hT.size (fun j hj => (own_blk ownA hj).1)
      clear hgr hob ownA
      go_wp2_with fail
      refine Ord.Seg.go hT (fun h => by cases h) ?_
      (try simp only [Act.put, List.setIfInBounds_toArray, List.set_cons_zero, List.set_cons_succ])
      refine Ord.e_rowS (b := g6) (o := 0) Try.underlying46 rfl (by rw [enC_len X HX.out]; kernel_rfl) rfl (by unfold enC; simp) (fun w' hS => (show EnB w' g6 X from blk_old y6 (show Below _ w4 w' from hS) (blk_lt y6)).all) hT (by kernel_rfl) ?_
      (try simp only [Act.put, List.setIfInBounds_toArray, List.set_cons_zero, List.set_cons_succ])
      refine Ord.e_x rfl (by kernel_rfl) ?_
      refine wpList_bs1 Try.underlying39 Hi1.out (by kernel_rfl) (by omega) (by omega) (enC_len X HX.out) rfl ?_
      have hbx : Below v2.heap.size v2 (v2.alloc (.cells (enC X).toArray 46)) := (Below.refl _ _).alloc (Nat.le_refl _) _
      have hrd : Rd (v2.alloc (.cells (enC X).toArray 46)) (v2.heap.size + 1) 14 (some ⟨v2.heap.size, 0, none⟩) 1 1 (enC X) := rd_one35 v2 X HX.out
      replace ownB := own_up ownB hbx (Nat.le_refl _)
      have hgl : w4.heap.size ≤ v2.heap.size := hT.size
      replace hT := bnx hT hbx
      go_wp2_with fail
      refine Ord.Seg.go hT (fun h => by cases h) ?_
      (try simp only [Act.put, List.setIfInBounds_toArray, List.set_cons_zero, List.set_cons_succ])
      have hgc : v2.heap.size < (v2.alloc (.cells (enC X).toArray 46)).heap.size := by simp
      clear hbx
      generalize (v2.alloc (.cells (enC X).toArray 46)) = v3 at *
      generalize v2.heap.size = gc at *
      refine Ord.e_x rfl (by kernel_rfl) ?_
      refine wpList_appG (base := w4.heap.size) (n := n) Try.underlying39 Hi1.out (by kernel_rfl) (by omega) ownB rfl hrd rfl (enC_one X) (k := n + 1) (ys := ((L ++ [X]).map enC).flatten) rfl (by simp) (by unfold maxLen; omega) (by omega) hT.size ?_
      intro A6 c6 v4 ownC hgr hob
      replace hT := Below.grown hT hgr hT.size (fun j hj => (own_blk ownB hj).1)
      clear hgr hob ownB hrd
      go_wp2_with fail
      refine Ord.Seg.go hT (fun h => by cases h) ?_
      (try simp only [Act.put, List.setIfInBounds_toArray, List.set_cons_zero, List.set_cons_succ])
      ((with_reducible refine Ord.e_p (v := ?_) ?_ ?_ ?_ ?_); rotate_left; (· exact rfl); (· kernel_rfl); (· intro w2; go_simp; try with_reducible rfl))
      (try simp only [Act.put, List.setIfInBounds_toArray, List.set_cons_zero, List.set_cons_succ])
      refine Ord.e_nil ?_
      generalize v4 = u0 at *
      replace hSz := And.intro (blk_old hSz.1 hT (blk_lt hSz.1)) (show RcB u0 (w.heap.size + 1) t V from blk_old hSz.2 hT (blk_lt hSz.2))
      replace x2z := blk_old x2z hT (blk_lt x2z)
      replace xbz := bnx xbz hT
      have hrA : RdE u0 u0.heap.size A6 (n + 1) c6 (L ++ [X]) := RdR.own (ls := (L ++ [X]).map enC) ownC (by rw [List.length_map, List.length_append, Hn.out]; rfl) HrA.out
      have hlr2 : w.heap.size + 2 < w4.heap.size := hlr4
      clear hT k1 y6
      go_wp2_with fail
      go_fit (qbsize_any A6 (n + 1) c6 u0.heap.size (L ++ [X]) u0 hrA (Nat.le_refl _) HqX.out (by omega))
      rintro e u1 ⟨rfl, hbx⟩
      replace hSz := And.intro (blk_old hSz.1 hbx (blk_lt hSz.1)) (show RcB u1 (w.heap.size + 1) t V from blk_old hSz.2 hbx (blk_lt hSz.2))
      replace x2z := blk_old x2z hbx (blk_lt x2z)
      replace xbz := bnx xbz hbx
      have ownZ := own_up ownC hbx (Nat.le_refl _)
      clear hbx hrA ownC
      by_cases hF : 248 < (entB (L ++ [X])).length
      · have hF' : (248 : Int) < ((entB (L ++ [X])).length : Int) := by omega
        obtain ⟨q1, q2, q3⟩ := HFull.out hF
        have Q1 := Lib.hid q1
        have Q2 := Lib.hid q2
        have Q3 := Lib.hid q3
        clear q1 q2 q3 hF ownZ
        go_wp2_with (first | (with_reducible refine stop_loadT 66 ?_) | (with_reducible refine stop_storeT 66 ?_))
        refine go_ (wpList_load_row rfl _ _ rfl w.heap.size rfl _ _ _ _ hSz.1 Try.underlying66 rfl (by kernel_rfl) ?_)
        go_wp2_with fail
        go_fit (Hfl.out u1 (RdR.up Hh.out (xbz.mono hB)) (Nat.le_trans hB xbz.size))
        rintro e u2 ⟨Af, cf, At, nt, ct, rfl, _, ownT, hbx, _⟩
        have hsz1 : w.heap.size + 2 < u1.heap.size := blk_lt x2z
        replace hSz := And.intro (blk_old hSz.1 hbx (blk_lt hSz.1)) (show RcB u2 (w.heap.size + 1) t V from blk_old hSz.2 hbx (blk_lt hSz.2))
        replace x2z := blk_old x2z hbx (blk_lt x2z)
        replace xbz := bnx xbz hbx
        replace ownT := own_mono ownT (base' := w.heap.size + 3) (by omega)
        clear hbx
        rw [show ([] : List En).length = 0 from rfl]
        go_wp2_with (first | (with_reducible refine stop_loadT 66 ?_) | (with_reducible refine stop_storeT 66 ?_))
        refine go_ (wpList_store_row rfl _ _ _ rfl w.heap.size (qlC ev Af 0 cf r (flB L b)) rfl rfl _ _ hSz.1 (by kernel_rfl) rfl (by kernel_rfl) ?_)
        have hz1 := setRow_heap _ _ _ (qlC ev Af 0 cf r (flB L b)) _ _ hSz.1
        have hA1 : Aw (fun k => k = w.heap.size) u2 (u2.setRow w.heap.size (qlC ev Af 0 cf r (flB L b))) := aw_setRow35 _ _
        have x2y := hA1.keep x2z (by omega)
        have hR1 : RcB _ (w.heap.size + 1) t V := hA1.keep hSz.2 (by omega)
        have xby := below_awG xbz hA1 (fun k hk => by omega) xbz.size
        have ownT2 := own_aw ownT hA1 (fun j hj hu => by have := (own_blk ownT hj).1; omega)
        generalize (u2.setRow w.heap.size (qlC ev Af 0 cf r (flB L b))) = u3 at *
        clear hA1 hSz x2z xbz ownT
        go_wp2_with (first | (with_reducible refine stop_loadT 25 ?_) | (with_reducible refine stop_storeT 25 ?_) | (with_reducible refine stop_loadG 25 ?_))
        refine go_ (wpList_load_mid rfl _ _ rfl (w.heap.size + 1) 0 rfl _ _ hR1.all Try.underlying25 rfl (by rw [rcC_size t V HV.out]; kernel_rfl) ?_)
        go_wp2_with (with_reducible refine stop_build2q ?_)
        refine go_ (wpList_buildEnQ (k := true) HV.out rfl rfl ?_)
        go_wp2_with (with_reducible refine stop_bs ?_)
        refine go_ (wpList_bs1 Try.underlying39 Hi1.out (by kernel_rfl) (by omega) (by omega) (enC_len (⟨true, t, V⟩ : En) HV.out) rfl ?_)
        have hbn : Below u3.heap.size u3 (u3.alloc (.cells (enC ⟨true, t, V⟩).toArray 46)) := (Below.refl _ _).alloc (Nat.le_refl _) _
        have hlt3 : w.heap.size + 2 < u3.heap.size := blk_lt x2y
        have ownZ : (u3.alloc (.cells (enC ⟨true, t, V⟩).toArray 46)).ownsRow (w.heap.size + 3) 46 14 (.slice (some ⟨u3.heap.size, 0, none⟩) 1 1) 1 [enC ⟨true, t, V⟩].flatten := own_litR u3 (w.heap.size + 3) _ [enC ⟨true, t, V⟩] _ (by simp) (by intro r hr; rw [List.mem_singleton.1 hr]; exact enC_len (⟨true, t, V⟩ : En) HV.out) (by simp [maxLen]) (by omega) 1 rfl
        have hSz : _ ∧ True := ⟨blk_old hz1 hbn (blk_lt hz1), trivial⟩
        have x2z := blk_old x2y hbn (blk_lt x2y)
        have xbz := bnx xby hbn
        have ownT := own_up ownT2 hbn (Nat.le_refl _)
        clear hbn hz1 x2y xby ownT2 hR1
        generalize (u3.alloc (.cells (enC ⟨true, t, V⟩).toArray 46)) = u4 at *
        generalize u3.heap.size = gz at *
        have s1 : u4.cell? ⟨w.heap.size, 1, none⟩ = some (.slice Af 0 cf) := blk_cell (i := 1) hSz.1 rfl
        have s2 : u4.frozen? ⟨w.heap.size, 1, none⟩ = false := blk_free (i := 1) hSz.1
        have hk1 := blk_set (i := 1) hSz.1 (.slice (some ⟨gz, 0, none⟩) 1 1)
        have s3 : (u4.setCell ⟨w.heap.size, 1, none⟩ (.slice (some ⟨gz, 0, none⟩) 1 1)).cell? ⟨w.heap.size, 2, none⟩ = some (.int .i64 (r : Int)) := blk_cell (i := 2) hk1 rfl
        have s4 : (u4.setCell ⟨w.heap.size, 1, none⟩ (.slice (some ⟨gz, 0, none⟩) 1 1)).frozen? ⟨w.heap.size, 2, none⟩ = false := blk_free (i := 2) hk1
        have hk2 := blk_set (i := 2) hk1 (.int .i64 ((r : Int) + 1))
        have hawg : Aw (fun k => k = w.heap.size) u4 ((u4.setCell ⟨w.heap.size, 1, none⟩ (.slice (some ⟨gz, 0, none⟩) 1 1)).setCell ⟨w.heap.size, 2, none⟩ (.int .i64 ((r : Int) + 1))) := ((Aw.refl (fun k => k = w.heap.size) u4).set (p := ⟨w.heap.size, 1, none⟩) _ rfl).set (p := ⟨w.heap.size, 2, none⟩) _ rfl
        have x24 := hawg.keep x2z (by omega)
        have xb4 := below_awG xbz hawg (fun k hk => by omega) xbz.size
        have hown4 := own_aw ownZ hawg (fun j hj hu => by have := (own_blk ownZ hj).1; omega)
        have hown5 := own_aw ownT hawg (fun j hj hu => by have := (own_blk ownT hj).1; omega)
        clear hawg ownZ ownT x2z xbz hk1 hSz
        go_wp2_with (with_reducible refine stop_loadT 66 ?_)
        clear s1 s2 s3 s4
        generalize ((u4.setCell ⟨w.heap.size, 1, none⟩ (.slice (some ⟨gz, 0, none⟩) 1 1)).setCell ⟨w.heap.size, 2, none⟩ (.int .i64 ((r : Int) + 1))) = y4 at *
        replace hk2 : y4.heap[w.heap.size]? = some (.cells (qlC ev (some ⟨gz, 0, none⟩) (1) 1 (r + 1) (flB L b)) 66) := hk2
        refine go_ (wpList_load_row rfl _ _ rfl w.heap.size rfl _ _ _ _ hk2 Try.underlying66 rfl (by kernel_rfl) ?_)
        go_wp2_with (first | (with_reducible refine stop_loadT 66 ?_) | (with_reducible refine stop_storeT 66 ?_))
        refine go_ (wpList_store_row rfl _ _ _ rfl (w.heap.size + 2) (qlC ev (some ⟨gz, 0, none⟩) (1) 1 (r + 1) (flB L b)) rfl rfl _ _ x24 (by kernel_rfl) rfl (by kernel_rfl) ?_)
        have hz := setRow_heap _ _ _ (qlC ev (some ⟨gz, 0, none⟩) (1) 1 (r + 1) (flB L b)) _ _ x24
        have hbz := below_setRow xb4 (by omega) (qlC ev (some ⟨gz, 0, none⟩) (1) 1 (r + 1) (flB L b)) (g := w.heap.size + 2)
        have own6 := own_aw hown4 (aw_setRow35 (w.heap.size + 2) (qlC ev (some ⟨gz, 0, none⟩) (1) 1 (r + 1) (flB L b))) (fun j hj hu => by have := (own_blk hown4 hj).1; omega)
        have own7 := own_aw hown5 (aw_setRow35 (w.heap.size + 2) (qlC ev (some ⟨gz, 0, none⟩) (1) 1 (r + 1) (flB L b))) (fun j hj hu => by have := (own_blk hown5 hj).1; omega)
        generalize (y4.setRow (w.heap.size + 2) (qlC ev (some ⟨gz, 0, none⟩) (1) 1 (r + 1) (flB L b))) = y5 at *
        go_wp2
        exact bodyPost_ret (results_cell2 (fn := Try.f51) Try.results51 _ _ (w.heap.size + 2) _ _ _ _ rfl hz Try.underlying66 rfl (by kernel_rfl)) rfl (by
          rw [Q1.out, Q2.out, Q3.out]
          exact ⟨some ⟨gz, 0, none⟩, 1, At, nt, ct, rfl, RdR.own (ls := [(⟨true, t, V⟩ : En)].map enC) own6 rfl (fun r hr => by obtain ⟨x, hx, rfl⟩ := List.mem_map.1 hr; rw [List.mem_singleton.1 hx]; exact enC_len (⟨true, t, V⟩ : En) HV.out), own_mono own7 (by omega), hbz, fun _ j hj => by have := (own_blk own6 hj).1; omega⟩)
      · have hF' : ¬ (248 : Int) < ((entB (L ++ [X])).length : Int) := by omega
        obtain ⟨q1, q2, q3⟩ := HRoom.out hF
        have Q1 := Lib.hid q1
        have Q2 := Lib.hid q2
        have Q3 := Lib.hid q3
        have ownT : u1.ownsRow (w.heap.size + 3) 5 1 (.slice none 0 0) 0 (bv []) := World.ownsRow_nil _ _ _ _
        clear q1 q2 q3 hF
        have s1 : u1.cell? ⟨w.heap.size, 1, none⟩ = some (.slice A n c) := blk_cell (i := 1) hSz.1 rfl
        have s2 : u1.frozen? ⟨w.heap.size, 1, none⟩ = false := blk_free (i := 1) hSz.1
        have hk1 := blk_set (i := 1) hSz.1 (.slice A6 (n + 1) c6)
        have s3 : (u1.setCell ⟨w.heap.size, 1, none⟩ (.slice A6 (n + 1) c6)).cell? ⟨w.heap.size, 2, none⟩ = some (.int .i64 (r : Int)) := blk_cell (i := 2) hk1 rfl
        have s4 : (u1.setCell ⟨w.heap.size, 1, none⟩ (.slice A6 (n + 1) c6)).frozen? ⟨w.heap.size, 2, none⟩ = false := blk_free (i := 2) hk1
        have hk2 := blk_set (i := 2) hk1 (.int .i64 ((r : Int) + 1))
        have hawg : Aw (fun k => k = w.heap.size) u1 ((u1.setCell ⟨w.heap.size, 1, none⟩ (.slice A6 (n + 1) c6)).setCell ⟨w.heap.size, 2, none⟩ (.int .i64 ((r : Int) + 1))) := ((Aw.refl (fun k => k = w.heap.size) u1).set (p := ⟨w.heap.size, 1, none⟩) _ rfl).set (p := ⟨w.heap.size, 2, none⟩) _ rfl
        have x24 := hawg.keep x2z (by omega)
        have xb4 := below_awG xbz hawg (fun k hk => by omega) xbz.size
        have hown4 := own_aw ownZ hawg (fun j hj hu => by have := (own_blk ownZ hj).1; omega)
        have hown5 := own_aw ownT hawg (fun j hj hu => by have := (own_blk ownT hj).1; omega)
        clear hawg ownZ ownT x2z xbz hk1 hSz
        go_wp2_with (with_reducible refine stop_loadT 66 ?_)
        clear s1 s2 s3 s4
        generalize ((u1.setCell ⟨w.heap.size, 1, none⟩ (.slice A6 (n + 1) c6)).setCell ⟨w.heap.size, 2, none⟩ (.int .i64 ((r : Int) + 1))) = y4 at *
        replace hk2 : y4.heap[w.heap.size]? = some (.cells (qlC ev A6 ((n + 1)) c6 (r + 1) b) 66) := hk2
        refine go_ (wpList_load_row rfl _ _ rfl w.heap.size rfl _ _ _ _ hk2 Try.underlying66 rfl (by kernel_rfl) ?_)
        go_wp2_with (first | (with_reducible refine stop_loadT 66 ?_) | (with_reducible refine stop_storeT 66 ?_))
        refine go_ (wpList_store_row rfl _ _ _ rfl (w.heap.size + 2) (qlC ev A6 ((n + 1)) c6 (r + 1) b) rfl rfl _ _ x24 (by kernel_rfl) rfl (by kernel_rfl) ?_)
        have hz := setRow_heap _ _ _ (qlC ev A6 ((n + 1)) c6 (r + 1) b) _ _ x24
        have hbz := below_setRow xb4 (by omega) (qlC ev A6 ((n + 1)) c6 (r + 1) b) (g := w.heap.size + 2)
        have own6 := own_aw hown4 (aw_setRow35 (w.heap.size + 2) (qlC ev A6 ((n + 1)) c6 (r + 1) b)) (fun j hj hu => by have := (own_blk hown4 hj).1; omega)
        have own7 := own_aw hown5 (aw_setRow35 (w.heap.size + 2) (qlC ev A6 ((n + 1)) c6 (r + 1) b)) (fun j hj hu => by have := (own_blk hown5 hj).1; omega)
        generalize (y4.setRow (w.heap.size + 2) (qlC ev A6 ((n + 1)) c6 (r + 1) b)) = y5 at *
        go_wp2
        exact bodyPost_ret (results_cell2 (fn := Try.f51) Try.results51 _ _ (w.heap.size + 2) _ _ _ _ rfl hz Try.underlying66 rfl (by kernel_rfl)) rfl (by
          rw [Q1.out, Q2.out, Q3.out]
          exact ⟨A6, c6, none, 0, 0, by rw [List.length_append, Hn.out]; rfl, by rw [List.length_append, Hn.out]; exact RdR.own (ls := (L ++ [X]).map enC) own6 (by first | (rw [List.length_map, List.length_append, Hn.out]; done) | (rw [List.length_map, List.length_append, Hn.out]; rfl)) HrA.out, World.ownsRow_nil _ _ _ _, hbz, fun _ j hj => by have := (own_blk own6 (ownb_any hj)).1; omega⟩)
    · simp only [Ord.lst, List.filterMap_cons, List.filterMap_nil, List.getElem?_toArray, List.getElem?_cons_succ, List.getElem?_cons_zero]
      refine Ord.e_x rfl (by kernel_rfl) ?_
      go_wp2_with fail
      have ownA : (v0.alloc (.cells #[] 46)).ownsRow w4.heap.size 46 14 (.slice (some ⟨v0.heap.size, 0, none⟩) 0 0) 0 [] := own_empty v0 _ _ hT.size 14
      have hbx : Below v0.heap.size v0 (v0.alloc (.cells #[] 46)) := (Below.refl _ _).alloc (Nat.le_refl _) _
      replace hT := bnx hT hbx
      refine Ord.Seg.go hT (fun h => by cases h) ?_
      (try simp only [Act.put, List.setIfInBounds_toArray, List.set_cons_zero, List.set_cons_succ])
      generalize (v0.alloc (.cells #[] 46)) = v1 at *
      generalize v0.heap.size = gb at *
      clear hbx
      have hgb : gb < v1.heap.size := (own_blk ownA rfl).2
      ((with_reducible refine Ord.e_p (v := ?_) ?_ ?_ ?_ ?_); rotate_left; (· exact rfl); (· kernel_rfl); (· intro w2; go_simp; try with_reducible rfl))
      (try simp only [Act.put, List.setIfInBounds_toArray, List.set_cons_zero, List.set_cons_succ])
      refine Ord.e_loadS Try.underlying39 rfl (fun w' hS => ((show Below _ w4 w' from hS).cell (p := ⟨w.heap.size, 1, none⟩) hlt0).trans k1) hT rfl (by kernel_rfl) ?_
      (try simp only [Act.put, List.setIfInBounds_toArray, List.set_cons_zero, List.set_cons_succ])
      refine Ord.e_rowS (b := g6) (o := 0) Try.underlying46 rfl (by rw [enC_len X HX.out]; kernel_rfl) rfl (by unfold enC; simp) (fun w' hS => (show EnB w' g6 X from blk_old y6 (show Below _ w4 w' from hS) (blk_lt y6)).all) hT (by kernel_rfl) ?_
      (try simp only [Act.put, List.setIfInBounds_toArray, List.set_cons_zero, List.set_cons_succ])
      refine Ord.e_x rfl (by kernel_rfl) ?_
      refine wpList_bs1 Try.underlying39 Hi1.out (by kernel_rfl) (by omega) (by omega) (enC_len X HX.out) rfl ?_
      have hbx : Below v1.heap.size v1 (v1.alloc (.cells (enC X).toArray 46)) := (Below.refl _ _).alloc (Nat.le_refl _) _
      have hrd : Rd (v1.alloc (.cells (enC X).toArray 46)) (v1.heap.size + 1) 14 (some ⟨v1.heap.size, 0, none⟩) 1 1 (enC X) := rd_one35 v1 X HX.out
      replace ownA := own_up ownA hbx (Nat.le_refl _)
      replace hgb : gb < v1.heap.size := hgb
      have hgl : w4.heap.size ≤ v1.heap.size := hT.size
      replace hT := bnx hT hbx
      go_wp2_with fail
      refine Ord.Seg.go hT (fun h => by cases h) ?_
      (try simp only [Act.put, List.setIfInBounds_toArray, List.set_cons_zero, List.set_cons_succ])
      have hgc : v1.heap.size < (v1.alloc (.cells (enC X).toArray 46)).heap.size := by simp
      clear hbx
      generalize (v1.alloc (.cells (enC X).toArray 46)) = v2 at *
      generalize v1.heap.size = gc at *
      refine Ord.e_x rfl (by kernel_rfl) ?_
      refine wpList_appG (base := w4.heap.size) (n := 0) Try.underlying39 Hi1.out (by kernel_rfl) (by omega) ownA rfl (RdR.rd (HhL.out _ hT) (by omega)) rfl HeL.out (k := n) (ys := (L.map enC).flatten) (Nat.zero_add _) (List.nil_append _) (by unfold maxLen; omega) (by omega) hT.size ?_
      intro A5 c5 v3 ownB hgr hob
      replace hrd := rd_grown35 hrd hgr (by omega) (fun h2 => by
        have h3 : some gb = some gc := h2
        injection h3 with h3
        omega)
      replace hT := Below.grown hT hgr hT.size (fun j hj => (own_blk ownA hj).1)
      clear hgr hob ownA
      go_wp2_with fail
      refine Ord.Seg.go hT (fun h => by cases h) ?_
      (try simp only [Act.put, List.setIfInBounds_toArray, List.set_cons_zero, List.set_cons_succ])
      refine Ord.e_x rfl (by kernel_rfl) ?_
      refine wpList_appG (base := w4.heap.size) (n := n) Try.underlying39 Hi1.out (by kernel_rfl) (by omega) ownB rfl hrd rfl (enC_one X) (k := n + 1) (ys := ((L ++ [X]).map enC).flatten) rfl (by simp) (by unfold maxLen; omega) (by omega) hT.size ?_
      intro A6 c6 v4 ownC hgr hob
      replace hT := Below.grown hT hgr hT.size (fun j hj => (own_blk ownB hj).1)
      clear hgr hob ownB hrd
      go_wp2_with fail
      refine Ord.Seg.go hT (fun h => by cases h) ?_
      (try simp only [Act.put, List.setIfInBounds_toArray, List.set_cons_zero, List.set_cons_succ])
      ((with_reducible refine Ord.e_p (v := ?_) ?_ ?_ ?_ ?_); rotate_left; (· exact rfl); (· kernel_rfl); (· intro w2; go_simp; try with_reducible rfl))
      (try simp only [Act.put, List.setIfInBounds_toArray, List.set_cons_zero, List.set_cons_succ])
      refine Ord.e_nil ?_
      generalize v4 = u0 at *
      replace hSz := And.intro (blk_old hSz.1 hT (blk_lt hSz.1)) (show RcB u0 (w.heap.size + 1) t V from blk_old hSz.2 hT (blk_lt hSz.2))
      replace x2z := blk_old x2z hT (blk_lt x2z)
      replace xbz := bnx xbz hT
      have hrA : RdE u0 u0.heap.size A6 (n + 1) c6 (L ++ [X]) := RdR.own (ls := (L ++ [X]).map enC) ownC (by rw [List.length_map, List.length_append, Hn.out]; rfl) HrA.out
      have hlr2 : w.heap.size + 2 < w4.heap.size := hlr4
      clear hT k1 y6
      go_wp2_with fail
      go_fit (qbsize_any A6 (n + 1) c6 u0.heap.size (L ++ [X]) u0 hrA (Nat.le_refl _) HqX.out (by omega))
      rintro e u1 ⟨rfl, hbx⟩
      replace hSz := And.intro (blk_old hSz.1 hbx (blk_lt hSz.1)) (show RcB u1 (w.heap.size + 1) t V from blk_old hSz.2 hbx (blk_lt hSz.2))
      replace x2z := blk_old x2z hbx (blk_lt x2z)
      replace xbz := bnx xbz hbx
      have ownZ := own_up ownC hbx (Nat.le_refl _)
      clear hbx hrA ownC
      by_cases hF : 248 < (entB (L ++ [X])).length
      · have hF' : (248 : Int) < ((entB (L ++ [X])).length : Int) := by omega
        obtain ⟨q1, q2, q3⟩ := HFull.out hF
        have Q1 := Lib.hid q1
        have Q2 := Lib.hid q2
        have Q3 := Lib.hid q3
        clear q1 q2 q3 hF ownZ
        go_wp2_with (first | (with_reducible refine stop_loadT 66 ?_) | (with_reducible refine stop_storeT 66 ?_))
        refine go_ (wpList_load_row rfl _ _ rfl w.heap.size rfl _ _ _ _ hSz.1 Try.underlying66 rfl (by kernel_rfl) ?_)
        go_wp2_with fail
        go_fit (Hfl.out u1 (RdR.up Hh.out (xbz.mono hB)) (Nat.le_trans hB xbz.size))
        rintro e u2 ⟨Af, cf, At, nt, ct, rfl, _, ownT, hbx, _⟩
        have hsz1 : w.heap.size + 2 < u1.heap.size := blk_lt x2z
        replace hSz := And.intro (blk_old hSz.1 hbx (blk_lt hSz.1)) (show RcB u2 (w.heap.size + 1) t V from blk_old hSz.2 hbx (blk_lt hSz.2))
        replace x2z := blk_old x2z hbx (blk_lt x2z)
        replace xbz := bnx xbz hbx
        replace ownT := own_mono ownT (base' := w.heap.size + 3) (by omega)
        clear hbx
        rw [show ([] : List En).length = 0 from rfl]
        go_wp2_with (first | (with_reducible refine stop_loadT 66 ?_) | (with_reducible refine stop_storeT 66 ?_))
        refine go_ (wpList_store_row rfl _ _ _ rfl w.heap.size (qlC ev Af 0 cf r (flB L b)) rfl rfl _ _ hSz.1 (by kernel_rfl) rfl (by kernel_rfl) ?_)
        have hz1 := setRow_heap _ _ _ (qlC ev Af 0 cf r (flB L b)) _ _ hSz.1
        have hA1 : Aw (fun k => k = w.heap.size) u2 (u2.setRow w.heap.size (qlC ev Af 0 cf r (flB L b))) := aw_setRow35 _ _
        have x2y := hA1.keep x2z (by omega)
        have hR1 : RcB _ (w.heap.size + 1) t V := hA1.keep hSz.2 (by omega)
        have xby := below_awG xbz hA1 (fun k hk => by omega) xbz.size
        have ownT2 := own_aw ownT hA1 (fun j hj hu => by have := (own_blk ownT hj).1; omega)
        generalize (u2.setRow w.heap.size (qlC ev Af 0 cf r (flB L b))) = u3 at *
        clear hA1 hSz x2z xbz ownT
        go_wp2_with (first | (with_reducible refine stop_loadT 25 ?_) | (with_reducible refine stop_storeT 25 ?_) | (with_reducible refine stop_loadG 25 ?_))
        refine go_ (wpList_load_mid rfl _ _ rfl (w.heap.size + 1) 0 rfl _ _ hR1.all Try.underlying25 rfl (by rw [rcC_size t V HV.out]; kernel_rfl) ?_)
        go_wp2_with (with_reducible refine stop_build2q ?_)
        refine go_ (wpList_buildEnQ (k := true) HV.out rfl rfl ?_)
        go_wp2_with (with_reducible refine stop_bs ?_)
        refine go_ (wpList_bs1 Try.underlying39 Hi1.out (by kernel_rfl) (by omega) (by omega) (enC_len (⟨true, t, V⟩ : En) HV.out) rfl ?_)
        have hbn : Below u3.heap.size u3 (u3.alloc (.cells (enC ⟨true, t, V⟩).toArray 46)) := (Below.refl _ _).alloc (Nat.le_refl _) _
        have hlt3 : w.heap.size + 2 < u3.heap.size := blk_lt x2y
        have ownZ : (u3.alloc (.cells (enC ⟨true, t, V⟩).toArray 46)).ownsRow (w.heap.size + 3) 46 14 (.slice (some ⟨u3.heap.size, 0, none⟩) 1 1) 1 [enC ⟨true, t, V⟩].flatten := own_litR u3 (w.heap.size + 3) _ [enC ⟨true, t, V⟩] _ (by simp) (by intro r hr; rw [List.mem_singleton.1 hr]; exact enC_len (⟨true, t, V⟩ : En) HV.out) (by simp [maxLen]) (by omega) 1 rfl
        have hSz : _ ∧ True := ⟨blk_old hz1 hbn (blk_lt hz1), trivial⟩
        have x2z := blk_old x2y hbn (blk_lt x2y)
        have xbz := bnx xby hbn
        have ownT := own_up ownT2 hbn (Nat.le_refl _)
        clear hbn hz1 x2y xby ownT2 hR1
        generalize (u3.alloc (.cells (enC ⟨true, t, V⟩).toArray 46)) = u4 at *
        generalize u3.heap.size = gz at *
        have s1 : u4.cell? ⟨w.heap.size, 1, none⟩ = some (.slice Af 0 cf) := blk_cell (i := 1) hSz.1 rfl
        have s2 : u4.frozen? ⟨w.heap.size, 1, none⟩ = false := blk_free (i := 1) hSz.1
        have hk1 := blk_set (i := 1) hSz.1 (.slice (some ⟨gz, 0, none⟩) 1 1)
        have s3 : (u4.setCell ⟨w.heap.size, 1, none⟩ (.slice (some ⟨gz, 0, none⟩) 1 1)).cell? ⟨w.heap.size, 2, none⟩ = some (.int .i64 (r : Int)) := blk_cell (i := 2) hk1 rfl
        have s4 : (u4.setCell ⟨w.heap.size, 1, none⟩ (.slice (some ⟨gz, 0, none⟩) 1 1)).frozen? ⟨w.heap.size, 2, none⟩ = false := blk_free (i := 2) hk1
        have hk2 := blk_set (i := 2) hk1 (.int .i64 ((r : Int) + 1))
        have hawg : Aw (fun k => k = w.heap.size) u4 ((u4.setCell ⟨w.heap.size, 1, none⟩ (.slice (some ⟨gz, 0, none⟩) 1 1)).setCell ⟨w.heap.size, 2, none⟩ (.int .i64 ((r : Int) + 1))) := ((Aw.refl (fun k => k = w.heap.size) u4).set (p := ⟨w.heap.size, 1, none⟩) _ rfl).set (p := ⟨w.heap.size, 2, none⟩) _ rfl
        have x24 := hawg.keep x2z (by omega)
        have xb4 := below_awG xbz hawg (fun k hk => by omega) xbz.size
        have hown4 := own_aw ownZ hawg (fun j hj hu => by have := (own_blk ownZ hj).1; omega)
        have hown5 := own_aw ownT hawg (fun j hj hu => by have := (own_blk ownT hj).1; omega)
        clear hawg ownZ ownT x2z xbz hk1 hSz
        go_wp2_with (with_reducible refine stop_loadT 66 ?_)
        clear s1 s2 s3 s4
        generalize ((u4.setCell ⟨w.heap.size, 1, none⟩ (.slice (some ⟨gz, 0, none⟩) 1 1)).setCell ⟨w.heap.size, 2, none⟩ (.int .i64 ((r : Int) + 1))) = y4 at *
        replace hk2 : y4.heap[w.heap.size]? = some (.cells (qlC ev (some ⟨gz, 0, none⟩) (1) 1 (r + 1) (flB L b)) 66) := hk2
        refine go_ (wpList_load_row rfl _ _ rfl w.heap.size rfl _ _ _ _ hk2 Try.underlying66 rfl (by kernel_rfl) ?_)
        go_wp2_with (first | (with_reducible refine stop_loadT 66 ?_) | (with_reducible refine stop_storeT 66 ?_))
        refine go_ (wpList_store_row rfl _ _ _ rfl (w.heap.size + 2) (qlC ev (some ⟨gz, 0, none⟩) (1) 1 (r + 1) (flB L b)) rfl rfl _ _ x24 (by kernel_rfl) rfl (by kernel_rfl) ?_)
        have hz := setRow_heap _ _ _ (qlC ev (some ⟨gz, 0, none⟩) (1) 1 (r + 1) (flB L b)) _ _ x24
        have hbz := below_setRow xb4 (by omega) (qlC ev (some ⟨gz, 0, none⟩) (1) 1 (r + 1) (flB L b)) (g := w.heap.size + 2)
        have own6 := own_aw hown4 (aw_setRow35 (w.heap.size + 2) (qlC ev (some ⟨gz, 0, none⟩) (1) 1 (r + 1) (flB L b))) (fun j hj hu => by have := (own_blk hown4 hj).1; omega)
        have own7 := own_aw hown5 (aw_setRow35 (w.heap.size + 2) (qlC ev (some ⟨gz, 0, none⟩) (1) 1 (r + 1) (flB L b))) (fun j hj hu => by have := (own_blk hown5 hj).1; omega)
        generalize (y4.setRow (w.heap.size + 2) (qlC ev (some ⟨gz, 0, none⟩) (1) 1 (r + 1) (flB L b))) = y5 at *
        go_wp2
        exact bodyPost_ret (results_cell2 (fn := Try.f51) Try.results51 _ _ (w.heap.size + 2) _ _ _ _ rfl hz Try.underlying66 rfl (by kernel_rfl)) rfl (by
          rw [Q1.out, Q2.out, Q3.out]
          exact ⟨some ⟨gz, 0, none⟩, 1, At, nt, ct, rfl, RdR.own (ls := [(⟨true, t, V⟩ : En)].map enC) own6 rfl (fun r hr => by obtain ⟨x, hx, rfl⟩ := List.mem_map.1 hr; rw [List.mem_singleton.1 hx]; exact enC_len (⟨true, t, V⟩ : En) HV.out), own_mono own7 (by omega), hbz, fun _ j hj => by have := (own_blk own6 hj).1; omega⟩)
      · have hF' : ¬ (248 : Int) < ((entB (L ++ [X])).length : Int) := by omega
        obtain ⟨q1, q2, q3⟩ := HRoom.out hF
        have Q1 := Lib.hid q1
        have Q2 := Lib.hid q2
        have Q3 := Lib.hid q3
        have ownT : u1.ownsRow (w.heap.size + 3) 5 1 (.slice none 0 0) 0 (bv []) := World.ownsRow_nil _ _ _ _
        clear q1 q2 q3 hF
        have s1 : u1.cell? ⟨w.heap.size, 1, none⟩ = some (.slice A n c) := blk_cell (i := 1) hSz.1 rfl
        have s2 : u1.frozen? ⟨w.heap.size, 1, none⟩ = false := blk_free (i := 1) hSz.1
        have hk1 := blk_set (i := 1) hSz.1 (.slice A6 (n + 1) c6)
        have s3 : (u1.setCell ⟨w.heap.size, 1, none⟩ (.slice A6 (n + 1) c6)).cell? ⟨w.heap.size, 2, none⟩ = some (.int .i64 (r : Int)) := blk_cell (i := 2) hk1 rfl
        have s4 : (u1.setCell ⟨w.heap.size, 1, none⟩ (.slice A6 (n + 1) c6)).frozen? ⟨w.heap.size, 2, none⟩ = false := blk_free (i := 2) hk1
        have hk2 := blk_set (i := 2) hk1 (.int .i64 ((r : Int) + 1))
        have hawg : Aw (fun k => k = w.heap.size) u1 ((u1.setCell ⟨w.heap.size, 1, none⟩ (.slice A6 (n + 1) c6)).setCell ⟨w.heap.size, 2, none⟩ (.int .i64 ((r : Int) + 1))) := ((Aw.refl (fun k => k = w.heap.size) u1).set (p := ⟨w.heap.size, 1, none⟩) _ rfl).set (p := ⟨w.heap.size, 2, none⟩) _ rfl
        have x24 := hawg.keep x2z (by omega)
        have xb4 := below_awG xbz hawg (fun k hk => by omega) xbz.size
        have hown4 := own_aw ownZ hawg (fun j hj hu => by have := (own_blk ownZ hj).1; omega)
        have hown5 := own_aw ownT hawg (fun j hj hu => by have := (own_blk ownT hj).1; omega)
        clear hawg ownZ ownT x2z xbz hk1 hSz
        go_wp2_with (with_reducible refine stop_loadT 66 ?_)
        clear s1 s2 s3 s4
        generalize ((u1.setCell ⟨w.heap.size, 1, none⟩ (.slice A6 (n + 1) c6)).setCell ⟨w.heap.size, 2, none⟩ (.int .i64 ((r : Int) + 1))) = y4 at *
        replace hk2 : y4.heap[w.heap.size]? = some (.cells (qlC ev A6 ((n + 1)) c6 (r + 1) b) 66) := hk2
        refine go_ (wpList_load_row rfl _ _ rfl w.heap.size rfl _ _ _ _ hk2 Try.underlying66 rfl (by kernel_rfl) ?_)
        go_wp2_with (first | (with_reducible refine stop_loadT 66 ?_) | (with_reducible refine stop_storeT 66 ?_))
        refine go_ (wpList_store_row rfl _ _ _ rfl (w.heap.size + 2) (qlC ev A6 ((n + 1)) c6 (r + 1) b) rfl rfl _ _ x24 (by kernel_rfl) rfl (by kernel_rfl) ?_)
        have hz := setRow_heap _ _ _ (qlC ev A6 ((n + 1)) c6 (r + 1) b) _ _ x24
        have hbz := below_setRow xb4 (by omega) (qlC ev A6 ((n + 1)) c6 (r + 1) b) (g := w.heap.size + 2)
        have own6 := own_aw hown4 (aw_setRow35 (w.heap.size + 2) (qlC ev A6 ((n + 1)) c6 (r + 1) b)) (fun j hj hu => by have := (own_blk hown4 hj).1; omega)
        have own7 := own_aw hown5 (aw_setRow35 (w.heap.size + 2) (qlC ev A6 ((n + 1)) c6 (r + 1) b)) (fun j hj hu => by have := (own_blk hown5 hj).1; omega)
        generalize (y4.setRow (w.heap.size + 2) (qlC ev A6 ((n + 1)) c6 (r + 1) b)) = y5 at *
        go_wp2
        exact bodyPost_ret (results_cell2 (fn := Try.f51) Try.results51 _ _ (w.heap.size + 2) _ _ _ _ rfl hz Try.underlying66 rfl (by kernel_rfl)) rfl (by
          rw [Q1.out, Q2.out, Q3.out]
          exact ⟨A6, c6, none, 0, 0, by rw [List.length_append, Hn.out]; rfl, by rw [List.length_append, Hn.out]; exact RdR.own (ls := (L ++ [X]).map enC) own6 (by first | (rw [List.length_map, List.length_append, Hn.out]; done) | (rw [List.length_map, List.length_append, Hn.out]; rfl)) HrA.out, World.ownsRow_nil _ _ _ _, hbz, fun _ j hj => by have := (own_blk own6 (ownb_any hj)).1; omega⟩)
    · simp only [Ord.lst, List.filterMap_cons, List.filterMap_nil, List.getElem?_toArray, List.getElem?_cons_succ, List.getElem?_cons_zero]
      refine Ord.e_rowS (b := g6) (o := 0) Try.underlying46 rfl (by rw [enC_len X HX.out]; kernel_rfl) rfl (by unfold enC; simp) (fun w' hS => (show EnB w' g6 X from blk_old y6 (show Below _ w4 w' from hS) (blk_lt y6)).all) hT (by kernel_rfl) ?_
      (try simp only [Act.put, List.setIfInBounds_toArray, List.set_cons_zero, List.set_cons_succ])
      refine Ord.e_x rfl (by kernel_rfl) ?_
      refine wpList_bs1 Try.underlying39 Hi1.out (by kernel_rfl) (by omega) (by omega) (enC_len X HX.out) rfl ?_
      have hbx : Below v0.heap.size v0 (v0.alloc (.cells (enC X).toArray 46)) := (Below.refl _ _).alloc (Nat.le_refl _) _
      have hrd : Rd (v0.alloc (.cells (enC X).toArray 46)) (v0.heap.size + 1) 14 (some ⟨v0.heap.size, 0, none⟩) 1 1 (enC X) := rd_one35 v0 X HX.out
      have hgl : w4.heap.size ≤ v0.heap.size := hT.size
      replace hT := bnx hT hbx
      go_wp2_with fail
      refine Ord.Seg.go hT (fun h => by cases h) ?_
      (try simp only [Act.put, List.setIfInBounds_toArray, List.set_cons_zero, List.set_cons_succ])
      have hgc : v0.heap.size < (v0.alloc (.cells (enC X).toArray 46)).heap.size := by simp
      clear hbx
      generalize (v0.alloc (.cells (enC X).toArray 46)) = v1 at *
      generalize v0.heap.size = gc at *
      refine Ord.e_x rfl (by kernel_rfl) ?_
      go_wp2_with fail
      have ownA : (v1.alloc (.cells #[] 46)).ownsRow w4.heap.size 46 14 (.slice (some ⟨v1.heap.size, 0, none⟩) 0 0) 0 [] := own_empty v1 _ _ hT.size 14
      have hbx : Below v1.heap.size v1 (v1.alloc (.cells #[] 46)) := (Below.refl _ _).alloc (Nat.le_refl _) _
      replace hrd := RdR.rd_up35 hrd hbx hgc
      replace hT := bnx hT hbx
      refine Ord.Seg.go hT (fun h => by cases h) ?_
      (try simp only [Act.put, List.setIfInBounds_toArray, List.set_cons_zero, List.set_cons_succ])
      generalize (v1.alloc (.cells #[] 46)) = v2 at *
      generalize v1.heap.size = gb at *
      clear hbx
      have hgb : gb < v2.heap.size := (own_blk ownA rfl).2
      ((with_reducible refine Ord.e_p (v := ?_) ?_ ?_ ?_ ?_); rotate_left; (· exact rfl); (· kernel_rfl); (· intro w2; go_simp; try with_reducible rfl))
      (try simp only [Act.put, List.setIfInBounds_toArray, List.set_cons_zero, List.set_cons_succ])
      refine Ord.e_loadS Try.underlying39 rfl (fun w' hS => ((show Below _ w4 w' from hS).cell (p := ⟨w.heap.size, 1, none⟩) hlt0).trans k1) hT rfl (by kernel_rfl) ?_
      (try simp only [Act.put, List.setIfInBounds_toArray, List.set_cons_zero, List.set_cons_succ])
      refine Ord.e_x rfl (by kernel_rfl) ?_
      refine wpList_appG (base := w4.heap.size) (n := 0) Try.underlying39 Hi1.out (by kernel_rfl) (by omega) ownA rfl (RdR.rd (HhL.out _ hT) (by omega)) rfl HeL.out (k := n) (ys := (L.map enC).flatten) (Nat.zero_add _) (List.nil_append _) (by unfold maxLen; omega) (by omega) hT.size ?_
      intro A5 c5 v3 ownB hgr hob
      replace hrd := rd_grown35 hrd hgr (by omega) (fun h2 => by
        have h3 : some gb = some gc := h2
        injection h3 with h3
        omega)
      replace hT := Below.grown hT hgr hT.size (fun j hj => (own_blk ownA hj).1)
      clear hgr hob ownA
      go_wp2_with fail
      refine Ord.Seg.go hT (fun h => by cases h) ?_
      (try simp only [Act.put, List.setIfInBounds_toArray, List.set_cons_zero, List.set_cons_succ])
      refine Ord.e_x rfl (by kernel_rfl) ?_
      refine wpList_appG (base := w4.heap.size) (n := n) Try.underlying39 Hi1.out (by kernel_rfl) (by omega) ownB rfl hrd rfl (enC_one X) (k := n + 1) (ys := ((L ++ [X]).map enC).flatten) rfl (by simp) (by unfold maxLen; omega) (by omega) hT.size ?_
      intro A6 c6 v4 ownC hgr hob
      replace hT := Below.grown hT hgr hT.size (fun j hj => (own_blk ownB hj).1)
      clear hgr hob ownB hrd
      go_wp2_with fail
      refine Ord.Seg.go hT (fun h => by cases h) ?_
      (try simp only [Act.put, List.setIfInBounds_toArray, List.set_cons_zero, List.set_cons_succ])
      ((with_reducible refine Ord.e_p (v := ?_) ?_ ?_ ?_ ?_); rotate_left; (· exact rfl); (· kernel_rfl); (· intro w2; go_simp; try with_reducible rfl))
      (try simp only [Act.put, List.setIfInBounds_toArray, List.set_cons_zero, List.set_cons_succ])
      refine Ord.e_nil ?_
      generalize v4 = u0 at *
      replace hSz := And.intro (blk_old hSz.1 hT (blk_lt hSz.1)) (show RcB u0 (w.heap.size + 1) t V from blk_old hSz.2 hT (blk_lt hSz.2))
      replace x2z := blk_old x2z hT (blk_lt x2z)
      replace xbz := bnx xbz hT
      have hrA : RdE u0 u0.heap.size A6 (n + 1) c6 (L ++ [X]) := RdR.own (ls := (L ++ [X]).map enC) ownC (by rw [List.length_map, List.length_append, Hn.out]; rfl) HrA.out
      have hlr2 : w.heap.size + 2 < w4.heap.size := hlr4
      clear hT k1 y6
      go_wp2_with fail
      go_fit (qbsize_any A6 (n + 1) c6 u0.heap.size (L ++ [X]) u0 hrA (Nat.le_refl _) HqX.out (by omega))
      rintro e u1 ⟨rfl, hbx⟩
      replace hSz := And.intro (blk_old hSz.1 hbx (blk_lt hSz.1)) (show RcB u1 (w.heap.size + 1) t V from blk_old hSz.2 hbx (blk_lt hSz.2))
      replace x2z := blk_old x2z hbx (blk_lt x2z)
      replace xbz := bnx xbz hbx
      have ownZ := own_up ownC hbx (Nat.le_refl _)
      clear hbx hrA ownC
      by_cases hF : 248 < (entB (L ++ [X])).length
      · have hF' : (248 : Int) < ((entB (L ++ [X])).length : Int) := by omega
        obtain ⟨q1, q2, q3⟩ := HFull.out hF
        have Q1 := Lib.hid q1
        have Q2 := Lib.hid q2
        have Q3 := Lib.hid q3
        clear q1 q2 q3 hF ownZ
        go_wp2_with (first | (with_reducible refine stop_loadT 66 ?_) | (with_reducible refine stop_storeT 66 ?_))
        refine go_ (wpList_load_row rfl _ _ rfl w.heap.size rfl _ _ _ _ hSz.1 Try.underlying66 rfl (by kernel_rfl) ?_)
        go_wp2_with fail
        go_fit (Hfl.out u1 (RdR.up Hh.out (xbz.mono hB)) (Nat.le_trans hB xbz.size))
        rintro e u2 ⟨Af, cf, At, nt, ct, rfl, _, ownT, hbx, _⟩
        have hsz1 : w.heap.size + 2 < u1.heap.size := blk_lt x2z
        replace hSz := And.intro (blk_old hSz.1 hbx (blk_lt hSz.1)) (show RcB u2 (w.heap.size + 1) t V from blk_old hSz.2 hbx (blk_lt hSz.2))
        replace x2z := blk_old x2z hbx (blk_lt x2z)
        replace xbz := bnx xbz hbx
        replace ownT := own_mono ownT (base' := w.heap.size + 3) (by omega)
        clear hbx
        rw [show ([] : List En).length = 0 from rfl]
        go_wp2_with (first | (with_reducible refine stop_loadT 66 ?_) | (with_reducible refine stop_storeT 66 ?_))
        refine go_ (wpList_store_row rfl _ _ _ rfl w.heap.size (qlC ev Af 0 cf r (flB L b)) rfl rfl _ _ hSz.1 (by kernel_rfl) rfl (by kernel_rfl) ?_)
        have hz1 := setRow_heap _ _ _ (qlC ev Af 0 cf r (flB L b)) _ _ hSz.1
        have hA1 : Aw (fun k => k = w.heap.size) u2 (u2.setRow w.heap.size (qlC ev Af 0 cf r (flB L b))) := aw_setRow35 _ _
        have x2y := hA1.keep x2z (by omega)
        have hR1 : RcB _ (w.heap.size + 1) t V := hA1.keep hSz.2 (by omega)
        have xby := below_awG xbz hA1 (fun k hk => by omega) xbz.size
        have ownT2 := own_aw ownT hA1 (fun j hj hu => by have := (own_blk ownT hj).1; omega)
        generalize (u2.setRow w.heap.size (qlC ev Af 0 cf r (flB L b))) = u3 at *
        clear hA1 hSz x2z xbz ownT
        go_wp2_with (first | (with_reducible refine stop_loadT 25 ?_) | (with_reducible refine stop_storeT 25 ?_) | (with_reducible refine stop_loadG 25 ?_))
        refine go_ (wpList_load_mid rfl _ _ rfl (w.heap.size + 1) 0 rfl _ _ hR1.all Try.underlying25 rfl (by rw [rcC_size t V HV.out]; kernel_rfl) ?_)
        go_wp2_with (with_reducible refine stop_build2q ?_)
        refine go_ (wpList_buildEnQ (k := true) HV.out rfl rfl ?_)
        go_wp2_with (with_reducible refine stop_bs ?_)
        refine go_ (wpList_bs1 Try.underlying39 Hi1.out (by kernel_rfl) (by omega) (by omega) (enC_len (⟨true, t, V⟩ : En) HV.out) rfl ?_)
        have hbn : Below u3.heap.size u3 (u3.alloc (.cells (enC ⟨true, t, V⟩).toArray 46)) := (Below.refl _ _).alloc (Nat.le_refl _) _
        have hlt3 : w.heap.size + 2 < u3.heap.size := blk_lt x2y
        have ownZ : (u3.alloc (.cells (enC ⟨true, t, V⟩).toArray 46)).ownsRow (w.heap.size + 3) 46 14 (.slice (some ⟨u3.heap.size, 0, none⟩) 1 1) 1 [enC ⟨true, t, V⟩].flatten := own_litR u3 (w.heap.size + 3) _ [enC ⟨true, t, V⟩] _ (by simp) (by intro r hr; rw [List.mem_singleton.1 hr]; exact enC_len (⟨true, t, V⟩ : En) HV.out) (by simp [maxLen]) (by omega) 1 rfl
        have hSz : _ ∧ True := ⟨blk_old hz1 hbn (blk_lt hz1), trivial⟩
        have x2z := blk_old x2y hbn (blk_lt x2y)
        have xbz := bnx xby hbn
        have ownT := own_up ownT2 hbn (Nat.le_refl _)
        clear hbn hz1 x2y xby ownT2 hR1
        generalize (u3.alloc (.cells (enC ⟨true, t, V⟩).toArray 46)) = u4 at *
        generalize u3.heap.size = gz at *
        have s1 : u4.cell? ⟨w.heap.size, 1, none⟩ = some (.slice Af 0 cf) := blk_cell (i := 1) hSz.1 rfl
        have s2 : u4.frozen? ⟨w.heap.size, 1, none⟩ = false := blk_free (i := 1) hSz.1
        have hk1 := blk_set (i := 1) hSz.1 (.slice (some ⟨gz, 0, none⟩) 1 1)
        have s3 : (u4.setCell ⟨w.heap.size, 1, none⟩ (.slice (some ⟨gz, 0, none⟩) 1 1)).cell? ⟨w.heap.size, 2, none⟩ = some (.int .i64 (r : Int)) := blk_cell (i := 2) hk1 rfl
        have s4 : (u4.setCell ⟨w.heap.size, 1, none⟩ (.slice (some ⟨gz, 0, none⟩) 1 1)).frozen? ⟨w.heap.size, 2, none⟩ = false := blk_free (i := 2) hk1
        have hk2 := blk_set (i := 2) hk1 (.int .i64 ((r : Int) + 1))
        have hawg : Aw (fun k => k = w.heap.size) u4 ((u4.setCell ⟨w.heap.size, 1, none⟩ (.slice (some ⟨gz, 0, none⟩) 1 1)).setCell ⟨w.heap.size, 2, none⟩ (.int .i64 ((r : Int) + 1))) := ((Aw.refl (fun k => k = w.heap.size) u4).set (p := ⟨w.heap.size, 1, none⟩) _ rfl).set (p := ⟨w.heap.size, 2, none⟩) _ rfl
        have x24 := hawg.keep x2z (by omega)
        have xb4 := below_awG xbz hawg (fun k hk => by omega) xbz.size
        have hown4 := own_aw ownZ hawg (fun j hj hu => by have := (own_blk ownZ hj).1; omega)
        have hown5 := own_aw ownT hawg (fun j hj hu => by have := (own_blk ownT hj).1; omega)
        clear hawg ownZ ownT x2z xbz hk1 hSz
        go_wp2_with (with_reducible refine stop_loadT 66 ?_)
        clear s1 s2 s3 s4
        generalize ((u4.setCell ⟨w.heap.size, 1, none⟩ (.slice (some ⟨gz, 0, none⟩) 1 1)).setCell ⟨w.heap.size, 2, none⟩ (.int .i64 ((r : Int) + 1))) = y4 at *
        replace hk2 : y4.heap[w.heap.size]? = some (.cells (qlC ev (some ⟨gz, 0, none⟩) (1) 1 (r + 1) (flB L b)) 66) := hk2
        refine go_ (wpList_load_row rfl _ _ rfl w.heap.size rfl _ _ _ _ hk2 Try.underlying66 rfl (by kernel_rfl) ?_)
        go_wp2_with (first | (with_reducible refine stop_loadT 66 ?_) | (with_reducible refine stop_storeT 66 ?_))
        refine go_ (wpList_store_row rfl _ _ _ rfl (w.heap.size + 2) (qlC ev (some ⟨gz, 0, none⟩) (1) 1 (r + 1) (flB L b)) rfl rfl _ _ x24 (by kernel_rfl) rfl (by kernel_rfl) ?_)
        have hz := setRow_heap _ _ _ (qlC ev (some ⟨gz, 0, none⟩) (1) 1 (r + 1) (flB L b)) _ _ x24
        have hbz := below_setRow xb4 (by omega) (qlC ev (some ⟨gz, 0, none⟩) (1) 1 (r + 1) (flB L b)) (g := w.heap.size + 2)
        have own6 := own_aw hown4 (aw_setRow35 (w.heap.size + 2) (qlC ev (some ⟨gz, 0, none⟩) (1) 1 (r + 1) (flB L b))) (fun j hj hu => by have := (own_blk hown4 hj).1; omega)
        have own7 := own_aw hown5 (aw_setRow35 (w.heap.size + 2) (qlC ev (some ⟨gz, 0, none⟩) (1) 1 (r + 1) (flB L b))) (fun j hj hu => by have := (own_blk hown5 hj).1; omega)
        generalize (y4.setRow (w.heap.size + 2) (qlC ev (some ⟨gz, 0, none⟩) (1) 1 (r + 1) (flB L b))) = y5 at *
        go_wp2
        exact bodyPost_ret (results_cell2 (fn := Try.f51) Try.results51 _ _ (w.heap.size + 2) _ _ _ _ rfl hz Try.underlying66 rfl (by kernel_rfl)) rfl (by
          rw [Q1.out, Q2.out, Q3.out]
          exact ⟨some ⟨gz, 0, none⟩, 1, At, nt, ct, rfl, RdR.own (ls := [(⟨true, t, V⟩ : En)].map enC) own6 rfl (fun r hr => by obtain ⟨x, hx, rfl⟩ := List.mem_map.1 hr; rw [List.mem_singleton.1 hx]; exact enC_len (⟨true, t, V⟩ : En) HV.out), own_mono own7 (by omega), hbz, fun _ j hj => by have := (own_blk own6 hj).1; omega⟩)
      · have hF' : ¬ (248 : Int) < ((entB (L ++ [X])).length : Int) := by omega
        obtain ⟨q1, q2, q3⟩ := HRoom.out hF
        have Q1 := Lib.hid q1
        have Q2 := Lib.hid q2
        have Q3 := Lib.hid q3
        have ownT : u1.ownsRow (w.heap.size + 3) 5 1 (.slice none 0 0) 0 (bv []) := World.ownsRow_nil _ _ _ _
        clear q1 q2 q3 hF
        have s1 : u1.cell? ⟨w.heap.size, 1, none⟩ = some (.slice A n c) := blk_cell (i := 1) hSz.1 rfl
        have s2 : u1.frozen? ⟨w.heap.size, 1, none⟩ = false := blk_free (i := 1) hSz.1
        have hk1 := blk_set (i := 1) hSz.1 (.slice A6 (n + 1) c6)
        have s3 : (u1.setCell ⟨w.heap.size, 1, none⟩ (.slice A6 (n + 1) c6)).cell? ⟨w.heap.size, 2, none⟩ = some (.int .i64 (r : Int)) := blk_cell (i := 2) hk1 rfl
        have s4 : (u1.setCell ⟨w.heap.size, 1, none⟩ (.slice A6 (n + 1) c6)).frozen? ⟨w.heap.size, 2, none⟩ = false := blk_free (i := 2) hk1
        have hk2 := blk_set (i := 2) hk1 (.int .i64 ((r : Int) + 1))
        have hawg : Aw (fun k => k = w.heap.size) u1 ((u1.setCell ⟨w.heap.size, 1, none⟩ (.slice A6 (n + 1) c6)).setCell ⟨w.heap.size, 2, none⟩ (.int .i64 ((r : Int) + 1))) := ((Aw.refl (fun k => k = w.heap.size) u1).set (p := ⟨w.heap.size, 1, none⟩) _ rfl).set (p := ⟨w.heap.size, 2, none⟩) _ rfl
        have x24 := hawg.keep x2z (by omega)
        have xb4 := below_awG xbz hawg (fun k hk => by omega) xbz.size
        have hown4 := own_aw ownZ hawg (fun j hj hu => by have := (own_blk ownZ hj).1; omega)
        have hown5 := own_aw ownT hawg (fun j hj hu => by have := (own_blk ownT hj).1; omega)
        clear hawg ownZ ownT x2z xbz hk1 hSz
        go_wp2_with (with_reducible refine stop_loadT 66 ?_)
        clear s1 s2 s3 s4
        generalize ((u1.setCell ⟨w.heap.size, 1, none⟩ (.slice A6 (n + 1) c6)).setCell ⟨w.heap.size, 2, none⟩ (.int .i64 ((r : Int) + 1))) = y4 at *
        replace hk2 : y4.heap[w.heap.size]? = some (.cells (qlC ev A6 ((n + 1)) c6 (r + 1) b) 66) := hk2
        refine go_ (wpList_load_row rfl _ _ rfl w.heap.size rfl _ _ _ _ hk2 Try.underlying66 rfl (by kernel_rfl) ?_)
        go_wp2_with (first | (with_reducible refine stop_loadT 66 ?_) | (with_reducible refine stop_storeT 66 ?_))
        refine go_ (wpList_store_row rfl _ _ _ rfl (w.heap.size + 2) (qlC ev A6 ((n + 1)) c6 (r + 1) b) rfl rfl _ _ x24 (by kernel_rfl) rfl (by kernel_rfl) ?_)
        have hz := setRow_heap _ _ _ (qlC ev A6 ((n + 1)) c6 (r + 1) b) _ _ x24
        have hbz := below_setRow xb4 (by omega) (qlC ev A6 ((n + 1)) c6 (r + 1) b) (g := w.heap.size + 2)
        have own6 := own_aw hown4 (aw_setRow35 (w.heap.size + 2) (qlC ev A6 ((n + 1)) c6 (r + 1) b)) (fun j hj hu => by have := (own_blk hown4 hj).1; omega)
        have own7 := own_aw hown5 (aw_setRow35 (w.heap.size + 2) (qlC ev A6 ((n + 1)) c6 (r + 1) b)) (fun j hj hu => by have := (own_blk hown5 hj).1; omega)
        generalize (y4.setRow (w.heap.size + 2) (qlC ev A6 ((n + 1)) c6 (r + 1) b)) = y5 at *
        go_wp2
        exact bodyPost_ret (results_cell2 (fn := Try.f51) Try.results51 _ _ (w.heap.size + 2) _ _ _ _ rfl hz Try.underlying66 rfl (by kernel_rfl)) rfl (by
          rw [Q1.out, Q2.out, Q3.out]
          exact ⟨A6, c6, none, 0, 0, by rw [List.length_append, Hn.out]; rfl, by rw [List.length_append, Hn.out]; exact RdR.own (ls := (L ++ [X]).map enC) own6 (by first | (rw [List.length_map, List.length_append, Hn.out]; done) | (rw [List.length_map, List.length_append, Hn.out]; rfl)) HrA.out, World.ownsRow_nil _ _ _ _, hbz, fun _ j hj => by have := (own_blk own6 (ownb_any hj)).1; omega⟩)


end Go.Proofs.Ytplgcfjcdjlnbaa
