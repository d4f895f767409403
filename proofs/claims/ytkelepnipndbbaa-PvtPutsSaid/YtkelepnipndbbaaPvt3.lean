/-
  pvt.Speed walked, and the document's.
-/
import Derived.Test.YtkelepnipndbbaaPvt2
import Derived.Test.YtkelepnipndbbaaOrders
import Derived.Test.YtkelepnipndbbaaBig
set_option linter.unusedSimpArgs false
set_option linter.unusedVariables false
namespace Go.Proofs.Ytkelepnipndbbaa
open Go.RowKit NumLaw
attribute [local go_sem] Addr.add_mid

/-- A row of pointers just laid. -/
theorem rd_ptrs {w : World} {g e : Nat} {ps : List Addr} (h : w.heap[g]? = some (.cells (ps.map pv).toArray e)) (hm : ps.length ≤ maxLen) : Rd w (g + 1) 1 (some ⟨g, 0, none⟩) ps.length ps.length (ps.map pv) := by
  refine ⟨by simp, Nat.le_refl _, hm, fun _ => ⟨_, rfl, Nat.lt_succ_self _, fun j u hu => ?_⟩⟩
  have e1 : (⟨g, 0, none⟩ : Addr).add j = ⟨g, j, none⟩ := by unfold Addr.add; split <;> simp_all
  rw [e1]
  exact blk_cell h (by simpa using hu)

/-- A message of layer 16 as cells. -/
def pvC (xs : List Int) : Array Value := (xs.map (Value.int .i64)).toArray
theorem pvC_at {xs : List Int} {k : Nat} {x : Int} (h : xs[k]? = some x) : (pvC xs)[k]? = some (.int .i64 x) := by simp [pvC, h]
def sp3 (l : List Int) (k : Nat) : List Value := (l.take k).map (fun x => .int .i32 (spdV x)) ++ List.replicate (3 - k) (.int .i32 0)
def ct3 (l : List Int) (k : Nat) : Nat := ((l.take k).map fun x => cutN (mil x)).sum
theorem cutN_le (n : Int) : cutN n ≤ 1 := by unfold cutN; split <;> omega
/-- What a speed's function hands back. -/
def RetSp (x y z : Int) (w : World) (e : Ending) (w' : World) : Prop :=
  e = .returned (.tuple #[.agg #[.int .i32 (spdV x), .int .i32 (spdV y), .int .i32 (spdV z)], .int .i64 ((spdC x y z : Nat) : Int)]) ∧ Below w.heap.size w w'
def SpI (g : Nat) (l : List Int) (w1 : World) (k : Nat) (w' : World) : Prop :=
  w'.heap[g + 2]? = some (.cells (sp3 l k).toArray 128) ∧ w'.heap[g + 3]? = some (.cells #[.int .i64 ((ct3 l k : Nat) : Int)] 3) ∧ Aw (fun b => b = g + 2 ∨ b = g + 3) w1 w'
theorem pspeed_step (g : Nat) (xs : List Int) (x y z : Int) (w1 : World) (hx : xs[20]? = some x) (hy : xs[21]? = some y) (hz : xs[22]? = some z)
    (h1 : -2147483648 ≤ x ∧ x ≤ 2147483647) (h2 : -2147483648 ≤ y ∧ y ≤ 2147483647) (h3 : -2147483648 ≤ z ∧ z ≤ 2147483647) (a0 : w1.heap[g]? = some (.cells (pvC xs) 66))
    (k : Nat) (p : Addr) (w' : World) (hp : ([⟨g, 20, none⟩, ⟨g, 21, none⟩, ⟨g, 22, none⟩] : List Addr)[k]? = some p) (hk : k < 3) (hI : SpI g [x, y, z] w1 k w') :
    Calls Try.prog 114 (#[.int .i64 k, pv p] ++ #[.pointer (some ⟨g + 2, 0, none⟩), .pointer (some ⟨g + 3, 0, none⟩)]) w' fun e w2 => e = .returned (.tuple #[]) ∧ SpI g [x, y, z] w1 (k + 1) w2 := by
  obtain ⟨i1, i2, i3⟩ := hI
  have q0 := i3.keep a0 (by omega)
  have key : ∀ (v : Int) (o : Nat), xs[o]? = some v → p = ⟨g, o, none⟩ → (-2147483648 ≤ v ∧ v ≤ 2147483647) → (sp3 [x, y, z] k).set k (.int .i32 (spdV v)) = sp3 [x, y, z] (k + 1) → ct3 [x, y, z] (k + 1) = ct3 [x, y, z] k + cutN (mil v) → ct3 [x, y, z] k ≤ 100 →
      Calls Try.prog 114 (#[.int .i64 k, pv p] ++ #[.pointer (some ⟨g + 2, 0, none⟩), .pointer (some ⟨g + 3, 0, none⟩)]) w' fun e w2 => e = .returned (.tuple #[]) ∧ SpI g [x, y, z] w1 (k + 1) w2 := by
    intro v o hv hpo hvb e1 e2 e3
    refine (speed1_any k p v (g + 2) (g + 3) (sp3 [x, y, z] k) (ct3 [x, y, z] k) w' hk (by simp [sp3]; omega) hvb (by rw [hpo]; exact blk_cell q0 (pvC_at hv)) (by omega) i1 i2 e3).mono ?_
    rintro e w2 ⟨he, f1, f2, f3⟩
    rw [e1] at f1
    rw [← e2] at f2
    exact ⟨he, f1, f2, i3.trans f3⟩
  have c1 := cutN_le (mil x)
  have c2 := cutN_le (mil y)
  rcases (by omega : k = 0 ∨ k = 1 ∨ k = 2) with rfl | rfl | rfl
  · exact key x 20 hx (by simpa using hp.symm) h1 (by simp [sp3, List.replicate]) (by simp [ct3]) (by simp [ct3])
  · exact key y 21 hy (by simpa using hp.symm) h2 (by simp [sp3, List.replicate]) (by simp [ct3]) (by simp [ct3]; omega)
  · exact key z 22 hz (by simpa using hp.symm) h3 (by simp [sp3, List.replicate]) (by simp [ct3]; omega) (by simp [ct3]; omega)
set_option maxRecDepth 10000 in
set_option maxHeartbeats 1000000 in
theorem pspeed_any (xs : List Int) (x y z : Int) (w : World) (hl : xs.length = 32) (hx : xs[20]? = some x) (hy : xs[21]? = some y) (hz : xs[22]? = some z)
    (h1 : -2147483648 ≤ x ∧ x ≤ 2147483647) (h2 : -2147483648 ≤ y ∧ y ≤ 2147483647) (h3 : -2147483648 ≤ z ∧ z ≤ 2147483647) :
    Calls Try.prog 45 #[.agg (pvC xs)] w (RetSp x y z w) := by
  obtain ⟨a0, a1, a2, a3, a4, hs, hb⟩ := al5 w (.cells (pvC xs) 66) (.cells #[.int .i32 0, .int .i32 0, .int .i32 0] 68) (.cells #[.int .i32 0, .int .i32 0, .int .i32 0] 128) (.cells #[.int .i64 0] 3) (.cells #[.pointer (some ⟨w.heap.size, 20, none⟩), .pointer (some ⟨w.heap.size, 21, none⟩), .pointer (some ⟨w.heap.size, 22, none⟩)] 130)
  have hspd : spdC x y z = ct3 [x, y, z] 3 := by simp [ct3, spdC]; omega
  have hct : ct3 [x, y, z] 3 ≤ 3 := by have := cutN_le (mil x); have := cutN_le (mil y); have := cutN_le (mil z); rw [← hspd]; unfold spdC; omega
  unfold RetSp
  rw [hspd]
  clear hspd
  obtain ⟨vx, hvx⟩ : ∃ v, v = spdV x := ⟨_, rfl⟩
  obtain ⟨vy, hvy⟩ : ∃ v, v = spdV y := ⟨_, rfl⟩
  obtain ⟨vz, hvz⟩ : ∃ v, v = spdV z := ⟨_, rfl⟩
  obtain ⟨t, ht⟩ : ∃ t, t = ct3 [x, y, z] 3 := ⟨_, rfl⟩
  rw [← ht] at hct
  rw [← hvx, ← hvy, ← hvz, ← ht]
  have HV := Lib.hid (And.intro hvx (And.intro hvy (And.intro hvz ht)))
  clear hvx hvy hvz ht
  go_enter Try.func45, Try.ntmps45
  go_wp2_with fail
  generalize (((((w.alloc (.cells (pvC xs) 66)).alloc (.cells #[.int .i32 0, .int .i32 0, .int .i32 0] 68)).alloc (.cells #[.int .i32 0, .int .i32 0, .int .i32 0] 128)).alloc (.cells #[.int .i64 0] 3)).alloc (.cells #[.pointer (some ⟨w.heap.size, 20, none⟩), .pointer (some ⟨w.heap.size, 21, none⟩), .pointer (some ⟨w.heap.size, 22, none⟩)] 130)) = w1 at *
  have heach := each_any 114 #[.pointer (some ⟨w.heap.size + 2, 0, none⟩), .pointer (some ⟨w.heap.size + 3, 0, none⟩)] (fun _ _ => by kernel_rfl) (some ⟨w.heap.size + 4, 0, none⟩) 3 3 (w.heap.size + 5) [⟨w.heap.size, 20, none⟩, ⟨w.heap.size, 21, none⟩, ⟨w.heap.size, 22, none⟩] w1
    (SpI w.heap.size [x, y, z] w1) ⟨a2, a3, Aw.refl _ _⟩
    (fun k w' hI => rd_ptrs (ps := [⟨w.heap.size, 20, none⟩, ⟨w.heap.size, 21, none⟩, ⟨w.heap.size, 22, none⟩]) (hI.2.2.keep a4 (by omega)) (by simp [maxLen]))
    (fun k p w' hp hk hI => pspeed_step w.heap.size xs x y z w1 hx hy hz h1 h2 h3 a0 k p w' hp hk hI)
  go_fit heach
  rintro e w2 ⟨rfl, f1, f2, f3⟩
  have hb2 := hb.trans ⟨f3.os, f3.tape, f3.output, f3.size, fun k hk => f3.block k (by omega) (by omega)⟩
  replace a1 := f3.keep a1 (by omega)
  have hlt := blk_lt f2
  clear heach a0 a2 a3 a4 hs hb f3
  have e1 : sp3 [x, y, z] 3 = [.int .i32 (spdV x), .int .i32 (spdV y), .int .i32 (spdV z)] := by simp [sp3]
  rw [e1, ← HV.out.1, ← HV.out.2.1, ← HV.out.2.2.1] at f1
  rw [← HV.out.2.2.2] at f2
  clear e1
  have d0 := blk_cell (i := 0) (v := .int .i32 vx) f1 rfl
  have d1 := blk_cell (i := 1) (v := .int .i32 vy) f1 rfl
  have d2 := blk_cell (i := 2) (v := .int .i32 vz) f1 rfl
  have dt := blk_cell (i := 0) (v := .int .i64 (t : Int)) f2 rfl
  clear f1 f2
  go_wp2_with fail
  refine Ord.region_ (fun w' => w'.cell? ⟨w.heap.size + 2, 0, none⟩ = some (.int .i32 vx) ∧ w'.cell? ⟨w.heap.size + 2, 1, none⟩ = some (.int .i32 vy) ∧ w'.cell? ⟨w.heap.size + 2, 2, none⟩ = some (.int .i32 vz) ∧ w'.cell? ⟨w.heap.size + 3, 0, none⟩ = some (.int .i64 (t : Int))) false [] (by kernel_rfl) (by kernel_rfl) ⟨d0, d1, d2, dt⟩ ?_
  replace a1 : w2.drew.heap[w.heap.size + 1]? = _ := a1
  replace hb2 := hb2.drew
  have hS0 : w2.drew.cell? ⟨w.heap.size + 2, 0, none⟩ = some (.int .i32 vx) ∧ w2.drew.cell? ⟨w.heap.size + 2, 1, none⟩ = some (.int .i32 vy) ∧ w2.drew.cell? ⟨w.heap.size + 2, 2, none⟩ = some (.int .i32 vz) ∧ w2.drew.cell? ⟨w.heap.size + 3, 0, none⟩ = some (.int .i64 (t : Int)) := ⟨d0, d1, d2, dt⟩
  generalize w2.drew = w3 at *
  clear d0 d1 d2 dt
  repeat (first | (refine Ord.e_p (v := ?_) rfl (by rfl) ?_ ?_; rotate_left; · (intro w2; go_simp; try with_reducible rfl)) | (refine Ord.e_u (by rfl) ?_)); (try simp only [Act.put, List.setIfInBounds_toArray, List.set_cons_zero, List.set_cons_succ])
  refine Ord.e_loadS Try.underlying21 rfl (fun w' (hS : w'.cell? ⟨w.heap.size + 2, 0, none⟩ = some (.int .i32 vx) ∧ w'.cell? ⟨w.heap.size + 2, 1, none⟩ = some (.int .i32 vy) ∧ w'.cell? ⟨w.heap.size + 2, 2, none⟩ = some (.int .i32 vz) ∧ w'.cell? ⟨w.heap.size + 3, 0, none⟩ = some (.int .i64 (t : Int))) => hS.1) hS0 rfl (by rfl) ?_
  (try simp only [Act.put, List.setIfInBounds_toArray, List.set_cons_zero, List.set_cons_succ])
  repeat (first | (refine Ord.e_p (v := ?_) rfl (by rfl) ?_ ?_; rotate_left; · (intro w2; go_simp; try with_reducible rfl)) | (refine Ord.e_u (by rfl) ?_)); (try simp only [Act.put, List.setIfInBounds_toArray, List.set_cons_zero, List.set_cons_succ])
  refine Ord.e_loadS Try.underlying21 rfl (fun w' (hS : w'.cell? ⟨w.heap.size + 2, 0, none⟩ = some (.int .i32 vx) ∧ w'.cell? ⟨w.heap.size + 2, 1, none⟩ = some (.int .i32 vy) ∧ w'.cell? ⟨w.heap.size + 2, 2, none⟩ = some (.int .i32 vz) ∧ w'.cell? ⟨w.heap.size + 3, 0, none⟩ = some (.int .i64 (t : Int))) => hS.2.1) hS0 rfl (by rfl) ?_
  (try simp only [Act.put, List.setIfInBounds_toArray, List.set_cons_zero, List.set_cons_succ])
  repeat (first | (refine Ord.e_p (v := ?_) rfl (by rfl) ?_ ?_; rotate_left; · (intro w2; go_simp; try with_reducible rfl)) | (refine Ord.e_u (by rfl) ?_)); (try simp only [Act.put, List.setIfInBounds_toArray, List.set_cons_zero, List.set_cons_succ])
  refine Ord.e_loadS Try.underlying21 rfl (fun w' (hS : w'.cell? ⟨w.heap.size + 2, 0, none⟩ = some (.int .i32 vx) ∧ w'.cell? ⟨w.heap.size + 2, 1, none⟩ = some (.int .i32 vy) ∧ w'.cell? ⟨w.heap.size + 2, 2, none⟩ = some (.int .i32 vz) ∧ w'.cell? ⟨w.heap.size + 3, 0, none⟩ = some (.int .i64 (t : Int))) => hS.2.2.1) hS0 rfl (by rfl) ?_
  (try simp only [Act.put, List.setIfInBounds_toArray, List.set_cons_zero, List.set_cons_succ])
  repeat (first | (refine Ord.e_p (v := ?_) rfl (by rfl) ?_ ?_; rotate_left; · (intro w2; go_simp; try with_reducible rfl)) | (refine Ord.e_u (by rfl) ?_)); (try simp only [Act.put, List.setIfInBounds_toArray, List.set_cons_zero, List.set_cons_succ])
  refine Ord.e_loadS Try.underlying3 rfl (fun w' (hS : w'.cell? ⟨w.heap.size + 2, 0, none⟩ = some (.int .i32 vx) ∧ w'.cell? ⟨w.heap.size + 2, 1, none⟩ = some (.int .i32 vy) ∧ w'.cell? ⟨w.heap.size + 2, 2, none⟩ = some (.int .i32 vz) ∧ w'.cell? ⟨w.heap.size + 3, 0, none⟩ = some (.int .i64 (t : Int))) => hS.2.2.2) hS0 rfl (by rfl) ?_
  (try simp only [Act.put, List.setIfInBounds_toArray, List.set_cons_zero, List.set_cons_succ])
  repeat (first | (refine Ord.e_p (v := ?_) rfl (by rfl) ?_ ?_; rotate_left; · (intro w2; go_simp; try with_reducible rfl)) | (refine Ord.e_u (by rfl) ?_)); (try simp only [Act.put, List.setIfInBounds_toArray, List.set_cons_zero, List.set_cons_succ])
  refine Ord.e_x rfl (by rfl) ?_
  refine wpList_store_row rfl _ _ _ rfl (w.heap.size + 1) #[.int .i32 vx, .int .i32 vy, .int .i32 vz] rfl rfl _ _ a1 (by kernel_rfl) rfl (by kernel_rfl) ?_
  have hb5 := below_setRow hb2 (show w.heap.size ≤ w.heap.size + 1 by omega) (#[.int .i32 vx, .int .i32 vy, .int .i32 vz] : Array Value)
  have hres5 := setRow_heap _ _ _ (#[.int .i32 vx, .int .i32 vy, .int .i32 vz] : Array Value) _ _ a1
  have hS5 : (w3.setRow (w.heap.size + 1) #[.int .i32 vx, .int .i32 vy, .int .i32 vz]).cell? ⟨w.heap.size + 2, 0, none⟩ = some (.int .i32 vx) ∧ (w3.setRow (w.heap.size + 1) #[.int .i32 vx, .int .i32 vy, .int .i32 vz]).cell? ⟨w.heap.size + 2, 1, none⟩ = some (.int .i32 vy) ∧ (w3.setRow (w.heap.size + 1) #[.int .i32 vx, .int .i32 vy, .int .i32 vz]).cell? ⟨w.heap.size + 2, 2, none⟩ = some (.int .i32 vz) ∧ (w3.setRow (w.heap.size + 1) #[.int .i32 vx, .int .i32 vy, .int .i32 vz]).cell? ⟨w.heap.size + 3, 0, none⟩ = some (.int .i64 (t : Int)) := by
    have e := fun (b o : Nat) (hb : b ≠ w.heap.size + 1) => cell_setRow_other w3 (w.heap.size + 1) (#[.int .i32 vx, .int .i32 vy, .int .i32 vz] : Array Value) ⟨b, o, none⟩ hb
    refine ⟨(e _ _ (by omega)).trans hS0.1, (e _ _ (by omega)).trans hS0.2.1, (e _ _ (by omega)).trans hS0.2.2.1, (e _ _ (by omega)).trans hS0.2.2.2⟩
  generalize (w3.setRow (w.heap.size + 1) #[.int .i32 vx, .int .i32 vy, .int .i32 vz]) = w5 at *
  go_wp2_with fail
  refine Ord.Seg.go hS5 (fun h => by cases h) ?_
  (try simp only [Act.put, List.setIfInBounds_toArray, List.set_cons_zero, List.set_cons_succ])
  repeat (first | (refine Ord.e_p (v := ?_) rfl (by rfl) ?_ ?_; rotate_left; · (intro w2; go_simp; try with_reducible rfl)) | (refine Ord.e_u (by rfl) ?_)); (try simp only [Act.put, List.setIfInBounds_toArray, List.set_cons_zero, List.set_cons_succ])
  refine Ord.e_nil ?_
  clear hS0 hS5 a1 hb2
  have c0 := blk_cell (i := 0) (v := .int .i32 vx) hres5 rfl
  have c1 := blk_cell (i := 1) (v := .int .i32 vy) hres5 rfl
  have c2 := blk_cell (i := 2) (v := .int .i32 vz) hres5 rfl
  go_wp2
  refine bodyPost_ret (v := .tuple #[.agg #[.int .i32 vx, .int .i32 vy, .int .i32 vz], .int .i64 t]) (by simp [results, go_sem, c0, c1, c2]) rfl ?_
  exact ⟨rfl, hb5⟩

set_option maxRecDepth 10000 in
set_option maxHeartbeats 4000000 in
theorem qspeed_any (xs : List Int) (x y z : Int) (w : World) (hl : xs.length = 32) (hx : xs[20]? = some x) (hy : xs[21]? = some y) (hz : xs[22]? = some z)
    (h1 : -2147483648 ≤ x ∧ x ≤ 2147483647) (h2 : -2147483648 ≤ y ∧ y ≤ 2147483647) (h3 : -2147483648 ≤ z ∧ z ≤ 2147483647) :
    Calls Try.prog 46 #[.agg (pvC xs)] w (RetSp x y z w) := by
  obtain ⟨a0, a1, hs, hb⟩ := al2 w (.cells (pvC xs) 66) (.cells #[.int .i32 0, .int .i32 0, .int .i32 0] 68)
  have hm1 := fun w => milli_any x w h1
  have hm2 := fun w => milli_any y w h2
  have hm3 := fun w => milli_any z w h3
  have b1 := mil_bound h1
  have b2 := mil_bound h2
  have b3 := mil_bound h3
  have hcut := fun w => cut_any (mil x) (mil y) (mil z) w (by omega) (by omega) (by omega)
  unfold RetSp
  have e1 : cutN (mil x) + cutN (mil y) + cutN (mil z) = spdC x y z := rfl
  rw [e1, show clampV (mil x) = spdV x from rfl, show clampV (mil y) = spdV y from rfl, show clampV (mil z) = spdV z from rfl] at hcut
  clear e1
  generalize spdC x y z = t at *
  generalize spdV x = vx at *
  generalize spdV y = vy at *
  generalize spdV z = vz at *
  generalize mil x = mx at *
  generalize mil y = my at *
  generalize mil z = mz at *
  have c0 := blk_cell a0 (pvC_at hx)
  have c1 := blk_cell a0 (pvC_at hy)
  have c2 := blk_cell a0 (pvC_at hz)
  have Hcut := Lib.hid hcut
  clear hcut hl hx hy hz
  go_enter Try.func46, Try.ntmps46
  go_wp2_with fail
  generalize ((w.alloc (.cells (pvC xs) 66)).alloc (.cells #[.int .i32 0, .int .i32 0, .int .i32 0] 68)) = w1 at *
  have hlt := blk_lt a0
  have hlt1 := blk_lt a1
  clear hs
  refine Ord.region_m [2, 5, 8, 9, 13] [[0, 1, 13, 2, 3, 4, 5, 6, 7, 8, 9, 10, 11, 12, 14, 15], [0, 1, 2, 3, 4, 13, 5, 6, 7, 8, 9, 10, 11, 12, 14, 15], [0, 1, 2, 3, 4, 5, 6, 7, 13, 8, 9, 10, 11, 12, 14, 15], [0, 1, 2, 3, 4, 5, 6, 7, 8, 13, 9, 10, 11, 12, 14, 15], [0, 1, 2, 3, 4, 5, 6, 7, 8, 9, 13, 10, 11, 12, 14, 15]] (fun w' => Below w1.heap.size w1 w') false [] (by kernel_rfl) (by kernel_rfl) ((Below.refl _ _).drew) ?_
  have g2 : Below w1.heap.size w1 w1.drew := (Below.refl _ _).drew
  generalize w1.drew = w2 at *
  intro L hL
  simp only [List.mem_cons, List.not_mem_nil, or_false] at hL
  rcases hL with rfl | rfl | rfl | rfl | rfl
  · simp only [Ord.lst, List.filterMap_cons, List.filterMap_nil, List.getElem?_toArray, List.getElem?_cons_succ, List.getElem?_cons_zero]
    ((with_reducible refine Ord.e_p (v := ?_) ?_ ?_ ?_ ?_); rotate_left; (· exact rfl); (· kernel_rfl); (· intro w2; go_simp; try with_reducible rfl))
    (try simp only [Act.put, List.setIfInBounds_toArray, List.set_cons_zero, List.set_cons_succ])
    refine Ord.e_loadS Try.underlying2 rfl (fun w' hS => ((show Below _ w1 w' from hS).cell (p := ⟨w.heap.size, 20, none⟩) hlt).trans c0) g2 rfl (by kernel_rfl) ?_
    (try simp only [Act.put, List.setIfInBounds_toArray, List.set_cons_zero, List.set_cons_succ])
    refine Ord.e_x rfl (by kernel_rfl) ?_
    go_wp2
    have hbox := heap_alloc_new w2 (.cells #[.int .i32 0, .int .i32 0, .int .i32 0] 68)
    have hge : w1.heap.size ≤ w2.heap.size := g2.size
    have g3 := g2.alloc g2.size (.cells #[.int .i32 0, .int .i32 0, .int .i32 0] 68)
    refine Ord.Seg.go g3 (fun h => by cases h) ?_
    (try simp only [Act.put, List.setIfInBounds_toArray, List.set_cons_zero, List.set_cons_succ])
    generalize (w2.alloc (.cells #[.int .i32 0, .int .i32 0, .int .i32 0] 68)) = w3 at *
    generalize w2.heap.size = gx at *
    clear g2
    refine Ord.e_x rfl (by kernel_rfl) ?_
    go_wp2_with fail
    go_fit (hm1 _)
    rintro e w9 ⟨rfl, rfl⟩
    go_wp2_with fail
    refine Ord.Seg.go g3 (fun h => by cases h) ?_
    (try simp only [Act.put, List.setIfInBounds_toArray, List.set_cons_zero, List.set_cons_succ])
    ((with_reducible refine Ord.e_p (v := ?_) ?_ ?_ ?_ ?_); rotate_left; (· exact rfl); (· kernel_rfl); (· intro w2; go_simp; try with_reducible rfl))
    (try simp only [Act.put, List.setIfInBounds_toArray, List.set_cons_zero, List.set_cons_succ])
    refine Ord.e_loadS Try.underlying2 rfl (fun w' hS => ((show Below _ w1 w' from hS).cell (p := ⟨w.heap.size, 21, none⟩) hlt).trans c1) g3 rfl (by kernel_rfl) ?_
    (try simp only [Act.put, List.setIfInBounds_toArray, List.set_cons_zero, List.set_cons_succ])
    refine Ord.e_x rfl (by kernel_rfl) ?_
    go_wp2_with fail
    go_fit (hm2 _)
    rintro e w9 ⟨rfl, rfl⟩
    go_wp2_with fail
    refine Ord.Seg.go g3 (fun h => by cases h) ?_
    (try simp only [Act.put, List.setIfInBounds_toArray, List.set_cons_zero, List.set_cons_succ])
    ((with_reducible refine Ord.e_p (v := ?_) ?_ ?_ ?_ ?_); rotate_left; (· exact rfl); (· kernel_rfl); (· intro w2; go_simp; try with_reducible rfl))
    (try simp only [Act.put, List.setIfInBounds_toArray, List.set_cons_zero, List.set_cons_succ])
    refine Ord.e_loadS Try.underlying2 rfl (fun w' hS => ((show Below _ w1 w' from hS).cell (p := ⟨w.heap.size, 22, none⟩) hlt).trans c2) g3 rfl (by kernel_rfl) ?_
    (try simp only [Act.put, List.setIfInBounds_toArray, List.set_cons_zero, List.set_cons_succ])
    refine Ord.e_x rfl (by kernel_rfl) ?_
    go_wp2_with fail
    go_fit (hm3 _)
    rintro e w9 ⟨rfl, rfl⟩
    go_wp2_with fail
    refine Ord.Seg.go g3 (fun h => by cases h) ?_
    (try simp only [Act.put, List.setIfInBounds_toArray, List.set_cons_zero, List.set_cons_succ])
    refine Ord.e_x rfl (by kernel_rfl) ?_
    go_wp2_with fail
    go_fit (Hcut.out _)
    rintro e w4 ⟨rfl, hbc⟩
    have g4 := g3.trans (hbc.mono g3.size)
    replace hbox := blk_old hbox hbc (blk_lt hbox)
    go_wp2_with fail
    refine Ord.Seg.go g4 (fun h => by cases h) ?_
    (try simp only [Act.put, List.setIfInBounds_toArray, List.set_cons_zero, List.set_cons_succ])
    clear g3 hbc
    ((with_reducible refine Ord.e_p (v := ?_) ?_ ?_ ?_ ?_); rotate_left; (· exact rfl); (· kernel_rfl); (· intro w2; go_simp; try with_reducible rfl))
    (try simp only [Act.put, List.setIfInBounds_toArray, List.set_cons_zero, List.set_cons_succ])
    ((with_reducible refine Ord.e_p (v := ?_) ?_ ?_ ?_ ?_); rotate_left; (· exact rfl); (· kernel_rfl); (· intro w2; go_simp; try with_reducible rfl))
    (try simp only [Act.put, List.setIfInBounds_toArray, List.set_cons_zero, List.set_cons_succ])
    ((with_reducible refine Ord.e_p (v := ?_) ?_ ?_ ?_ ?_); rotate_left; (· exact rfl); (· kernel_rfl); (· intro w2; go_simp; try with_reducible rfl))
    (try simp only [Act.put, List.setIfInBounds_toArray, List.set_cons_zero, List.set_cons_succ])
    refine Ord.e_x rfl (by kernel_rfl) ?_
    refine wpList_store_row rfl _ _ _ rfl gx #[.int .i32 vx, .int .i32 vy, .int .i32 vz] rfl rfl _ _ hbox (by kernel_rfl) rfl (by kernel_rfl) ?_
    have g5 := below_setRow g4 hge (#[.int .i32 vx, .int .i32 vy, .int .i32 vz] : Array Value)
    have hbox5 := setRow_heap _ _ _ (#[.int .i32 vx, .int .i32 vy, .int .i32 vz] : Array Value) _ _ hbox
    generalize (w4.setRow gx #[.int .i32 vx, .int .i32 vy, .int .i32 vz]) = w5 at *
    go_wp2_with fail
    refine Ord.Seg.go g5 (fun h => by cases h) ?_
    (try simp only [Act.put, List.setIfInBounds_toArray, List.set_cons_zero, List.set_cons_succ])
    clear hbox g4
    ((with_reducible refine Ord.e_p (v := ?_) ?_ ?_ ?_ ?_); rotate_left; (· exact rfl); (· kernel_rfl); (· intro w2; go_simp; try with_reducible rfl))
    (try simp only [Act.put, List.setIfInBounds_toArray, List.set_cons_zero, List.set_cons_succ])
    refine Ord.e_nil ?_
    have a1' := blk_old a1 g5 hlt1
    have hbf := hb.trans (g5.mono hb.size)
    have k0 := blk_cell (i := 0) (v := .int .i32 vx) hbox5 rfl
    have k1 := blk_cell (i := 1) (v := .int .i32 vy) hbox5 rfl
    have k2 := blk_cell (i := 2) (v := .int .i32 vz) hbox5 rfl
    go_wp2_with (with_reducible refine stop_store ?_)
    refine go_ (wpList_store_row rfl _ _ _ rfl (w.heap.size + 1) #[.int .i32 vx, .int .i32 vy, .int .i32 vz] rfl rfl _ _ a1' (by kernel_rfl) rfl (by kernel_rfl) ?_)
    have hbz := below_setRow hbf (show w.heap.size ≤ w.heap.size + 1 by omega) (#[.int .i32 vx, .int .i32 vy, .int .i32 vz] : Array Value)
    have hres5 := setRow_heap _ _ _ (#[.int .i32 vx, .int .i32 vy, .int .i32 vz] : Array Value) _ _ a1'
    generalize (w5.setRow (w.heap.size + 1) #[.int .i32 vx, .int .i32 vy, .int .i32 vz]) = wz at *
    clear c0 c1 c2 k0 k1 k2 g5 a1' hbf hbox5
    have k0 := blk_cell (i := 0) (v := .int .i32 vx) hres5 rfl
    have k1 := blk_cell (i := 1) (v := .int .i32 vy) hres5 rfl
    have k2 := blk_cell (i := 2) (v := .int .i32 vz) hres5 rfl
    go_wp2
    refine bodyPost_ret (v := .tuple #[.agg #[.int .i32 vx, .int .i32 vy, .int .i32 vz], .int .i64 t]) (by simp [results, go_sem, k0, k1, k2]) rfl ?_
    exact ⟨rfl, hbz⟩
  · simp only [Ord.lst, List.filterMap_cons, List.filterMap_nil, List.getElem?_toArray, List.getElem?_cons_succ, List.getElem?_cons_zero]
    ((with_reducible refine Ord.e_p (v := ?_) ?_ ?_ ?_ ?_); rotate_left; (· exact rfl); (· kernel_rfl); (· intro w2; go_simp; try with_reducible rfl))
    (try simp only [Act.put, List.setIfInBounds_toArray, List.set_cons_zero, List.set_cons_succ])
    refine Ord.e_loadS Try.underlying2 rfl (fun w' hS => ((show Below _ w1 w' from hS).cell (p := ⟨w.heap.size, 20, none⟩) hlt).trans c0) g2 rfl (by kernel_rfl) ?_
    (try simp only [Act.put, List.setIfInBounds_toArray, List.set_cons_zero, List.set_cons_succ])
    refine Ord.e_x rfl (by kernel_rfl) ?_
    go_wp2_with fail
    go_fit (hm1 _)
    rintro e w9 ⟨rfl, rfl⟩
    go_wp2_with fail
    refine Ord.Seg.go g2 (fun h => by cases h) ?_
    (try simp only [Act.put, List.setIfInBounds_toArray, List.set_cons_zero, List.set_cons_succ])
    ((with_reducible refine Ord.e_p (v := ?_) ?_ ?_ ?_ ?_); rotate_left; (· exact rfl); (· kernel_rfl); (· intro w2; go_simp; try with_reducible rfl))
    (try simp only [Act.put, List.setIfInBounds_toArray, List.set_cons_zero, List.set_cons_succ])
    refine Ord.e_loadS Try.underlying2 rfl (fun w' hS => ((show Below _ w1 w' from hS).cell (p := ⟨w.heap.size, 21, none⟩) hlt).trans c1) g2 rfl (by kernel_rfl) ?_
    (try simp only [Act.put, List.setIfInBounds_toArray, List.set_cons_zero, List.set_cons_succ])
    refine Ord.e_x rfl (by kernel_rfl) ?_
    go_wp2
    have hbox := heap_alloc_new w2 (.cells #[.int .i32 0, .int .i32 0, .int .i32 0] 68)
    have hge : w1.heap.size ≤ w2.heap.size := g2.size
    have g3 := g2.alloc g2.size (.cells #[.int .i32 0, .int .i32 0, .int .i32 0] 68)
    refine Ord.Seg.go g3 (fun h => by cases h) ?_
    (try simp only [Act.put, List.setIfInBounds_toArray, List.set_cons_zero, List.set_cons_succ])
    generalize (w2.alloc (.cells #[.int .i32 0, .int .i32 0, .int .i32 0] 68)) = w3 at *
    generalize w2.heap.size = gx at *
    clear g2
    refine Ord.e_x rfl (by kernel_rfl) ?_
    go_wp2_with fail
    go_fit (hm2 _)
    rintro e w9 ⟨rfl, rfl⟩
    go_wp2_with fail
    refine Ord.Seg.go g3 (fun h => by cases h) ?_
    (try simp only [Act.put, List.setIfInBounds_toArray, List.set_cons_zero, List.set_cons_succ])
    ((with_reducible refine Ord.e_p (v := ?_) ?_ ?_ ?_ ?_); rotate_left; (· exact rfl); (· kernel_rfl); (· intro w2; go_simp; try with_reducible rfl))
    (try simp only [Act.put, List.setIfInBounds_toArray, List.set_cons_zero, List.set_cons_succ])
    refine Ord.e_loadS Try.underlying2 rfl (fun w' hS => ((show Below _ w1 w' from hS).cell (p := ⟨w.heap.size, 22, none⟩) hlt).trans c2) g3 rfl (by kernel_rfl) ?_
    (try simp only [Act.put, List.setIfInBounds_toArray, List.set_cons_zero, List.set_cons_succ])
    refine Ord.e_x rfl (by kernel_rfl) ?_
    go_wp2_with fail
    go_fit (hm3 _)
    rintro e w9 ⟨rfl, rfl⟩
    go_wp2_with fail
    refine Ord.Seg.go g3 (fun h => by cases h) ?_
    (try simp only [Act.put, List.setIfInBounds_toArray, List.set_cons_zero, List.set_cons_succ])
    refine Ord.e_x rfl (by kernel_rfl) ?_
    go_wp2_with fail
    go_fit (Hcut.out _)
    rintro e w4 ⟨rfl, hbc⟩
    have g4 := g3.trans (hbc.mono g3.size)
    replace hbox := blk_old hbox hbc (blk_lt hbox)
    go_wp2_with fail
    refine Ord.Seg.go g4 (fun h => by cases h) ?_
    (try simp only [Act.put, List.setIfInBounds_toArray, List.set_cons_zero, List.set_cons_succ])
    clear g3 hbc
    ((with_reducible refine Ord.e_p (v := ?_) ?_ ?_ ?_ ?_); rotate_left; (· exact rfl); (· kernel_rfl); (· intro w2; go_simp; try with_reducible rfl))
    (try simp only [Act.put, List.setIfInBounds_toArray, List.set_cons_zero, List.set_cons_succ])
    ((with_reducible refine Ord.e_p (v := ?_) ?_ ?_ ?_ ?_); rotate_left; (· exact rfl); (· kernel_rfl); (· intro w2; go_simp; try with_reducible rfl))
    (try simp only [Act.put, List.setIfInBounds_toArray, List.set_cons_zero, List.set_cons_succ])
    ((with_reducible refine Ord.e_p (v := ?_) ?_ ?_ ?_ ?_); rotate_left; (· exact rfl); (· kernel_rfl); (· intro w2; go_simp; try with_reducible rfl))
    (try simp only [Act.put, List.setIfInBounds_toArray, List.set_cons_zero, List.set_cons_succ])
    refine Ord.e_x rfl (by kernel_rfl) ?_
    refine wpList_store_row rfl _ _ _ rfl gx #[.int .i32 vx, .int .i32 vy, .int .i32 vz] rfl rfl _ _ hbox (by kernel_rfl) rfl (by kernel_rfl) ?_
    have g5 := below_setRow g4 hge (#[.int .i32 vx, .int .i32 vy, .int .i32 vz] : Array Value)
    have hbox5 := setRow_heap _ _ _ (#[.int .i32 vx, .int .i32 vy, .int .i32 vz] : Array Value) _ _ hbox
    generalize (w4.setRow gx #[.int .i32 vx, .int .i32 vy, .int .i32 vz]) = w5 at *
    go_wp2_with fail
    refine Ord.Seg.go g5 (fun h => by cases h) ?_
    (try simp only [Act.put, List.setIfInBounds_toArray, List.set_cons_zero, List.set_cons_succ])
    clear hbox g4
    ((with_reducible refine Ord.e_p (v := ?_) ?_ ?_ ?_ ?_); rotate_left; (· exact rfl); (· kernel_rfl); (· intro w2; go_simp; try with_reducible rfl))
    (try simp only [Act.put, List.setIfInBounds_toArray, List.set_cons_zero, List.set_cons_succ])
    refine Ord.e_nil ?_
    have a1' := blk_old a1 g5 hlt1
    have hbf := hb.trans (g5.mono hb.size)
    have k0 := blk_cell (i := 0) (v := .int .i32 vx) hbox5 rfl
    have k1 := blk_cell (i := 1) (v := .int .i32 vy) hbox5 rfl
    have k2 := blk_cell (i := 2) (v := .int .i32 vz) hbox5 rfl
    go_wp2_with (with_reducible refine stop_store ?_)
    refine go_ (wpList_store_row rfl _ _ _ rfl (w.heap.size + 1) #[.int .i32 vx, .int .i32 vy, .int .i32 vz] rfl rfl _ _ a1' (by kernel_rfl) rfl (by kernel_rfl) ?_)
    have hbz := below_setRow hbf (show w.heap.size ≤ w.heap.size + 1 by omega) (#[.int .i32 vx, .int .i32 vy, .int .i32 vz] : Array Value)
    have hres5 := setRow_heap _ _ _ (#[.int .i32 vx, .int .i32 vy, .int .i32 vz] : Array Value) _ _ a1'
    generalize (w5.setRow (w.heap.size + 1) #[.int .i32 vx, .int .i32 vy, .int .i32 vz]) = wz at *
    clear c0 c1 c2 k0 k1 k2 g5 a1' hbf hbox5
    have k0 := blk_cell (i := 0) (v := .int .i32 vx) hres5 rfl
    have k1 := blk_cell (i := 1) (v := .int .i32 vy) hres5 rfl
    have k2 := blk_cell (i := 2) (v := .int .i32 vz) hres5 rfl
    go_wp2
    refine bodyPost_ret (v := .tuple #[.agg #[.int .i32 vx, .int .i32 vy, .int .i32 vz], .int .i64 t]) (by simp [results, go_sem, k0, k1, k2]) rfl ?_
    exact ⟨rfl, hbz⟩
  · simp only [Ord.lst, List.filterMap_cons, List.filterMap_nil, List.getElem?_toArray, List.getElem?_cons_succ, List.getElem?_cons_zero]
    ((with_reducible refine Ord.e_p (v := ?_) ?_ ?_ ?_ ?_); rotate_left; (· exact rfl); (· kernel_rfl); (· intro w2; go_simp; try with_reducible rfl))
    (try simp only [Act.put, List.setIfInBounds_toArray, List.set_cons_zero, List.set_cons_succ])
    refine Ord.e_loadS Try.underlying2 rfl (fun w' hS => ((show Below _ w1 w' from hS).cell (p := ⟨w.heap.size, 20, none⟩) hlt).trans c0) g2 rfl (by kernel_rfl) ?_
    (try simp only [Act.put, List.setIfInBounds_toArray, List.set_cons_zero, List.set_cons_succ])
    refine Ord.e_x rfl (by kernel_rfl) ?_
    go_wp2_with fail
    go_fit (hm1 _)
    rintro e w9 ⟨rfl, rfl⟩
    go_wp2_with fail
    refine Ord.Seg.go g2 (fun h => by cases h) ?_
    (try simp only [Act.put, List.setIfInBounds_toArray, List.set_cons_zero, List.set_cons_succ])
    ((with_reducible refine Ord.e_p (v := ?_) ?_ ?_ ?_ ?_); rotate_left; (· exact rfl); (· kernel_rfl); (· intro w2; go_simp; try with_reducible rfl))
    (try simp only [Act.put, List.setIfInBounds_toArray, List.set_cons_zero, List.set_cons_succ])
    refine Ord.e_loadS Try.underlying2 rfl (fun w' hS => ((show Below _ w1 w' from hS).cell (p := ⟨w.heap.size, 21, none⟩) hlt).trans c1) g2 rfl (by kernel_rfl) ?_
    (try simp only [Act.put, List.setIfInBounds_toArray, List.set_cons_zero, List.set_cons_succ])
    refine Ord.e_x rfl (by kernel_rfl) ?_
    go_wp2_with fail
    go_fit (hm2 _)
    rintro e w9 ⟨rfl, rfl⟩
    go_wp2_with fail
    refine Ord.Seg.go g2 (fun h => by cases h) ?_
    (try simp only [Act.put, List.setIfInBounds_toArray, List.set_cons_zero, List.set_cons_succ])
    ((with_reducible refine Ord.e_p (v := ?_) ?_ ?_ ?_ ?_); rotate_left; (· exact rfl); (· kernel_rfl); (· intro w2; go_simp; try with_reducible rfl))
    (try simp only [Act.put, List.setIfInBounds_toArray, List.set_cons_zero, List.set_cons_succ])
    refine Ord.e_loadS Try.underlying2 rfl (fun w' hS => ((show Below _ w1 w' from hS).cell (p := ⟨w.heap.size, 22, none⟩) hlt).trans c2) g2 rfl (by kernel_rfl) ?_
    (try simp only [Act.put, List.setIfInBounds_toArray, List.set_cons_zero, List.set_cons_succ])
    refine Ord.e_x rfl (by kernel_rfl) ?_
    go_wp2
    have hbox := heap_alloc_new w2 (.cells #[.int .i32 0, .int .i32 0, .int .i32 0] 68)
    have hge : w1.heap.size ≤ w2.heap.size := g2.size
    have g3 := g2.alloc g2.size (.cells #[.int .i32 0, .int .i32 0, .int .i32 0] 68)
    refine Ord.Seg.go g3 (fun h => by cases h) ?_
    (try simp only [Act.put, List.setIfInBounds_toArray, List.set_cons_zero, List.set_cons_succ])
    generalize (w2.alloc (.cells #[.int .i32 0, .int .i32 0, .int .i32 0] 68)) = w3 at *
    generalize w2.heap.size = gx at *
    clear g2
    refine Ord.e_x rfl (by kernel_rfl) ?_
    go_wp2_with fail
    go_fit (hm3 _)
    rintro e w9 ⟨rfl, rfl⟩
    go_wp2_with fail
    refine Ord.Seg.go g3 (fun h => by cases h) ?_
    (try simp only [Act.put, List.setIfInBounds_toArray, List.set_cons_zero, List.set_cons_succ])
    refine Ord.e_x rfl (by kernel_rfl) ?_
    go_wp2_with fail
    go_fit (Hcut.out _)
    rintro e w4 ⟨rfl, hbc⟩
    have g4 := g3.trans (hbc.mono g3.size)
    replace hbox := blk_old hbox hbc (blk_lt hbox)
    go_wp2_with fail
    refine Ord.Seg.go g4 (fun h => by cases h) ?_
    (try simp only [Act.put, List.setIfInBounds_toArray, List.set_cons_zero, List.set_cons_succ])
    clear g3 hbc
    ((with_reducible refine Ord.e_p (v := ?_) ?_ ?_ ?_ ?_); rotate_left; (· exact rfl); (· kernel_rfl); (· intro w2; go_simp; try with_reducible rfl))
    (try simp only [Act.put, List.setIfInBounds_toArray, List.set_cons_zero, List.set_cons_succ])
    ((with_reducible refine Ord.e_p (v := ?_) ?_ ?_ ?_ ?_); rotate_left; (· exact rfl); (· kernel_rfl); (· intro w2; go_simp; try with_reducible rfl))
    (try simp only [Act.put, List.setIfInBounds_toArray, List.set_cons_zero, List.set_cons_succ])
    ((with_reducible refine Ord.e_p (v := ?_) ?_ ?_ ?_ ?_); rotate_left; (· exact rfl); (· kernel_rfl); (· intro w2; go_simp; try with_reducible rfl))
    (try simp only [Act.put, List.setIfInBounds_toArray, List.set_cons_zero, List.set_cons_succ])
    refine Ord.e_x rfl (by kernel_rfl) ?_
    refine wpList_store_row rfl _ _ _ rfl gx #[.int .i32 vx, .int .i32 vy, .int .i32 vz] rfl rfl _ _ hbox (by kernel_rfl) rfl (by kernel_rfl) ?_
    have g5 := below_setRow g4 hge (#[.int .i32 vx, .int .i32 vy, .int .i32 vz] : Array Value)
    have hbox5 := setRow_heap _ _ _ (#[.int .i32 vx, .int .i32 vy, .int .i32 vz] : Array Value) _ _ hbox
    generalize (w4.setRow gx #[.int .i32 vx, .int .i32 vy, .int .i32 vz]) = w5 at *
    go_wp2_with fail
    refine Ord.Seg.go g5 (fun h => by cases h) ?_
    (try simp only [Act.put, List.setIfInBounds_toArray, List.set_cons_zero, List.set_cons_succ])
    clear hbox g4
    ((with_reducible refine Ord.e_p (v := ?_) ?_ ?_ ?_ ?_); rotate_left; (· exact rfl); (· kernel_rfl); (· intro w2; go_simp; try with_reducible rfl))
    (try simp only [Act.put, List.setIfInBounds_toArray, List.set_cons_zero, List.set_cons_succ])
    refine Ord.e_nil ?_
    have a1' := blk_old a1 g5 hlt1
    have hbf := hb.trans (g5.mono hb.size)
    have k0 := blk_cell (i := 0) (v := .int .i32 vx) hbox5 rfl
    have k1 := blk_cell (i := 1) (v := .int .i32 vy) hbox5 rfl
    have k2 := blk_cell (i := 2) (v := .int .i32 vz) hbox5 rfl
    go_wp2_with (with_reducible refine stop_store ?_)
    refine go_ (wpList_store_row rfl _ _ _ rfl (w.heap.size + 1) #[.int .i32 vx, .int .i32 vy, .int .i32 vz] rfl rfl _ _ a1' (by kernel_rfl) rfl (by kernel_rfl) ?_)
    have hbz := below_setRow hbf (show w.heap.size ≤ w.heap.size + 1 by omega) (#[.int .i32 vx, .int .i32 vy, .int .i32 vz] : Array Value)
    have hres5 := setRow_heap _ _ _ (#[.int .i32 vx, .int .i32 vy, .int .i32 vz] : Array Value) _ _ a1'
    generalize (w5.setRow (w.heap.size + 1) #[.int .i32 vx, .int .i32 vy, .int .i32 vz]) = wz at *
    clear c0 c1 c2 k0 k1 k2 g5 a1' hbf hbox5
    have k0 := blk_cell (i := 0) (v := .int .i32 vx) hres5 rfl
    have k1 := blk_cell (i := 1) (v := .int .i32 vy) hres5 rfl
    have k2 := blk_cell (i := 2) (v := .int .i32 vz) hres5 rfl
    go_wp2
    refine bodyPost_ret (v := .tuple #[.agg #[.int .i32 vx, .int .i32 vy, .int .i32 vz], .int .i64 t]) (by simp [results, go_sem, k0, k1, k2]) rfl ?_
    exact ⟨rfl, hbz⟩
  · simp only [Ord.lst, List.filterMap_cons, List.filterMap_nil, List.getElem?_toArray, List.getElem?_cons_succ, List.getElem?_cons_zero]
    ((with_reducible refine Ord.e_p (v := ?_) ?_ ?_ ?_ ?_); rotate_left; (· exact rfl); (· kernel_rfl); (· intro w2; go_simp; try with_reducible rfl))
    (try simp only [Act.put, List.setIfInBounds_toArray, List.set_cons_zero, List.set_cons_succ])
    refine Ord.e_loadS Try.underlying2 rfl (fun w' hS => ((show Below _ w1 w' from hS).cell (p := ⟨w.heap.size, 20, none⟩) hlt).trans c0) g2 rfl (by kernel_rfl) ?_
    (try simp only [Act.put, List.setIfInBounds_toArray, List.set_cons_zero, List.set_cons_succ])
    refine Ord.e_x rfl (by kernel_rfl) ?_
    go_wp2_with fail
    go_fit (hm1 _)
    rintro e w9 ⟨rfl, rfl⟩
    go_wp2_with fail
    refine Ord.Seg.go g2 (fun h => by cases h) ?_
    (try simp only [Act.put, List.setIfInBounds_toArray, List.set_cons_zero, List.set_cons_succ])
    ((with_reducible refine Ord.e_p (v := ?_) ?_ ?_ ?_ ?_); rotate_left; (· exact rfl); (· kernel_rfl); (· intro w2; go_simp; try with_reducible rfl))
    (try simp only [Act.put, List.setIfInBounds_toArray, List.set_cons_zero, List.set_cons_succ])
    refine Ord.e_loadS Try.underlying2 rfl (fun w' hS => ((show Below _ w1 w' from hS).cell (p := ⟨w.heap.size, 21, none⟩) hlt).trans c1) g2 rfl (by kernel_rfl) ?_
    (try simp only [Act.put, List.setIfInBounds_toArray, List.set_cons_zero, List.set_cons_succ])
    refine Ord.e_x rfl (by kernel_rfl) ?_
    go_wp2_with fail
    go_fit (hm2 _)
    rintro e w9 ⟨rfl, rfl⟩
    go_wp2_with fail
    refine Ord.Seg.go g2 (fun h => by cases h) ?_
    (try simp only [Act.put, List.setIfInBounds_toArray, List.set_cons_zero, List.set_cons_succ])
    ((with_reducible refine Ord.e_p (v := ?_) ?_ ?_ ?_ ?_); rotate_left; (· exact rfl); (· kernel_rfl); (· intro w2; go_simp; try with_reducible rfl))
    (try simp only [Act.put, List.setIfInBounds_toArray, List.set_cons_zero, List.set_cons_succ])
    refine Ord.e_loadS Try.underlying2 rfl (fun w' hS => ((show Below _ w1 w' from hS).cell (p := ⟨w.heap.size, 22, none⟩) hlt).trans c2) g2 rfl (by kernel_rfl) ?_
    (try simp only [Act.put, List.setIfInBounds_toArray, List.set_cons_zero, List.set_cons_succ])
    refine Ord.e_x rfl (by kernel_rfl) ?_
    go_wp2_with fail
    go_fit (hm3 _)
    rintro e w9 ⟨rfl, rfl⟩
    go_wp2_with fail
    refine Ord.Seg.go g2 (fun h => by cases h) ?_
    (try simp only [Act.put, List.setIfInBounds_toArray, List.set_cons_zero, List.set_cons_succ])
    refine Ord.e_x rfl (by kernel_rfl) ?_
    go_wp2
    have hbox := heap_alloc_new w2 (.cells #[.int .i32 0, .int .i32 0, .int .i32 0] 68)
    have hge : w1.heap.size ≤ w2.heap.size := g2.size
    have g3 := g2.alloc g2.size (.cells #[.int .i32 0, .int .i32 0, .int .i32 0] 68)
    refine Ord.Seg.go g3 (fun h => by cases h) ?_
    (try simp only [Act.put, List.setIfInBounds_toArray, List.set_cons_zero, List.set_cons_succ])
    generalize (w2.alloc (.cells #[.int .i32 0, .int .i32 0, .int .i32 0] 68)) = w3 at *
    generalize w2.heap.size = gx at *
    clear g2
    refine Ord.e_x rfl (by kernel_rfl) ?_
    go_wp2_with fail
    go_fit (Hcut.out _)
    rintro e w4 ⟨rfl, hbc⟩
    have g4 := g3.trans (hbc.mono g3.size)
    replace hbox := blk_old hbox hbc (blk_lt hbox)
    go_wp2_with fail
    refine Ord.Seg.go g4 (fun h => by cases h) ?_
    (try simp only [Act.put, List.setIfInBounds_toArray, List.set_cons_zero, List.set_cons_succ])
    clear g3 hbc
    ((with_reducible refine Ord.e_p (v := ?_) ?_ ?_ ?_ ?_); rotate_left; (· exact rfl); (· kernel_rfl); (· intro w2; go_simp; try with_reducible rfl))
    (try simp only [Act.put, List.setIfInBounds_toArray, List.set_cons_zero, List.set_cons_succ])
    ((with_reducible refine Ord.e_p (v := ?_) ?_ ?_ ?_ ?_); rotate_left; (· exact rfl); (· kernel_rfl); (· intro w2; go_simp; try with_reducible rfl))
    (try simp only [Act.put, List.setIfInBounds_toArray, List.set_cons_zero, List.set_cons_succ])
    ((with_reducible refine Ord.e_p (v := ?_) ?_ ?_ ?_ ?_); rotate_left; (· exact rfl); (· kernel_rfl); (· intro w2; go_simp; try with_reducible rfl))
    (try simp only [Act.put, List.setIfInBounds_toArray, List.set_cons_zero, List.set_cons_succ])
    refine Ord.e_x rfl (by kernel_rfl) ?_
    refine wpList_store_row rfl _ _ _ rfl gx #[.int .i32 vx, .int .i32 vy, .int .i32 vz] rfl rfl _ _ hbox (by kernel_rfl) rfl (by kernel_rfl) ?_
    have g5 := below_setRow g4 hge (#[.int .i32 vx, .int .i32 vy, .int .i32 vz] : Array Value)
    have hbox5 := setRow_heap _ _ _ (#[.int .i32 vx, .int .i32 vy, .int .i32 vz] : Array Value) _ _ hbox
    generalize (w4.setRow gx #[.int .i32 vx, .int .i32 vy, .int .i32 vz]) = w5 at *
    go_wp2_with fail
    refine Ord.Seg.go g5 (fun h => by cases h) ?_
    (try simp only [Act.put, List.setIfInBounds_toArray, List.set_cons_zero, List.set_cons_succ])
    clear hbox g4
    ((with_reducible refine Ord.e_p (v := ?_) ?_ ?_ ?_ ?_); rotate_left; (· exact rfl); (· kernel_rfl); (· intro w2; go_simp; try with_reducible rfl))
    (try simp only [Act.put, List.setIfInBounds_toArray, List.set_cons_zero, List.set_cons_succ])
    refine Ord.e_nil ?_
    have a1' := blk_old a1 g5 hlt1
    have hbf := hb.trans (g5.mono hb.size)
    have k0 := blk_cell (i := 0) (v := .int .i32 vx) hbox5 rfl
    have k1 := blk_cell (i := 1) (v := .int .i32 vy) hbox5 rfl
    have k2 := blk_cell (i := 2) (v := .int .i32 vz) hbox5 rfl
    go_wp2_with (with_reducible refine stop_store ?_)
    refine go_ (wpList_store_row rfl _ _ _ rfl (w.heap.size + 1) #[.int .i32 vx, .int .i32 vy, .int .i32 vz] rfl rfl _ _ a1' (by kernel_rfl) rfl (by kernel_rfl) ?_)
    have hbz := below_setRow hbf (show w.heap.size ≤ w.heap.size + 1 by omega) (#[.int .i32 vx, .int .i32 vy, .int .i32 vz] : Array Value)
    have hres5 := setRow_heap _ _ _ (#[.int .i32 vx, .int .i32 vy, .int .i32 vz] : Array Value) _ _ a1'
    generalize (w5.setRow (w.heap.size + 1) #[.int .i32 vx, .int .i32 vy, .int .i32 vz]) = wz at *
    clear c0 c1 c2 k0 k1 k2 g5 a1' hbf hbox5
    have k0 := blk_cell (i := 0) (v := .int .i32 vx) hres5 rfl
    have k1 := blk_cell (i := 1) (v := .int .i32 vy) hres5 rfl
    have k2 := blk_cell (i := 2) (v := .int .i32 vz) hres5 rfl
    go_wp2
    refine bodyPost_ret (v := .tuple #[.agg #[.int .i32 vx, .int .i32 vy, .int .i32 vz], .int .i64 t]) (by simp [results, go_sem, k0, k1, k2]) rfl ?_
    exact ⟨rfl, hbz⟩
  · simp only [Ord.lst, List.filterMap_cons, List.filterMap_nil, List.getElem?_toArray, List.getElem?_cons_succ, List.getElem?_cons_zero]
    ((with_reducible refine Ord.e_p (v := ?_) ?_ ?_ ?_ ?_); rotate_left; (· exact rfl); (· kernel_rfl); (· intro w2; go_simp; try with_reducible rfl))
    (try simp only [Act.put, List.setIfInBounds_toArray, List.set_cons_zero, List.set_cons_succ])
    refine Ord.e_loadS Try.underlying2 rfl (fun w' hS => ((show Below _ w1 w' from hS).cell (p := ⟨w.heap.size, 20, none⟩) hlt).trans c0) g2 rfl (by kernel_rfl) ?_
    (try simp only [Act.put, List.setIfInBounds_toArray, List.set_cons_zero, List.set_cons_succ])
    refine Ord.e_x rfl (by kernel_rfl) ?_
    go_wp2_with fail
    go_fit (hm1 _)
    rintro e w9 ⟨rfl, rfl⟩
    go_wp2_with fail
    refine Ord.Seg.go g2 (fun h => by cases h) ?_
    (try simp only [Act.put, List.setIfInBounds_toArray, List.set_cons_zero, List.set_cons_succ])
    ((with_reducible refine Ord.e_p (v := ?_) ?_ ?_ ?_ ?_); rotate_left; (· exact rfl); (· kernel_rfl); (· intro w2; go_simp; try with_reducible rfl))
    (try simp only [Act.put, List.setIfInBounds_toArray, List.set_cons_zero, List.set_cons_succ])
    refine Ord.e_loadS Try.underlying2 rfl (fun w' hS => ((show Below _ w1 w' from hS).cell (p := ⟨w.heap.size, 21, none⟩) hlt).trans c1) g2 rfl (by kernel_rfl) ?_
    (try simp only [Act.put, List.setIfInBounds_toArray, List.set_cons_zero, List.set_cons_succ])
    refine Ord.e_x rfl (by kernel_rfl) ?_
    go_wp2_with fail
    go_fit (hm2 _)
    rintro e w9 ⟨rfl, rfl⟩
    go_wp2_with fail
    refine Ord.Seg.go g2 (fun h => by cases h) ?_
    (try simp only [Act.put, List.setIfInBounds_toArray, List.set_cons_zero, List.set_cons_succ])
    ((with_reducible refine Ord.e_p (v := ?_) ?_ ?_ ?_ ?_); rotate_left; (· exact rfl); (· kernel_rfl); (· intro w2; go_simp; try with_reducible rfl))
    (try simp only [Act.put, List.setIfInBounds_toArray, List.set_cons_zero, List.set_cons_succ])
    refine Ord.e_loadS Try.underlying2 rfl (fun w' hS => ((show Below _ w1 w' from hS).cell (p := ⟨w.heap.size, 22, none⟩) hlt).trans c2) g2 rfl (by kernel_rfl) ?_
    (try simp only [Act.put, List.setIfInBounds_toArray, List.set_cons_zero, List.set_cons_succ])
    refine Ord.e_x rfl (by kernel_rfl) ?_
    go_wp2_with fail
    go_fit (hm3 _)
    rintro e w9 ⟨rfl, rfl⟩
    go_wp2_with fail
    refine Ord.Seg.go g2 (fun h => by cases h) ?_
    (try simp only [Act.put, List.setIfInBounds_toArray, List.set_cons_zero, List.set_cons_succ])
    refine Ord.e_x rfl (by kernel_rfl) ?_
    go_wp2_with fail
    go_fit (Hcut.out _)
    rintro e w3 ⟨rfl, hbc⟩
    have g3 := g2.trans (hbc.mono g2.size)
    go_wp2_with fail
    refine Ord.Seg.go g3 (fun h => by cases h) ?_
    (try simp only [Act.put, List.setIfInBounds_toArray, List.set_cons_zero, List.set_cons_succ])
    clear g2 hbc
    refine Ord.e_x rfl (by kernel_rfl) ?_
    go_wp2
    have hbox := heap_alloc_new w3 (.cells #[.int .i32 0, .int .i32 0, .int .i32 0] 68)
    have hge : w1.heap.size ≤ w3.heap.size := g3.size
    have g4 := g3.alloc g3.size (.cells #[.int .i32 0, .int .i32 0, .int .i32 0] 68)
    refine Ord.Seg.go g4 (fun h => by cases h) ?_
    (try simp only [Act.put, List.setIfInBounds_toArray, List.set_cons_zero, List.set_cons_succ])
    generalize (w3.alloc (.cells #[.int .i32 0, .int .i32 0, .int .i32 0] 68)) = w4 at *
    generalize w3.heap.size = gx at *
    clear g3
    ((with_reducible refine Ord.e_p (v := ?_) ?_ ?_ ?_ ?_); rotate_left; (· exact rfl); (· kernel_rfl); (· intro w2; go_simp; try with_reducible rfl))
    (try simp only [Act.put, List.setIfInBounds_toArray, List.set_cons_zero, List.set_cons_succ])
    ((with_reducible refine Ord.e_p (v := ?_) ?_ ?_ ?_ ?_); rotate_left; (· exact rfl); (· kernel_rfl); (· intro w2; go_simp; try with_reducible rfl))
    (try simp only [Act.put, List.setIfInBounds_toArray, List.set_cons_zero, List.set_cons_succ])
    ((with_reducible refine Ord.e_p (v := ?_) ?_ ?_ ?_ ?_); rotate_left; (· exact rfl); (· kernel_rfl); (· intro w2; go_simp; try with_reducible rfl))
    (try simp only [Act.put, List.setIfInBounds_toArray, List.set_cons_zero, List.set_cons_succ])
    refine Ord.e_x rfl (by kernel_rfl) ?_
    refine wpList_store_row rfl _ _ _ rfl gx #[.int .i32 vx, .int .i32 vy, .int .i32 vz] rfl rfl _ _ hbox (by kernel_rfl) rfl (by kernel_rfl) ?_
    have g5 := below_setRow g4 hge (#[.int .i32 vx, .int .i32 vy, .int .i32 vz] : Array Value)
    have hbox5 := setRow_heap _ _ _ (#[.int .i32 vx, .int .i32 vy, .int .i32 vz] : Array Value) _ _ hbox
    generalize (w4.setRow gx #[.int .i32 vx, .int .i32 vy, .int .i32 vz]) = w5 at *
    go_wp2_with fail
    refine Ord.Seg.go g5 (fun h => by cases h) ?_
    (try simp only [Act.put, List.setIfInBounds_toArray, List.set_cons_zero, List.set_cons_succ])
    clear hbox g4
    ((with_reducible refine Ord.e_p (v := ?_) ?_ ?_ ?_ ?_); rotate_left; (· exact rfl); (· kernel_rfl); (· intro w2; go_simp; try with_reducible rfl))
    (try simp only [Act.put, List.setIfInBounds_toArray, List.set_cons_zero, List.set_cons_succ])
    refine Ord.e_nil ?_
    have a1' := blk_old a1 g5 hlt1
    have hbf := hb.trans (g5.mono hb.size)
    have k0 := blk_cell (i := 0) (v := .int .i32 vx) hbox5 rfl
    have k1 := blk_cell (i := 1) (v := .int .i32 vy) hbox5 rfl
    have k2 := blk_cell (i := 2) (v := .int .i32 vz) hbox5 rfl
    go_wp2_with (with_reducible refine stop_store ?_)
    refine go_ (wpList_store_row rfl _ _ _ rfl (w.heap.size + 1) #[.int .i32 vx, .int .i32 vy, .int .i32 vz] rfl rfl _ _ a1' (by kernel_rfl) rfl (by kernel_rfl) ?_)
    have hbz := below_setRow hbf (show w.heap.size ≤ w.heap.size + 1 by omega) (#[.int .i32 vx, .int .i32 vy, .int .i32 vz] : Array Value)
    have hres5 := setRow_heap _ _ _ (#[.int .i32 vx, .int .i32 vy, .int .i32 vz] : Array Value) _ _ a1'
    generalize (w5.setRow (w.heap.size + 1) #[.int .i32 vx, .int .i32 vy, .int .i32 vz]) = wz at *
    clear c0 c1 c2 k0 k1 k2 g5 a1' hbf hbox5
    have k0 := blk_cell (i := 0) (v := .int .i32 vx) hres5 rfl
    have k1 := blk_cell (i := 1) (v := .int .i32 vy) hres5 rfl
    have k2 := blk_cell (i := 2) (v := .int .i32 vz) hres5 rfl
    go_wp2
    refine bodyPost_ret (v := .tuple #[.agg #[.int .i32 vx, .int .i32 vy, .int .i32 vz], .int .i64 t]) (by simp [results, go_sem, k0, k1, k2]) rfl ?_
    exact ⟨rfl, hbz⟩

end Go.Proofs.Ytkelepnipndbbaa
