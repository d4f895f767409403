/-
  schema's small makers of parts walked (printed by gen_sch2.py).
-/
import Derived.Test.YtonejdjhdjckjaaGreatSchOpen
import Derived.Test.YtonejdjhdjckjaaGreatSchTab
import Derived.Test.YtonejdjhdjckjaaGreatRowR
import Derived.Test.YtonejdjhdjckjaaGreatGenW
import Derived.Test.YtonejdjhdjckjaaGreatCells
import Derived.Test.YtonejdjhdjckjaaGreatBig
set_option linter.unusedSimpArgs false
set_option linter.unusedVariables false
namespace Go.Proofs.YtonejdjhdjckjaaGreat
open Go.RowKit NumLaw
attribute [local go_sem] Addr.add_mid

def RdS (w : World) (B : Nat) (A : Option Addr) (n c : Nat) (L : List ByteArray) : Prop := RdR w B 1 A n c (L.map fun s => [Value.string s])
theorem RdS.at_ {w : World} {B : Nat} {A : Option Addr} {n c : Nat} {L : List ByteArray} (h : RdS w B A n c L) {k : Nat} (hk : k < n) : ∃ g off s, A = some ⟨g, off, none⟩ ∧ g < B ∧ L[k]? = some s ∧ w.cell? ⟨g, off + k, none⟩ = some (.string s) := by
  obtain ⟨g, off, r, h1, h2, h3, h4, h5⟩ := RdR.at_ h hk
  rw [List.getElem?_map] at h3
  cases hx : L[k]? with
  | none => rw [hx] at h3; cases h3
  | some x =>
    rw [hx] at h3
    injection h3 with h3
    subst h3
    have := h5 0 _ rfl
    rw [Nat.mul_one, Nat.add_zero] at this
    exact ⟨g, off, x, h1, h2, rfl, this⟩
theorem RdS.len {w : World} {B : Nat} {A : Option Addr} {n c : Nat} {L : List ByteArray} (h : RdS w B A n c L) : L.length = n := by have := h.1; rwa [List.length_map] at this
def mkP (sz : Int) (sg : Bool) (L : List ByteArray) : List PtT := L.map fun s => ⟨s, sz, sg, 0⟩
def RetP (L : List PtT) (w : World) (e : Ending) (w' : World) : Prop :=
  ∃ (A : Option Addr) (n c : Nat), e = .returned (.slice A n c) ∧ n = L.length ∧ w'.ownsRow w.heap.size 71 4 (.slice A n c) n (L.map ptC).flatten ∧ Below w.heap.size w w'
def RetFm (p : FmT) (w : World) (e : Ending) (w' : World) : Prop :=
  ∃ (A : Option Addr) (n c : Nat), e = .returned (.agg #[.string p.1, .slice A n c]) ∧ RdP w' w'.heap.size A n c p.2 ∧ Below w.heap.size w w'
theorem pt_info : (Tryz.prog.info? 71).map (fun i => (i.zero, i.size, i.bytes)) = some (some (.agg #[.string ⟨#[]⟩, .int .i64 0, .bool false, .int .i64 0]), 4, 40) := by kernel_rfl
theorem pt_flat (L : List PtT) (p : PtT) : (L.map ptC).flatten ++ ptC p = ((L ++ [p]).map ptC).flatten := by simp
theorem pts_one (L : List PtT) : ∀ u ∈ (L.map ptC).flatten, u.oneCell' = true := fun u hu => by
  obtain ⟨r, hr, hu⟩ := List.mem_flatten.1 hu
  obtain ⟨p, _, rfl⟩ := List.mem_map.1 hr
  exact ptC_one p u hu
set_option maxRecDepth 10000 in
set_option maxHeartbeats 4000000 in
theorem parts_any (sz : Int) (sg : Bool) (A : Option Addr) (n c : Nat) (L : List ByteArray) (w : World) (h : RdS w w.heap.size A n c L) (hn : n ≤ 1000) :
    Calls Tryz.prog 102 #[.int .i64 sz, .bool sg, .slice A n c] w (RetP (mkP sz sg L) w) := by
  have hll := h.len
  have hmx := h.2.2.2.1
  have hle := h.2.2.1
  unfold maxLen at hmx
  obtain ⟨i1, hi1⟩ := info_parts pt_info
  have Hi1 := Lib.hid hi1
  have Hll := Lib.hid hll
  clear hll hi1
  go_enter Tryz.func102, Tryz.ntmps102
  go_wp2_with fail
  go_loopw [7, 12] (fun o i wr => ∃ (k c3 : Nat) (A3 : Option Addr), k ≤ n ∧ i = .int .i64 k ∧ o = .slice A3 k c3 ∧ Below w.heap.size w wr ∧ wr.ownsRow w.heap.size 71 4 (.slice A3 k c3) k ((mkP sz sg (L.take k)).map ptC).flatten) (fun _ i _ => n - (intOf i).toNat)
  case atStart => exact ⟨0, 0, none, by omega, rfl, rfl, Below.refl _ _, World.ownsRow_nil _ _ _ _⟩
  case round =>
    obtain ⟨k, c3, A3, hk, rfl, rfl, hb, own3⟩ := hrel
    by_cases hlt : k < n
    · have hlt' : (k : Int) < (n : Int) := by omega
      obtain ⟨g, off, s, rfl, hg, hx, hc⟩ := RdS.at_ h hlt
      have hcw := (hb.cell (p := ⟨g, off + k, none⟩) hg).trans hc
      have Htx := Lib.hid (take_succ hx)
      have hbn : Below wr.heap.size wr (wr.alloc (.cells #[.string s, .int .i64 sz, .bool sg, .int .i64 0] 71)) := (Below.refl _ _).alloc (Nat.le_refl _) _
      have hrd : Rd _ _ 4 _ 1 1 (ptC ⟨s, sz, sg, 0⟩) := RdR.rd (RdR.lit (size := 4) (e := 71) wr [ptC ⟨s, sz, sg, 0⟩] #[.string s, .int .i64 sz, .bool sg, .int .i64 0] rfl (by intro r hr; rw [List.mem_singleton.1 hr]; rfl) (by simp [maxLen]) 1 rfl) (by omega)
      have hb4 := bnx hb hbn
      have own4 := own_up own3 hbn (Nat.le_refl _)
      clear hx hc hb own3 hbn
      go_wp2_with (at_builtin; refine stop_ ?_)
      generalize (wr.alloc (.cells #[.string s, .int .i64 sz, .bool sg, .int .i64 0] 71)) = w4 at *
      refine go_ (wpList_appG (base := w.heap.size) (n := k) Tryz.underlying55 Hi1.out rfl (by omega) own4 rfl hrd rfl (ptC_one _) (k := k + 1) (ys := ((mkP sz sg (L.take (k + 1))).map ptC).flatten) rfl (by rw [Htx.out]; unfold mkP; rw [List.map_append]; exact pt_flat _ _) (by unfold maxLen; omega) (by omega) hb4.size ?_)
      clear hcw
      intro A5 c5 w5 own5 hgr hob
      have hb5 := Below.grown hb4 hgr hb4.size (fun j hj => (own_blk own4 hj).1)
      clear hgr hob own4 hrd hb4
      go_wp2
      go_roundw
      case rel => exact ⟨k + 1, c5, A5, by omega, by go_num, rfl, hb5, own5⟩
      case measure => simp [intOf]; omega
    · obtain rfl : k = n := by omega
      rw [List.take_of_length_le (by rw [Hll.out]; exact Nat.le_refl _)] at own3
      go_wp2
      go_ret
      exact ⟨A3, k, c3, rfl, by unfold mkP; rw [List.length_map, Hll.out], own3, hb⟩
theorem u8_any (A : Option Addr) (n c : Nat) (L : List ByteArray) (w : World) (h : RdS w w.heap.size A n c L) (hn : n ≤ 1000) :
    Calls Tryz.prog 77 #[.slice A n c] w (RetP (mkP 1 false L) w) := by
  go_enter Tryz.func77, Tryz.ntmps77
  go_wp2_with fail
  go_fit (parts_any 1 false A n c L w h hn)
  unfold RetP
  rintro e w1 ⟨A1, n1, c1, rfl, hl, own, hb⟩
  have Hl := Lib.hid hl
  clear hl
  go_wp2
  go_ret
  exact ⟨A1, n1, c1, rfl, Hl.out, own, hb⟩
theorem u16_any (A : Option Addr) (n c : Nat) (L : List ByteArray) (w : World) (h : RdS w w.heap.size A n c L) (hn : n ≤ 1000) :
    Calls Tryz.prog 79 #[.slice A n c] w (RetP (mkP 2 false L) w) := by
  go_enter Tryz.func79, Tryz.ntmps79
  go_wp2_with fail
  go_fit (parts_any 2 false A n c L w h hn)
  unfold RetP
  rintro e w1 ⟨A1, n1, c1, rfl, hl, own, hb⟩
  have Hl := Lib.hid hl
  clear hl
  go_wp2
  go_ret
  exact ⟨A1, n1, c1, rfl, Hl.out, own, hb⟩
theorem u32_any (A : Option Addr) (n c : Nat) (L : List ByteArray) (w : World) (h : RdS w w.heap.size A n c L) (hn : n ≤ 1000) :
    Calls Tryz.prog 78 #[.slice A n c] w (RetP (mkP 4 false L) w) := by
  go_enter Tryz.func78, Tryz.ntmps78
  go_wp2_with fail
  go_fit (parts_any 4 false A n c L w h hn)
  unfold RetP
  rintro e w1 ⟨A1, n1, c1, rfl, hl, own, hb⟩
  have Hl := Lib.hid hl
  clear hl
  go_wp2
  go_ret
  exact ⟨A1, n1, c1, rfl, Hl.out, own, hb⟩
theorem u64_any (A : Option Addr) (n c : Nat) (L : List ByteArray) (w : World) (h : RdS w w.heap.size A n c L) (hn : n ≤ 1000) :
    Calls Tryz.prog 82 #[.slice A n c] w (RetP (mkP 8 false L) w) := by
  go_enter Tryz.func82, Tryz.ntmps82
  go_wp2_with fail
  go_fit (parts_any 8 false A n c L w h hn)
  unfold RetP
  rintro e w1 ⟨A1, n1, c1, rfl, hl, own, hb⟩
  have Hl := Lib.hid hl
  clear hl
  go_wp2
  go_ret
  exact ⟨A1, n1, c1, rfl, Hl.out, own, hb⟩
theorem i8_any (A : Option Addr) (n c : Nat) (L : List ByteArray) (w : World) (h : RdS w w.heap.size A n c L) (hn : n ≤ 1000) :
    Calls Tryz.prog 81 #[.slice A n c] w (RetP (mkP 1 true L) w) := by
  go_enter Tryz.func81, Tryz.ntmps81
  go_wp2_with fail
  go_fit (parts_any 1 true A n c L w h hn)
  unfold RetP
  rintro e w1 ⟨A1, n1, c1, rfl, hl, own, hb⟩
  have Hl := Lib.hid hl
  clear hl
  go_wp2
  go_ret
  exact ⟨A1, n1, c1, rfl, Hl.out, own, hb⟩
theorem i16_any (A : Option Addr) (n c : Nat) (L : List ByteArray) (w : World) (h : RdS w w.heap.size A n c L) (hn : n ≤ 1000) :
    Calls Tryz.prog 80 #[.slice A n c] w (RetP (mkP 2 true L) w) := by
  go_enter Tryz.func80, Tryz.ntmps80
  go_wp2_with fail
  go_fit (parts_any 2 true A n c L w h hn)
  unfold RetP
  rintro e w1 ⟨A1, n1, c1, rfl, hl, own, hb⟩
  have Hl := Lib.hid hl
  clear hl
  go_wp2
  go_ret
  exact ⟨A1, n1, c1, rfl, Hl.out, own, hb⟩
theorem i32_any (A : Option Addr) (n c : Nat) (L : List ByteArray) (w : World) (h : RdS w w.heap.size A n c L) (hn : n ≤ 1000) :
    Calls Tryz.prog 84 #[.slice A n c] w (RetP (mkP 4 true L) w) := by
  go_enter Tryz.func84, Tryz.ntmps84
  go_wp2_with fail
  go_fit (parts_any 4 true A n c L w h hn)
  unfold RetP
  rintro e w1 ⟨A1, n1, c1, rfl, hl, own, hb⟩
  have Hl := Lib.hid hl
  clear hl
  go_wp2
  go_ret
  exact ⟨A1, n1, c1, rfl, Hl.out, own, hb⟩
theorem i64_any (A : Option Addr) (n c : Nat) (L : List ByteArray) (w : World) (h : RdS w w.heap.size A n c L) (hn : n ≤ 1000) :
    Calls Tryz.prog 83 #[.slice A n c] w (RetP (mkP 8 true L) w) := by
  go_enter Tryz.func83, Tryz.ntmps83
  go_wp2_with fail
  go_fit (parts_any 8 true A n c L w h hn)
  unfold RetP
  rintro e w1 ⟨A1, n1, c1, rfl, hl, own, hb⟩
  have Hl := Lib.hid hl
  clear hl
  go_wp2
  go_ret
  exact ⟨A1, n1, c1, rfl, Hl.out, own, hb⟩
theorem own_g4 {w : World} {base : Nat} {e : TypeId} {size n : Nat} {A : Option Addr} {c : Nat} {xs : List Value} (h : w.ownsRow base e size (.slice A n c) n xs) (hn : 0 < n) : ∃ g, A = some ⟨g, 0, none⟩ ∧ base ≤ g := by
  obtain ⟨g, cap, hv, hg, _⟩ := h.form hn
  injection hv with h1 _ _
  exact ⟨g, h1, hg⟩
def setM (m : Int) (p : PtT) : PtT := { p with mn := m }
theorem flat_setM (m : Int) (A B : List PtT) (p : PtT) (k : Nat) (hk : A.length = k) : ((A ++ p :: B).map ptC).flatten.set (k * 4 + 3) (.int .i64 m) = (((A ++ [setM m p]) ++ B).map ptC).flatten := by
  have hl : ((A.map ptC).flatten).length = k * 4 := by rw [flat_len _ (ptC_len A), List.length_map, hk]
  rw [List.map_append, List.flatten_append, List.map_cons, List.flatten_cons, List.set_append_right (h := by omega), hl, show k * 4 + 3 - k * 4 = 3 by omega]
  simp [ptC, setM]
set_option maxRecDepth 10000 in
set_option maxHeartbeats 4000000 in
theorem array_any (m : Int) (A : Option Addr) (n c : Nat) (L : List ByteArray) (w : World) (h : RdS w w.heap.size A n c L) (hn : n ≤ 1000) :
    Calls Tryz.prog 85 #[.int .i64 m, .slice A n c] w (RetP ((mkP 1 false L).map (setM m)) w) := by
  have hu8 := u8_any A n c L w h hn
  have hML : (mkP 1 false L).length ≤ 1000 := by unfold mkP; rw [List.length_map, h.len]; exact hn
  generalize mkP 1 false L = M at *
  have Hu8 := Lib.hid hu8
  clear hu8
  go_enter Tryz.func85, Tryz.ntmps85
  go_wp2_with fail
  go_fit Hu8.out
  unfold RetP
  rintro e w1 ⟨A1, n1, c1, rfl, hl, own, hb⟩
  have hn1 : n1 ≤ 1000 := by rw [hl]; exact hML
  have Hl := Lib.hid hl
  clear hl Hu8
  go_wp2_with fail
  go_loopw [11] (fun i wr => ∃ (k : Nat), k ≤ n1 ∧ i = .int .i64 k ∧ Below w.heap.size w wr ∧ wr.ownsRow w.heap.size 71 4 (.slice A1 n1 c1) n1 ((((M.take k).map (setM m)) ++ M.drop k).map ptC).flatten) (fun i _ => n1 - (intOf i).toNat)
  case atStart => exact ⟨0, by omega, rfl, hb, by simpa using own⟩
  case round =>
    clear own hb w1
    obtain ⟨k, hk, rfl, hb, own⟩ := hrel
    by_cases hlt : k < n1
    · have hlt' : (k : Int) < (n1 : Int) := by omega
      have hkM : k < M.length := by rw [← Hl.out]; exact hlt
      have hg := own_g4 own (by omega)
      obtain ⟨g, rfl, hgB⟩ := hg
      have hfz : wr.frozen? ⟨g, k * 4 + 3, none⟩ = false := own.frozenAt (k * 4 + 3)
      have hcl : ∃ u, wr.cell? ⟨g, k * 4 + 3, none⟩ = some u := by
        have := own.cellAt (k * 4 + 3) (by omega)
        rw [List.getElem?_eq_getElem (by rw [own.1]; omega)] at this
        exact ⟨_, this⟩
      obtain ⟨u, hcl⟩ := hcl
      have hst := own.stored (k * 4 + 3) (Value.int .i64 m)
      have hdr : M.drop k = M[k] :: M.drop (k + 1) := List.drop_eq_getElem_cons hkM
      have hfl := flat_setM m ((M.take k).map (setM m)) (M.drop (k + 1)) M[k] k (by rw [List.length_map, List.length_take]; omega)
      rw [← hdr] at hfl
      rw [hfl] at hst
      have htk : (M.take k).map (setM m) ++ [setM m M[k]] = (M.take (k + 1)).map (setM m) := by rw [take_succ (List.getElem?_eq_getElem hkM), List.map_append]; rfl
      rw [htk] at hst
      have hst1 := hst.1
      have hb' := hb.setCell (p := ⟨g, k * 4 + 3, none⟩) hgB (Value.int .i64 m)
      clear hdr hfl htk hst own hkM
      go_wp2
      go_roundw
      case rel => exact ⟨k + 1, by omega, by go_num, hb', hst1⟩
      case measure => simp [intOf]; omega
    · obtain rfl : k = n1 := by omega
      rw [List.take_of_length_le (by rw [← Hl.out]; exact Nat.le_refl _), List.drop_eq_nil_of_le (by rw [← Hl.out]; exact Nat.le_refl _), List.append_nil] at own
      go_wp2
      go_ret
      exact ⟨A1, k, c1, rfl, by rw [List.length_map]; exact Hl.out, own, hb⟩
theorem aw_setRowS {w : World} (g : Nat) (cs : Array Value) : Aw (fun k => k = g) w (w.setRow g cs) :=
  ⟨setRow_os w _ _, setRow_tape w _ _, setRow_output w _ _, by rw [setRow_size]; exact Nat.le_refl _, fun k _ hu => setRow_other w _ k _ hu⟩
/-- A row of slices of parts. -/
structure RwT where
  A : Option Addr
  n : Nat
  c : Nat
  L : List PtT
def rwC (r : RwT) : List Value := [.slice r.A r.n r.c]
def RdRw (w : World) (B : Nat) (A : Option Addr) (n c : Nat) (T : List RwT) : Prop := RdR w B 1 A n c (T.map rwC) ∧ ∀ r ∈ T, RdP w B r.A r.n r.c r.L ∧ r.n ≤ 100
set_option maxRecDepth 10000 in
set_option maxHeartbeats 4000000 in
theorem of_any (nm : ByteArray) (A : Option Addr) (n c : Nat) (T : List RwT) (w : World) (h : RdRw w w.heap.size A n c T) (hn : n ≤ 100) :
    Calls Tryz.prog 76 #[.string nm, .slice A n c] w (RetFm (nm, T.flatMap RwT.L) w) := by
  obtain ⟨h, hT⟩ := h
  have hll : T.length = n := by have := h.1; rwa [List.length_map] at this
  have hmx := h.2.2.2.1
  have hle := h.2.2.1
  unfold maxLen at hmx
  obtain ⟨i1, hi1⟩ := info_parts pt_info
  have Hi1 := Lib.hid hi1
  have Hll := Lib.hid hll
  obtain ⟨a0, a1, hs, hb⟩ := al2 w (.cells #[.string ⟨#[]⟩, .slice none 0 0] 57) (.cells #[.string nm, .slice none 0 0] 57)
  clear hll hi1
  go_enter Tryz.func76, Tryz.ntmps76
  go_wp2_with fail
  go_loopw [12] (fun i wr => ∃ (k n3 c3 : Nat) (A3 : Option Addr), k ≤ n ∧ n3 ≤ 100 * k ∧ i = .int .i64 k ∧ wr.heap[w.heap.size]? = some (.cells #[.string ⟨#[]⟩, .slice none 0 0] 57) ∧ wr.heap[w.heap.size + 1]? = some (.cells #[.string nm, .slice A3 n3 c3] 57) ∧ Below w.heap.size w wr ∧ wr.ownsRow (w.heap.size + 2) 71 4 (.slice A3 n3 c3) n3 (((T.take k).flatMap RwT.L).map ptC).flatten ∧ Hid (((T.take k).flatMap RwT.L).length = n3)) (fun i _ => n - (intOf i).toNat)
  case atStart => exact ⟨0, 0, 0, none, by omega, by omega, rfl, a0, a1, hb, World.ownsRow_nil _ _ _ _, Lib.hid rfl⟩
  case round =>
    clear a0 a1 hb hs
    obtain ⟨k, n3, c3, A3, hk, hn3, rfl, a0, a1, hb, own3, Hl3⟩ := hrel
    have k1 := blk_cell (i := 1) (v := .slice A3 n3 c3) a1 rfl
    have hl1 := blk_lt a1
    by_cases hlt : k < n
    · have hlt' : (k : Int) < (n : Int) := by omega
      obtain ⟨g, off, r, hA, hg, hx, hrl, hr⟩ := RdR.at_ h hlt
      rw [List.getElem?_map] at hx
      obtain ⟨x, hxT⟩ : ∃ x, T[k]? = some x := ⟨_, List.getElem?_eq_getElem (by rw [Hll.out]; exact hlt)⟩
      rw [hxT] at hx
      injection hx with hx
      subst hx
      subst hA
      obtain ⟨hxr, hx100⟩ := hT x (List.mem_of_getElem? hxT)
      have hxl := hxr.len
      have hc := (hb.cell (p := ⟨g, off + k * 1 + 0, none⟩) hg).trans (hr 0 _ rfl)
      rw [Nat.mul_one, Nat.add_zero] at hc
      have Hts := Lib.hid (take_succ hxT)
      have hxw : RdP wr wr.heap.size x.A x.n x.c x.L := RdR.more (RdR.up hxr hb) hb.size
      have Hfl := Lib.hid (show (((T.take k).flatMap RwT.L).map ptC).flatten ++ (x.L.map ptC).flatten = (((T.take (k + 1)).flatMap RwT.L).map ptC).flatten by rw [Hts.out]; simp)
      have Hl4 := Lib.hid (show ((T.take (k + 1)).flatMap RwT.L).length = n3 + x.n by rw [Hts.out, List.flatMap_append, List.length_append, Hl3.out]; simp [hxl])
      have hlt3 : ∀ j, (Value.slice A3 n3 c3).ownBlock = some j → w.heap.size + 2 ≤ j := fun j hj => (own_blk own3 hj).1
      clear hr hrl hxT hxr hxl
      go_wp2_with (at_builtin; refine stop_ ?_)
      refine go_ (wpList_appG (base := w.heap.size + 2) (n := n3) Tryz.underlying55 Hi1.out rfl (by omega) own3 rfl (RdR.rd hxw (by omega)) rfl (pts_one _) (k := n3 + x.n) rfl Hfl.out (by unfold maxLen; omega) (by omega) (by omega) ?_)
      intro A5 c5 w5 own5 hgr hob
      have haw := Aw.of_grown hgr
      have b0 := haw.keep a0 (fun hu => by have := hlt3 _ hu; omega)
      have b1 := haw.keep a1 (fun hu => by have := hlt3 _ hu; omega)
      have hb5 := Below.grown hb hgr hb.size (fun j hj => by have := hlt3 j hj; omega)
      have s1 := blk_cell (i := 1) (v := .slice A3 n3 c3) b1 rfl
      have s2 := blk_free (i := 1) b1
      have hA8 : Aw (fun k => k = w.heap.size + 1) w5 (w5.setCell ⟨w.heap.size + 1, 1, none⟩ (.slice A5 (n3 + x.n) c5)) := (Aw.refl _ _).set _ rfl
      have m0 := hA8.keep b0 (by omega)
      have m1 := blk_set (i := 1) b1 (.slice A5 (n3 + x.n) c5)
      have m3 := own_aw own5 hA8 (fun j hj hu => by have := (own_blk own5 hj).1; omega)
      have m5 := hb5.setCell (p := ⟨w.heap.size + 1, 1, none⟩) (by show w.heap.size ≤ w.heap.size + 1; omega) (.slice A5 (n3 + x.n) c5)
      clear hgr hob own3 hxw haw b0 own5 hA8 hb5 hc k1 a0 a1
      go_wp2
      go_roundw
      case rel => exact ⟨k + 1, n3 + x.n, c5, A5, by omega, by omega, by go_num, m0, m1, m5, m3, Hl4⟩
      case measure => simp [intOf]; omega
    · obtain rfl : k = n := by omega
      have htk : T.take k = T := List.take_of_length_le (by rw [Hll.out]; exact Nat.le_refl _)
      rw [htk] at own3 Hl3
      have k0 := blk_cell (i := 0) (v := .string nm) a1 rfl
      have hb' := below_setRow hb (Nat.le_refl _) (#[.string nm, .slice A3 n3 c3] : Array Value)
      have b0 := setRow_heap _ _ _ (#[.string nm, .slice A3 n3 c3] : Array Value) _ _ a0
      have own8 := own_aw own3 (aw_setRowS w.heap.size (#[.string nm, .slice A3 n3 c3] : Array Value)) (fun j hj hu => by have := (own_blk own3 hj).1; omega)
      go_wp2_with (first | (with_reducible refine stop_storeT 57 ?_))
      refine go_ (wpList_store_row rfl _ _ _ rfl w.heap.size #[.string nm, .slice A3 n3 c3] rfl rfl _ _ a0 (by kernel_rfl) rfl (by kernel_rfl) ?_)
      generalize (wr.setRow w.heap.size #[.string nm, .slice A3 n3 c3]) = w9 at *
      have e0 := blk_cell (i := 0) (v := .string nm) b0 rfl
      have e1 := blk_cell (i := 1) (v := .slice A3 n3 c3) b0 rfl
      have hrp : RdP w9 w9.heap.size A3 n3 c3 (T.flatMap RwT.L) := RdP.own own8 Hl3.out
      clear own3 own8 a0 a1 k0 k1 b0 hb
      go_wp2
      refine bodyPost_ret (v := .agg #[.string nm, .slice A3 n3 c3]) (by simp [results, go_sem, e0, e1]) rfl ⟨A3, n3, c3, rfl, hrp, hb'⟩

end Go.Proofs.YtonejdjhdjckjaaGreat
