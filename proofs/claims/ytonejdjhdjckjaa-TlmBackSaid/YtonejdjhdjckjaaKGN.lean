/-
  Several texts in one: Sch16 Sch17 Sch18 SchLaw2.
-/
import Derived.Test.YtonejdjhdjckjaaKGI
import Derived.Test.YtonejdjhdjckjaaKStbS
import Derived.Test.YtonejdjhdjckjaaKGM
import Derived.Test.YtonejdjhdjckjaaKGL
import Derived.Test.YtonejdjhdjckjaaKGJ
/-
  schema.slots walked (printed by gen_sch6.py).
-/
set_option linter.unusedSimpArgs false
set_option linter.unusedVariables false
namespace Go.Proofs.Ytonejdjhdjckjaa
open Go.RowKit NumLaw
attribute [local go_sem] Addr.add_mid
attribute [-go_sem] run_eql_struct run_neq_struct

theorem offs_snoc : ∀ (l : List PtT) (n : Nat) (p : PtT), offs n (l ++ [p]) = offs n l ++ [(p, n + cntS l)]
  | [], n, p => rfl
  | q :: l, n, p => by
    show (q, n) :: offs (n + mx1 q.mn) (l ++ [p]) = (q, n) :: (offs (n + mx1 q.mn) l ++ [(p, n + cntS (q :: l))])
    rw [offs_snoc l, cntS_cons, Nat.add_assoc]
theorem sltL_snoc (l : List PtT) (p : PtT) : sltL (l ++ [p]) = sltL l ++ slP (p, cntS l) := by
  unfold sltL
  rw [offs_snoc, List.flatMap_append, Nat.zero_add]
  simp
def slJ (z : Int) (g : Bool) (N j : Nat) : List SlT := (List.range j).map fun i => (z, g, N + i)
theorem slJ_succ (z : Int) (g : Bool) (N j : Nat) : slJ z g N (j + 1) = slJ z g N j ++ [(z, g, N + j)] := by
  unfold slJ
  rw [List.range_succ, List.map_append]
  rfl
theorem sl_flat (L : List SlT) (s : SlT) : (L.map slC).flatten ++ slC s = ((L ++ [s]).map slC).flatten := by simp
theorem sl_row (L : List SlT) : ∀ r ∈ L.map slC, r.length = 3 := fun r hr => by obtain ⟨s, _, rfl⟩ := List.mem_map.1 hr; rfl
theorem frm_cnt (id : Int) : cntS (frm id).2 ≤ 300 := by
  rcases frm_at id with ⟨_, hf⟩ | ⟨_, hf⟩ | ⟨_, hf⟩ | ⟨_, hf⟩ | ⟨_, hf⟩ | ⟨_, hf⟩ | ⟨_, hf⟩ | ⟨_, hf⟩ | ⟨_, hf⟩ | ⟨_, hf⟩ | ⟨_, hf⟩ | ⟨_, hf⟩ | ⟨_, hf⟩ | ⟨_, hf⟩ | ⟨_, hf⟩ | ⟨_, hf⟩ | ⟨_, hf⟩ | ⟨_, hf⟩ | ⟨_, hf⟩ | ⟨_, hf⟩ | ⟨_, hf⟩ | ⟨_, hf⟩ | ⟨hf, _⟩ <;> rw [hf] <;> decide +kernel
theorem any_fb {n : Int} (h : szQ n) (g : Bool) : (-9223372036854775808 ≤ (anyF n g).size ∧ (anyF n g).size ≤ 9223372036854775807) ∧ (-9223372036854775808 ≤ (anyF n g).lo ∧ (anyF n g).lo ≤ 9223372036854775807) ∧ (-9223372036854775808 ≤ (anyF n g).hi ∧ (anyF n g).hi ≤ 9223372036854775807) := by
  rcases h with rfl | rfl | rfl | rfl <;> cases g <;> decide
theorem fld_fb {L : List PtT} (h : PtQ L) : FB ((wireS L).map fldOf) := fun f hf => by
  obtain ⟨s, hs, rfl⟩ := List.mem_map.1 hf
  exact any_fb (wire_q h s hs) _
theorem fld_fbT {L : List PtT} (h : PtQ L) (k : Nat) : FB (((wireS L).take k).map fldOf) := fun f hf => by
  obtain ⟨s, hs, rfl⟩ := List.mem_map.1 hf
  exact any_fb (wire_q h s (List.mem_of_mem_take hs)) _
set_option maxRecDepth 20000 in
set_option maxHeartbeats 8000000 in
theorem slots_any (nm : ByteArray) (A : Option Addr) (n c : Nat) (L : List PtT) (w : World) (h : RdP w w.heap.size A n c L) (hq : PtN L) (hcn : cntS L ≤ 1000) :
    Calls Try.prog 58 #[.agg #[.string nm, .slice A n c]] w fun e w' => ∃ (A1 : Option Addr) (c1 : Nat) (A2 : Option Addr) (c2 : Nat), e = .returned (.tuple #[.slice A1 (cntS L) c1, .slice A2 (cntS L) c2]) ∧ RdR w' w'.heap.size 3 A1 (cntS L) c1 ((wireS L).map slC) ∧ RdF w' w'.heap.size A2 (cntS L) c2 ((wireS L).map fldOf) ∧ Below w.heap.size w w' := by
  have hll := h.len
  have hmx := h.2.2.2.1
  have hle := h.2.2.1
  unfold maxLen at hmx
  obtain ⟨i1, hi1⟩ := info_parts sl_info
  have Hi1 := Lib.hid hi1
  obtain ⟨i2, hi2⟩ := info_parts field_info
  have Hi2 := Lib.hid hi2
  have hn100 : n ≤ 100 := by rw [← hll]; exact hq.2.1
  have Hll := Lib.hid hll
  have Hq := Lib.hid hq
  have Hcn := Lib.hid hcn
  have Hsn := Lib.hid (fun (l : List PtT) (p : PtT) => cntS_snoc p l)
  have Hsl := Lib.hid (fun (l : List PtT) (p : PtT) => sltL_snoc l p)
  have Hlen := Lib.hid (slt_len L)
  have Hwl := Lib.hid (wire_len L)
  have a0 := heap_alloc_new w (.cells #[.string nm, .slice A n c] 65)
  have e1 := blk_cell (i := 1) (v := .slice A n c) a0 rfl
  have hb1 : Below w.heap.size w (w.alloc (.cells #[.string nm, .slice A n c] 65)) := (Below.refl _ _).alloc (Nat.le_refl _) _
  have h1 := RdR.more (RdR.up h hb1) hb1.size
  obtain ⟨m0, hm0⟩ : ∃ m0, m0 = cntS L := ⟨_, rfl⟩
  rw [← hm0]
  have Hm0 := Lib.hid hm0
  obtain ⟨Z, hZ⟩ : ∃ Z, Z = wireS L := ⟨_, rfl⟩
  rw [← hZ]
  have HZ := Lib.hid hZ
  clear hll hi1 hi2 hq hcn a0 h hm0 hZ
  go_enter Try.func58, Try.ntmps58
  go_wp2_with fail
  generalize (w.alloc (.cells #[.string nm, .slice A n c] 65)) = w1 at *
  replace h1 : RdP w1 w1.heap.size A n c L := h1
  clear e1
  go_loopw [4, 13] (fun l i wr => ∃ (k m c3 : Nat) (A3 : Option Addr), k ≤ n ∧ m ≤ 100 * k ∧ i = .int .i64 k ∧ l = .slice A3 m c3 ∧ Below w1.heap.size w1 wr ∧ wr.ownsRow w1.heap.size 80 3 (.slice A3 m c3) m ((sltL (L.take k)).map slC).flatten ∧ Hid (m = cntS (L.take k))) (fun _ i _ => n - (intOf i).toNat)
  case atStart => exact ⟨0, 0, 0, none, by omega, by omega, rfl, rfl, Below.refl _ _, World.ownsRow_nil _ _ _ _, Lib.hid rfl⟩
  case round =>
    obtain ⟨k, m, c3, A3, hk, hm, rfl, rfl, hb, own3, Hm⟩ := hrel
    by_cases hlt : k < n
    · have hlt' : (k : Int) < (n : Int) := by omega
      obtain ⟨g, off, x, rfl, hg, hx, hr⟩ := RdP.at_ h1 hlt
      have k0 := (hb.cell (p := ⟨g, off + k * 4 + 0, none⟩) hg).trans (hr 0 _ rfl)
      have k1 := (hb.cell (p := ⟨g, off + k * 4 + 1, none⟩) hg).trans (hr 1 _ rfl)
      have k2 := (hb.cell (p := ⟨g, off + k * 4 + 2, none⟩) hg).trans (hr 2 _ rfl)
      have k3 := (hb.cell (p := ⟨g, off + k * 4 + 3, none⟩) hg).trans (hr 3 _ rfl)
      rw [Nat.add_zero] at k0
      have hfx := fun w => numbers_any x w
      have hd100 := Hq.out.2.2 x (List.mem_of_getElem? hx)
      have Hts := Lib.hid (take_succ hx)
      have hsn := Hsn.out (L.take k) x
      have hsl := Hsl.out (L.take k) x
      rw [← Hts.out, ← Hm.out] at hsn hsl
      obtain ⟨s1, z1, g1, m1⟩ := x
      have hsl2 : sltL (L.take (k + 1)) = sltL (L.take k) ++ slJ z1 g1 m (mx1 m1) := hsl
      dsimp only at k0 k1 k2 k3 hfx hsn hd100
      obtain ⟨d, hd⟩ : ∃ d : Nat, d = mx1 m1 := ⟨_, rfl⟩
      rw [← hd] at hfx hsn hd100 hsl2
      have Hsn1 := Lib.hid hsn
      have Hsl1 := Lib.hid hsl2
      have hfx2 : ∀ w, Calls Try.prog 50 #[.agg #[.string s1, .int .i64 z1, .bool g1, .int .i64 m1]] w fun e w' => e = .returned (.int .i64 (d : Int)) ∧ Below w.heap.size w w' := hfx
      have Hfx := Lib.hid hfx2
      have hbn : Below wr.heap.size wr (wr.alloc (.cells #[.string s1, .int .i64 z1, .bool g1, .int .i64 m1] 28)) := (Below.refl _ _).alloc (Nat.le_refl _) _
      have a0 := heap_alloc_new wr (.cells #[.string s1, .int .i64 z1, .bool g1, .int .i64 m1] 28)
      have hlt0 := blk_lt a0
      have d0 := blk_cell (i := 0) (v := .string s1) a0 rfl
      have d1 := blk_cell (i := 1) (v := .int .i64 z1) a0 rfl
      have d2 := blk_cell (i := 2) (v := .bool g1) a0 rfl
      have d3 := blk_cell (i := 3) (v := .int .i64 m1) a0 rfl
      have hb4 := bnx hb hbn
      have own4 := own_up own3 hbn (Nat.le_refl _)
      have hne : ∀ q, (Value.slice A3 m c3).ownBlock = some q → q ≠ wr.heap.size := fun q hq => by have := (own_blk own3 hq).2; omega
      have hs0 : m = m + 0 := rfl
      have own5 : (wr.alloc (.cells #[.string s1, .int .i64 z1, .bool g1, .int .i64 m1] 28)).ownsRow w1.heap.size 80 3 (.slice A3 m c3) m ((sltL (L.take k) ++ slJ z1 g1 m 0).map slC).flatten := by simpa [slJ] using own4
      have Hne := Lib.hid hne
      clear hx hr hfx hfx2 hsn hsl hsl2 hd hbn a0 hb own3 own4 hne hs0
      go_wp2_with fail
      go_fit (Hfx.out _)
      rintro e w6 ⟨rfl, hbx⟩
      obtain ⟨b0, hbb⟩ : ∃ b, b = wr.heap.size := ⟨_, rfl⟩
      rw [← hbb] at d1 d2 Hne hlt0 ⊢
      have q1 := (hbx.cell (p := ⟨b0, 1, none⟩) hlt0).trans d1
      have q2 := (hbx.cell (p := ⟨b0, 2, none⟩) hlt0).trans d2
      have hb6 := bnx hb4 hbx
      have own6 := own_up own5 hbx (Nat.le_refl _)
      have hlt6 : b0 < w6.heap.size := Nat.lt_of_lt_of_le hlt0 hbx.size
      clear k0 k1 k2 k3 d0 d1 d2 d3 hbx hb4 own5 hbb hlt0 Hfx
      go_wp2_with fail
      go_loopw [4, 19] (fun l i wr => ∃ (j m5 c5 : Nat) (A5 : Option Addr), j ≤ d ∧ m5 ≤ 100 * k + j ∧ i = .int .i64 j ∧ l = .slice A5 m5 c5 ∧ Below w1.heap.size w1 wr ∧ b0 < wr.heap.size ∧ wr.cell? ⟨b0, 1, none⟩ = some (.int .i64 z1) ∧ wr.cell? ⟨b0, 2, none⟩ = some (.bool g1) ∧ wr.ownsRow w1.heap.size 80 3 (.slice A5 m5 c5) m5 ((sltL (L.take k) ++ slJ z1 g1 m j).map slC).flatten ∧ Hid (m5 = m + j) ∧ Hid (∀ q, (Value.slice A5 m5 c5).ownBlock = some q → q ≠ b0)) (fun _ i _ => d - (intOf i).toNat)
      case atStart => exact ⟨0, m, c3, A3, by omega, by omega, rfl, rfl, hb6, hlt6, q1, q2, own6, Lib.hid rfl, Hne⟩
      case round =>
        clear hb6 hlt6 q1 q2 own6 Hne
        obtain ⟨j, m5, c5, A5, hj, hm5, rfl, rfl, hb6, hlt6, q1, q2, own6, Hm5, Hne⟩ := hrel
        by_cases hjd : j < d
        · have hjd' : (j : Int) < (d : Int) := by omega
          have hbn : Below wr.heap.size wr (wr.alloc (.cells #[.int .i64 z1, .bool g1, .int .i64 (m5 : Int)] 80)) := (Below.refl _ _).alloc (Nat.le_refl _) _
          have hrd : Rd _ _ 3 _ 1 1 (slC (z1, g1, m5)) := RdR.rd (RdR.lit (size := 3) (e := 80) wr [slC (z1, g1, m5)] #[.int .i64 z1, .bool g1, .int .i64 (m5 : Int)] rfl (by intro r hr; rw [List.mem_singleton.1 hr]; rfl) (by simp [maxLen]) 1 rfl) (by omega)
          have hb7 := bnx hb6 hbn
          have own7 := own_up own6 hbn (Nat.le_refl _)
          have hlt7 : b0 < (wr.alloc (.cells #[.int .i64 z1, .bool g1, .int .i64 (m5 : Int)] 80)).heap.size := Nat.lt_of_lt_of_le hlt6 hbn.size
          have p1 := (hbn.cell (p := ⟨b0, 1, none⟩) hlt6).trans q1
          have p2 := (hbn.cell (p := ⟨b0, 2, none⟩) hlt6).trans q2
          have Hfl := Lib.hid (show ((sltL (L.take k) ++ slJ z1 g1 m j).map slC).flatten ++ slC (z1, g1, m5) = ((sltL (L.take k) ++ slJ z1 g1 m (j + 1)).map slC).flatten by rw [sl_flat, slJ_succ, Hm5.out, List.append_assoc])
          clear hb6 hbn own6
          go_wp2_with (at_builtin; refine stop_ ?_)
          generalize (wr.alloc (.cells #[.int .i64 z1, .bool g1, .int .i64 (m5 : Int)] 80)) = w7 at *
          refine go_ (wpList_appG (base := w1.heap.size) (n := m5) Try.underlying75 Hi1.out rfl (by omega) own7 rfl hrd rfl (slC_one _) (k := m5 + 1) rfl Hfl.out (by unfold maxLen; omega) (by omega) hb7.size ?_)
          intro A8 c8 w8 own8 hgr hob
          have hb8 := Below.grown hb7 hgr hb7.size (fun j hj => (own_blk own7 hj).1)
          have hkeep : w8.heap[b0]? = w7.heap[b0]? := hgr.block b0 hlt7 (fun e => Hne.out b0 e.symm rfl)
          have r1 : w8.cell? ⟨b0, 1, none⟩ = some (.int .i64 z1) := (World.cell?_of_block (a := ⟨b0, 1, none⟩) hkeep).trans p1
          have r2 : w8.cell? ⟨b0, 2, none⟩ = some (.bool g1) := (World.cell?_of_block (a := ⟨b0, 2, none⟩) hkeep).trans p2
          have hlt8 : b0 < w8.heap.size := Nat.lt_of_lt_of_le hlt7 hgr.size
          have Hne8 : Hid (∀ q, (Value.slice A8 (m5 + 1) c8).ownBlock = some q → q ≠ b0) := Lib.hid (fun q hq => by
            rcases hob with ho | ho
            · exact Hne.out q (by rw [← ho]; exact hq)
            · rw [ho] at hq; injection hq with hq; omega)
          have Hm8 := Lib.hid (show m5 + 1 = m + (j + 1) by rw [Hm5.out]; omega)
          clear hgr hob own7 hrd hb7 q1 q2 p1 p2 hkeep hlt6 hlt7 Hne
          go_wp2
          go_roundw
          case rel => exact ⟨j + 1, m5 + 1, c8, A8, by omega, by omega, by go_num, rfl, hb8, hlt8, r1, r2, own8, Hm8, Hne8⟩
          case measure => simp [intOf]; omega
        · obtain rfl : j = d := by omega
          rw [← Hsl1.out] at own6
          have Hm9 : Hid (m5 = cntS (L.take (k + 1))) := Lib.hid (by rw [Hm5.out, Hsn1.out])
          have hm9 : m5 ≤ 100 * (k + 1) := by omega
          clear q1 q2 hlt6 Hne
          go_wp2
          go_roundw
          case rel => exact ⟨k + 1, m5, c5, A5, by omega, hm9, by go_num, rfl, hb6, own6, Hm9⟩
          case measure => simp [intOf]; omega
    · obtain rfl : k = n := by omega
      have htk : L.take k = L := List.take_of_length_le (by rw [Hll.out]; exact Nat.le_refl _)
      rw [htk] at own3 Hm
      have hmn : m ≤ 1000 := by rw [Hm.out]; exact Hcn.out
      have hrd : RdR wr wr.heap.size 3 A3 m c3 ((sltL L).map slC) := RdR.own own3 (by rw [List.length_map, Hlen.out, ← Hm.out]) (sl_row _)
      have hbf := bnx hb1 hb
      obtain rfl : m = m0 := by rw [Hm.out, Hm0.out]
      have Hwl2 : Hid (Z.length = m) := Lib.hid (by rw [HZ.out, Hwl.out, ← Hm.out])
      clear own3 htk hb hb1 h1 hm hk hlt
      go_wp2_with fail
      go_fit (stableS_any A3 m c3 (sltL L) wr hrd hmn)
      rintro e w2 ⟨A4, c4, rfl, hr4, hbx⟩
      have hb2 := bnx hbf hbx
      replace hr4 : RdR w2 w2.heap.size 3 A4 m c4 ((wireS L).map slC) := hr4
      rw [← HZ.out] at hr4
      have hmx4 := hr4.2.2.2.1
      have hle4 := hr4.2.2.1
      unfold maxLen at hmx4
      have Hfb := Lib.hid (fld_fb Hq.out.1)
      rw [← HZ.out] at Hfb
      clear hbx hbf hrd Hsn Hsl Hlen Hwl Hcn Hm Hm0 Hq Hll Hi1
      go_wp2_with fail
      go_loopw [7, 37] (fun o i wr => ∃ (k c3 : Nat) (A3 : Option Addr), k ≤ m ∧ i = .int .i64 k ∧ o = .slice A3 k c3 ∧ Below w2.heap.size w2 wr ∧ wr.ownsRow w2.heap.size 99 4 (.slice A3 k c3) k (fcs ((Z.take k).map fldOf))) (fun _ i _ => m - (intOf i).toNat)
      case atStart => exact ⟨0, 0, none, by omega, rfl, rfl, Below.refl _ _, World.ownsRow_nil _ _ _ _⟩
      case round =>
        obtain ⟨k, c3, A3, hk, rfl, rfl, hb, own3⟩ := hrel
        by_cases hlt : k < m
        · have hlt' : (k : Int) < (m : Int) := by omega
          obtain ⟨g, off, r, rfl, hg, hx0, hrl, hr⟩ := RdR.at_ hr4 hlt
          obtain ⟨x, hx, rfl⟩ : ∃ x, Z[k]? = some x ∧ r = slC x := by
            rw [List.getElem?_map] at hx0
            cases hz : Z[k]? with
            | none => rw [hz] at hx0; cases hx0
            | some x => rw [hz] at hx0; injection hx0 with hx0; exact ⟨x, rfl, hx0.symm⟩
          have k0 := (hb.cell (p := ⟨g, off + k * 3 + 0, none⟩) hg).trans (hr 0 _ rfl)
          have k1 := (hb.cell (p := ⟨g, off + k * 3 + 1, none⟩) hg).trans (hr 1 _ rfl)
          have k2 := (hb.cell (p := ⟨g, off + k * 3 + 2, none⟩) hg).trans (hr 2 _ rfl)
          rw [Nat.add_zero] at k0
          have hfl : fcs ((Z.take k).map fldOf) ++ fcs [fldOf x] = fcs ((Z.take (k + 1)).map fldOf) := by rw [take_succ hx, List.map_append, fcs_app]; rfl
          obtain ⟨z1, g1, m1⟩ := x
          have hany := fun w => shAny_any z1 g1 w
          have hfo : fldOf (z1, g1, m1) = anyF z1 g1 := rfl
          rw [hfo] at hfl
          generalize anyF z1 g1 = f at *
          obtain ⟨fs, fg, flo, fhi⟩ := f
          have hany2 : ∀ w, Calls Try.prog 84 #[.int .i64 z1, .bool g1] w fun e w' => e = .returned (.agg #[.int .i64 fs, .bool fg, .int .i64 flo, .int .i64 fhi]) ∧ Below w.heap.size w w' := hany
          have Hany := Lib.hid hany2
          have Hfl := Lib.hid hfl
          dsimp only at k0 k1 k2
          have hbn : Below wr.heap.size wr (wr.alloc (.cells #[.int .i64 z1, .bool g1, .int .i64 (m1 : Int)] 80)) := (Below.refl _ _).alloc (Nat.le_refl _) _
          have a0 := heap_alloc_new wr (.cells #[.int .i64 z1, .bool g1, .int .i64 (m1 : Int)] 80)
          have d0 := blk_cell (i := 0) (v := .int .i64 z1) a0 rfl
          have d1 := blk_cell (i := 1) (v := .bool g1) a0 rfl
          have hb4 := bnx hb hbn
          have own4 := own_up own3 hbn (Nat.le_refl _)
          clear hx hx0 hrl hr hany hany2 hfo hfl hb hbn a0 own3
          go_wp2_with fail
          go_fit (Hany.out _)
          rintro e w5 ⟨rfl, hbx⟩
          have hb5 := bnx hb4 hbx
          have own5 := own_up own4 hbx (Nat.le_refl _)
          have hbn : Below w5.heap.size w5 (w5.alloc (.cells #[.int .i64 fs, .bool fg, .int .i64 flo, .int .i64 fhi] 99)) := (Below.refl _ _).alloc (Nat.le_refl _) _
          have hrd : Rd (w5.alloc (.cells #[.int .i64 fs, .bool fg, .int .i64 flo, .int .i64 fhi] 99)) (w5.heap.size + 1) 4 (some ⟨w5.heap.size, 0, none⟩) 1 1 (fcs [⟨fs, fg, flo, fhi⟩]) := rd_litF w5 99 [⟨fs, fg, flo, fhi⟩] _ rfl (by simp [maxLen])
          have hb6 := bnx hb5 hbn
          have own6 := own_up own5 hbn (Nat.le_refl _)
          clear k0 k1 k2 d0 d1 hbx hb4 own4 hb5 own5 hbn
          go_wp2_with (at_builtin; refine stop_ ?_)
          generalize (w5.alloc (.cells #[.int .i64 fs, .bool fg, .int .i64 flo, .int .i64 fhi] 99)) = w6 at *
          refine go_ (wpList_appG (base := w2.heap.size) (n := k) Try.underlying76 Hi2.out rfl (by omega) own6 rfl hrd rfl (fcs_one _) (k := k + 1) rfl Hfl.out (by unfold maxLen; omega) (by omega) hb6.size ?_)
          intro A8 c8 w8 own8 hgr hob
          have hb8 := Below.grown hb6 hgr hb6.size (fun j hj => (own_blk own6 hj).1)
          clear hgr hob own6 hrd hb6
          go_wp2
          go_roundw
          case rel => exact ⟨k + 1, c8, A8, by omega, by go_num, rfl, hb8, own8⟩
          case measure => simp [intOf]; omega
        · obtain rfl : k = m := by omega
          have htk : Z.take k = Z := List.take_of_length_le (by rw [Hwl2.out]; exact Nat.le_refl _)
          rw [htk] at own3
          have hrf := rdF_own own3 Hfb.out
          have hrs : RdR wr wr.heap.size 3 A4 k c4 (Z.map slC) := RdR.more (RdR.up hr4 hb) hb.size
          have hbf := bnx hb2 hb
          clear own3 htk hr4 hb hb2
          go_wp2
          go_ret2
          exact ⟨A4, c4, A3, c3, rfl, hrs, hrf, hbf⟩

end Go.Proofs.Ytonejdjhdjckjaa

/-
  schema.Put walked (printed by gen_sch6.py).
-/
set_option linter.unusedSimpArgs false
set_option linter.unusedVariables false
namespace Go.Proofs.Ytonejdjhdjckjaa
open Go.RowKit NumLaw
attribute [local go_sem] Addr.add_mid
attribute [-go_sem] run_eql_struct run_neq_struct

/-- What Put and Take of a message tell. -/
def sPE (p : FmT) (v : List Int) : Nat := if p.1.toList.isEmpty = true then 6 else putSE p.2 v
def sPB (p : FmT) (v : List Int) : List UInt8 := if p.1.toList.isEmpty = true then [] else putSB p.2 v
def sTE (p : FmT) (b : List UInt8) : Nat := if p.1.toList.isEmpty = true then 6 else takSE p.2 b
def sTV (p : FmT) (b : List UInt8) : List Int := if p.1.toList.isEmpty = true then [] else takSV p.2 b
theorem sl_at {Z : List SlT} {w : World} {B : Nat} {A : Option Addr} {n c : Nat} (h : RdR w B 3 A n c (Z.map slC)) {k : Nat} (hk : k < n) : ∃ g off x, A = some ⟨g, off, none⟩ ∧ g < B ∧ Z[k]? = some x ∧ w.rangeAt g (off + k * 3) (slC x) := by
  obtain ⟨g, off, r, h1, h2, h3, h4, h5⟩ := RdR.at_ h hk
  rw [List.getElem?_map] at h3
  cases hz : Z[k]? with
  | none => rw [hz] at h3; cases h3
  | some x =>
    rw [hz] at h3
    injection h3 with h3
    subst h3
    exact ⟨g, off, x, h1, h2, rfl, h5⟩
theorem set_take {α : Type} {cur V : List α} {k n : Nat} {x : α} (hl : cur.length = n) (hk : k < n) (ht : cur.take k = V.take k) (hx : V[k]? = some x) : (cur.set k x).take (k + 1) = V.take (k + 1) := by
  rw [take_succ hx, ← ht]
  have h1 : (cur.set k x)[k]? = some x := by rw [List.getElem?_set_self (by omega)]
  rw [take_succ h1, List.take_set_of_le (Nat.le_refl _)]
set_option maxRecDepth 20000 in
set_option maxHeartbeats 8000000 in
theorem put31_any (id : Int) (A' : Option Addr) (n' c' : Nat) (v : List Int) (w : World) (h : Rd w w.heap.size 1 A' n' c' (v.map (Value.int .i64))) (hvb : ∀ x ∈ v, -9223372036854775808 ≤ x ∧ x ≤ 9223372036854775807) :
    Calls Try.prog 26 #[.int .i64 id, .slice A' n' c'] w (RetPS w (sPB (frm id) v) (sPE (frm id) v)) := by
  have hf := find_any id w
  have hN := frm_n id
  have hM := frm_nm id
  have hC := frm_cnt id
  have hlv : v.length = n' := by have := h.len; simpa using this
  have hmx := h.max
  have hle := h.le
  unfold maxLen at hmx
  generalize frm id = p at *
  obtain ⟨nm, L⟩ := p
  obtain ⟨m, hm⟩ : ∃ m, m = cntS L := ⟨_, rfl⟩
  have hs := fun A n c w h => slots_any nm A n c L w h hN (Nat.le_trans hC (by omega))
  have hC' : m ≤ 300 := by rw [hm]; exact hC
  rw [← hm] at hs
  have Hf := Lib.hid hf
  have Hs := Lib.hid hs
  have HN := Lib.hid hN
  have HM := Lib.hid hM
  have Hm := Lib.hid hm
  have Hwl : Hid ((wireS L).length = m) := Lib.hid (by rw [wire_len, hm])
  have Hat := Lib.hid (fun s (hs : s ∈ wireS L) => (show s.2.2 < m by rw [hm]; exact (ats_mem L s.2.2).1 (List.mem_map.2 ⟨s, hs, rfl⟩)))
  clear hf hs hC hm
  cases hem : nm.toList.isEmpty with
  | true =>
    have hv : sPB (nm, L) v = [] ∧ sPE (nm, L) v = 6 := by unfold sPB sPE; rw [if_pos hem, if_pos hem]; exact ⟨rfl, rfl⟩
    have Hv := Lib.hid hv
    clear hv hN hM hlv
    go_enter Try.func26, Try.ntmps26
    go_wp2_with fail
    go_fit Hf.out
    unfold RetFm
    rintro e w1 ⟨A, n, c, rfl, hr, hb⟩
    have a0 := heap_alloc_new w1 (.cells #[.string nm, .slice A n c] 65)
    have k0 := blk_cell (i := 0) (v := .string nm) a0 rfl
    have k1 := blk_cell (i := 1) (v := .slice A n c) a0 rfl
    have hba : Below w1.heap.size w1 (w1.alloc (.cells #[.string nm, .slice A n c] 65)) := (Below.refl _ _).alloc (Nat.le_refl _) _
    have hb2 := bnx hb hba
    have hlt := blk_lt a0
    have hr2 := RdR.more (RdR.up hr hba) hba.size
    clear hr hb hba a0
    go_wp2_with fail
    generalize (w1.alloc (.cells #[.string nm, .slice A n c] 65)) = w2 at *
    go_fit (Hs.out A n c w2 hr2)
    rintro e w3 ⟨A1, c1, A2, c2, rfl, hr3, hf3, hbx⟩
    have hb3 := bnx hb2 hbx
    have q0 := (hbx.cell (p := ⟨w1.heap.size, 0, none⟩) hlt).trans k0
    clear k0 k1 hbx hb2
    go_wp2
    go_ret2
    rw [Hv.out.1, Hv.out.2]
    exact ⟨none, 0, 0, rfl, World.ownsRow_nil _ _ _ _, hb3⟩
  | false =>
    have hv : sPB (nm, L) v = putSB L v ∧ sPE (nm, L) v = putSE L v := by unfold sPB sPE; rw [if_neg (by rw [hem]; exact Bool.false_ne_true), if_neg (by rw [hem]; exact Bool.false_ne_true)]; exact ⟨rfl, rfl⟩
    have Hv := Lib.hid hv
    clear hv hN hM
    by_cases hnm : n' = m
    case neg =>
      have hv2 : putSB L v = [] ∧ putSE L v = 1 := by
        have : ¬ v.length = cntS L := by rw [hlv, ← Hm.out]; exact hnm
        unfold putSB putSE; rw [if_neg this, if_neg this]; exact ⟨rfl, rfl⟩
      have Hv2 := Lib.hid hv2
      have hnq : ((n' : Int) != (m : Int)) = true := by simp; omega
      clear hv2 hlv
      go_enter Try.func26, Try.ntmps26
      go_wp2_with fail
      go_fit Hf.out
      unfold RetFm
      rintro e w1 ⟨A, n, c, rfl, hr, hb⟩
      have a0 := heap_alloc_new w1 (.cells #[.string nm, .slice A n c] 65)
      have k0 := blk_cell (i := 0) (v := .string nm) a0 rfl
      have k1 := blk_cell (i := 1) (v := .slice A n c) a0 rfl
      have hba : Below w1.heap.size w1 (w1.alloc (.cells #[.string nm, .slice A n c] 65)) := (Below.refl _ _).alloc (Nat.le_refl _) _
      have hb2 := bnx hb hba
      have hlt := blk_lt a0
      have hr2 := RdR.more (RdR.up hr hba) hba.size
      clear hr hb hba a0
      go_wp2_with fail
      generalize (w1.alloc (.cells #[.string nm, .slice A n c] 65)) = w2 at *
      go_fit (Hs.out A n c w2 hr2)
      rintro e w3 ⟨A1, c1, A2, c2, rfl, hr3, hf3, hbx⟩
      have hb3 := bnx hb2 hbx
      have q0 := (hbx.cell (p := ⟨w1.heap.size, 0, none⟩) hlt).trans k0
      clear k0 k1 hbx hb2
      go_wp2
      go_ret2
      rw [Hv.out.1, Hv.out.2, Hv2.out.1, Hv2.out.2]
      exact ⟨none, 0, 0, rfl, World.ownsRow_nil _ _ _ _, hb3⟩
    have hnq : ((n' : Int) != (m : Int)) = false := by simp; omega
    have hv2 : putSB L v = shP ((wireS L).map fldOf) ((wireS L).map (valOf v)) ∧ putSE L v = shE ((wireS L).map fldOf) ((wireS L).map (valOf v)) := by
      have : v.length = cntS L := by rw [hlv, ← Hm.out]; exact hnm
      unfold putSB putSE; rw [if_pos this, if_pos this]; exact ⟨rfl, rfl⟩
    have Hv2 := Lib.hid hv2
    have Hval := Lib.hid (fun (k : Nat) (s : SlT) (x : Int) (hs : (wireS L)[k]? = some s) (hx : v[s.2.2]? = some x) => (show ((wireS L).map (valOf v))[k]? = some x by rw [List.getElem?_map, hs]; show some (v.getD s.2.2 0) = _; rw [List.getD_eq_getElem?_getD, hx]; rfl))
    have Hvb2 : Hid (∀ x ∈ (wireS L).map (valOf v), -9223372036854775808 ≤ x ∧ x ≤ 9223372036854775807) := Lib.hid (fun x hx => by
      obtain ⟨s, hs, rfl⟩ := List.mem_map.1 hx
      show -9223372036854775808 ≤ v.getD s.2.2 0 ∧ v.getD s.2.2 0 ≤ 9223372036854775807
      rw [List.getD_eq_getElem?_getD]
      cases hg : v[s.2.2]? with
      | none => exact ⟨by decide, by decide⟩
      | some y => exact hvb y (List.mem_of_getElem? hg))
    have Hvl : Hid (((wireS L).map (valOf v)).length = m) := Lib.hid (by rw [List.length_map, Hwl.out])
    have hmk := run_make_row' (P := Try.prog) 35 2 (.int .i64 0) 8 Try.underlying35 i64_info rfl .i64 .i64 m (by omega) (by omega)
    rw [made_rep'] at hmk
    obtain ⟨z, hz⟩ : ∃ z, z = List.replicate m (Value.int .i64 0) := ⟨_, rfl⟩
    rw [← hz] at hmk
    have hzl : z.length = m := by rw [hz]; simp
    have Hzl := Lib.hid hzl
    have Hlv := Lib.hid hlv
    clear hzl hz hv2 hlv hvb
    go_enter Try.func26, Try.ntmps26
    go_wp2_with fail
    go_fit Hf.out
    unfold RetFm
    rintro e w1 ⟨A, n, c, rfl, hr, hb⟩
    have a0 := heap_alloc_new w1 (.cells #[.string nm, .slice A n c] 65)
    have k0 := blk_cell (i := 0) (v := .string nm) a0 rfl
    have k1 := blk_cell (i := 1) (v := .slice A n c) a0 rfl
    have hba : Below w1.heap.size w1 (w1.alloc (.cells #[.string nm, .slice A n c] 65)) := (Below.refl _ _).alloc (Nat.le_refl _) _
    have hb2 := bnx hb hba
    have hlt := blk_lt a0
    have hr2 := RdR.more (RdR.up hr hba) hba.size
    clear hr hb hba a0
    go_wp2_with fail
    generalize (w1.alloc (.cells #[.string nm, .slice A n c] 65)) = w2 at *
    go_fit (Hs.out A n c w2 hr2)
    rintro e w3 ⟨A1, c1, A2, c2, rfl, hr3, hf3, hbx⟩
    have hb3 := bnx hb2 hbx
    have q0 := (hbx.cell (p := ⟨w1.heap.size, 0, none⟩) hlt).trans k0
    have hmx3 := hr3.2.2.2.1
    have hle3 := hr3.2.2.1
    unfold maxLen at hmx3
    have hb4 : Below w3.heap.size w3 (w3.alloc (.cells z.toArray 2)) := (Below.refl _ _).alloc (Nat.le_refl _) _
    have hgm := heap_alloc_new w3 (.cells z.toArray 2)
    generalize wireS L = Z at *
    generalize Z.map (valOf v) = V at *
    clear k0 k1 hbx hb2 hr2 hlt Hs Hf HN HM
    go_wp2_with fail
    generalize (w3.alloc (.cells z.toArray 2)) = w4 at *
    obtain ⟨gm, hgg⟩ : ∃ gm, gm = w3.heap.size := ⟨_, rfl⟩
    have Hgg := Lib.hid hgg
    rw [← hgg] at hgm ⊢
    clear hgg q0 hmk
    go_loopw [34] (fun i wr => ∃ (k : Nat) (cur : List Value), k ≤ m ∧ i = .int .i64 k ∧ Below w3.heap.size w3 wr ∧ wr.heap[gm]? = some (.cells cur.toArray 2) ∧ Hid (cur.length = m) ∧ Hid (cur.take k = (V.map (Value.int .i64)).take k)) (fun i _ => m - (intOf i).toNat)
    case atStart => exact ⟨0, z, by omega, rfl, hb4, hgm, Hzl, Lib.hid rfl⟩
    case round =>
      clear hb4 hgm w4
      obtain ⟨k, cur, hk, rfl, hb, hgm, Hcl, Hct⟩ := hrel
      have hgml := blk_lt hgm
      by_cases hlt : k < m
      · have hlt' : (k : Int) < (m : Int) := by omega
        obtain ⟨g, off, x, rfl, hg, hx, hr⟩ := sl_at hr3 hlt
        have k0 := (hb.cell (p := ⟨g, off + k * 3 + 0, none⟩) hg).trans (hr 0 _ rfl)
        have k1 := (hb.cell (p := ⟨g, off + k * 3 + 1, none⟩) hg).trans (hr 1 _ rfl)
        have k2 := (hb.cell (p := ⟨g, off + k * 3 + 2, none⟩) hg).trans (hr 2 _ rfl)
        rw [Nat.add_zero] at k0
        have hat := Hat.out x (List.mem_of_getElem? hx)
        obtain ⟨ad, y, rfl, hy, hcy, hady⟩ := num_at h (show x.2.2 < n' by omega)
        have hxy := Hval.out k x y hx hy
        obtain ⟨z1, g1, at1⟩ := x
        dsimp only at k0 k1 k2 hat hcy
        have hat' : (at1 : Int) < (n' : Int) := by omega
        have hbw := bnx hb3 hb
        have hcu : cur[k]? = some (cur[k]'(by rw [Hcl.out]; exact hlt)) := List.getElem?_eq_getElem _
        generalize (cur[k]'(by rw [Hcl.out]; exact hlt)) = uo at hcu
        have e1 := blk_cell (i := k) (v := uo) hgm (by rw [List.getElem?_toArray]; exact hcu)
        have e2 := blk_free (i := k) hgm
        have hgms := blk_set (i := k) hgm (.int .i64 y)
        rw [List.setIfInBounds_toArray] at hgms
        have hbs := hb.setCell (p := ⟨gm, k, none⟩) (by rw [Hgg.out]; exact Nat.le_refl _) (.int .i64 y)
        have ky := (hbw.cell (p := ad.add at1) (by rw [blk_add]; exact hady)).trans hcy
        have a0 := heap_alloc_new wr (.cells #[.int .i64 z1, .bool g1, .int .i64 (at1 : Int)] 80)
        have d2 := blk_cell (i := 2) (v := .int .i64 (at1 : Int)) a0 rfl
        have hbn : Below wr.heap.size wr (wr.alloc (.cells #[.int .i64 z1, .bool g1, .int .i64 (at1 : Int)] 80)) := (Below.refl _ _).alloc (Nat.le_refl _) _
        have ky2 := (hbn.cell (p := ad.add at1) (by rw [blk_add]; have := hbw.size; omega)).trans ky
        have e3 := (hbn.cell (p := ⟨gm, k, none⟩) hgml).trans e1
        have hbn2 : Below (wr.setCell ⟨gm, k, none⟩ (.int .i64 y)).heap.size (wr.setCell ⟨gm, k, none⟩ (.int .i64 y)) ((wr.setCell ⟨gm, k, none⟩ (.int .i64 y)).alloc (.cells #[.int .i64 z1, .bool g1, .int .i64 (at1 : Int)] 80)) := (Below.refl _ _).alloc (Nat.le_refl _) _
        have hb5 := bnx hbs hbn2
        have hgm5 := (heap_alloc_old (wr.setCell ⟨gm, k, none⟩ (.int .i64 y)) (.cells #[.int .i64 z1, .bool g1, .int .i64 (at1 : Int)] 80) (blk_lt hgms)).trans hgms
        have Hcl5 : Hid ((cur.set k (.int .i64 y)).length = m) := Lib.hid (by rw [List.length_set]; exact Hcl.out)
        have Hct5 : Hid ((cur.set k (.int .i64 y)).take (k + 1) = (V.map (Value.int .i64)).take (k + 1)) := Lib.hid (set_take Hcl.out hlt Hct.out (by rw [List.getElem?_map, hxy]; rfl))
        clear hx hr hy hcy hxy hbn hbn2 a0 hbw hgm hgms hbs hcu hb
        go_wp2
        go_roundw
        case rel => exact ⟨k + 1, _, by omega, by go_num, hb5, hgm5, Hcl5, Hct5⟩
        case measure => simp [intOf]; omega
      · obtain rfl : k = m := by omega
        have hcv : cur = V.map (Value.int .i64) := by
          have h1 := Hct.out
          rwa [List.take_of_length_le (by rw [Hcl.out]; exact Nat.le_refl _), List.take_of_length_le (by rw [List.length_map, Hvl.out]; exact Nat.le_refl _)] at h1
        subst hcv
        have hrd := Rd.own (own_blkAll' (base := 0) hgm (Nat.zero_le _) Hcl.out (by unfold maxLen; omega))
        have hrf := RdF.up hf3 hb
        have hbf := bnx hb3 hb
        have hsz := hb.size
        clear hgm hb hf3 hr3 hb3
        go_wp2_with fail
        go_fit (shPut_any A2 k c2 w3.heap.size _ _ k k _ V wr hrf hsz hrd (Nat.le_refl _) (by omega) Hvb2.out)
        rintro e w5 ⟨A5, n5, c5, rfl, own5, hbx⟩
        have hbz := bnx hbf hbx
        have own6 := own_mono own5 hbf.size
        clear hbx hbf own5 hrd hrf
        go_wp2
        go_ret2
        rw [Hv.out.1, Hv.out.2, Hv2.out.1, Hv2.out.2]
        exact ⟨A5, n5, c5, rfl, own6, hbz⟩

end Go.Proofs.Ytonejdjhdjckjaa

/-
  schema.Take walked (printed by gen_sch6.py).
-/
set_option linter.unusedSimpArgs false
set_option linter.unusedVariables false
namespace Go.Proofs.Ytonejdjhdjckjaa
open Go.RowKit NumLaw
attribute [local go_sem] Addr.add_mid
attribute [-go_sem] run_eql_struct run_neq_struct

/-- The first k numbers laid at their places. -/
theorem scat_succ {Z : List SlT} {V : List Int} {k : Nat} {s : SlT} {x : Int} (o : List Int) (hs : Z[k]? = some s) (hx : V[k]? = some x) : scat o (((Z.map fun s => s.2.2).zip V).take (k + 1)) = (scat o (((Z.map fun s => s.2.2).zip V).take k)).set s.2.2 x := by
  have h1 : ((Z.map fun s => s.2.2).zip V)[k]? = some (s.2.2, x) := by rw [List.getElem?_zip_eq_some, List.getElem?_map, hs]; exact ⟨rfl, hx⟩
  rw [take_succ h1, scat_app]
  rfl
theorem shT_len {l : List FieldV} {b : List UInt8} (h : shTE l b = 0) : (shT l b).length = l.length := by
  unfold shT
  rw [if_pos h]
  exact takeV_len l b
set_option maxRecDepth 20000 in
set_option maxHeartbeats 8000000 in
theorem take31_any (id : Int) (A' : Option Addr) (n' c' : Nat) (b : List UInt8) (w : World) (h : Rd w w.heap.size 1 A' n' c' (bv b)) (hn' : n' ≤ 1000000000) :
    Calls Try.prog 28 #[.int .i64 id, .slice A' n' c'] w (RetTS w (sTV (frm id) b) (sTE (frm id) b)) := by
  have hf := find_any id w
  have hN := frm_n id
  have hM := frm_nm id
  have hC := frm_cnt id
  have hmx := h.max
  have hle := h.le
  unfold maxLen at hmx
  generalize frm id = p at *
  obtain ⟨nm, L⟩ := p
  obtain ⟨m, hm⟩ : ∃ m, m = cntS L := ⟨_, rfl⟩
  have hs := fun A n c w h => slots_any nm A n c L w h hN (Nat.le_trans hC (by omega))
  have hC' : m ≤ 300 := by rw [hm]; exact hC
  rw [← hm] at hs
  have Hf := Lib.hid hf
  have Hs := Lib.hid hs
  have HN := Lib.hid hN
  have HM := Lib.hid hM
  have Hm := Lib.hid hm
  have Hwl : Hid ((wireS L).length = m) := Lib.hid (by rw [wire_len, hm])
  have Hat := Lib.hid (fun s (hs : s ∈ wireS L) => (show s.2.2 < m by rw [hm]; exact (ats_mem L s.2.2).1 (List.mem_map.2 ⟨s, hs, rfl⟩)))
  clear hf hs hC hm
  cases hem : nm.toList.isEmpty with
  | true =>
    have hv : sTV (nm, L) b = [] ∧ sTE (nm, L) b = 6 := by unfold sTV sTE; rw [if_pos hem, if_pos hem]; exact ⟨rfl, rfl⟩
    have Hv := Lib.hid hv
    clear hv hN hM
    go_enter Try.func28, Try.ntmps28
    go_wp2_with fail
    go_fit Hf.out
    unfold RetFm
    rintro e w1 ⟨A, n, c, rfl, hr, hb⟩
    have a0 := heap_alloc_new w1 (.cells #[.string nm, .slice A n c] 65)
    have k0 := blk_cell (i := 0) (v := .string nm) a0 rfl
    have k1 := blk_cell (i := 1) (v := .slice A n c) a0 rfl
    have hba : Below w1.heap.size w1 (w1.alloc (.cells #[.string nm, .slice A n c] 65)) := (Below.refl _ _).alloc (Nat.le_refl _) _
    have hb2 := bnx hb hba
    have hlt := blk_lt a0
    have hr2 := RdR.more (RdR.up hr hba) hba.size
    clear hr hb hba a0
    clear hr2
    go_wp2
    go_ret2
    rw [Hv.out.1, Hv.out.2]
    exact ⟨none, 0, 0, rfl, World.ownsRow_nil _ _ _ _, hb2⟩
  | false =>
    have hv : sTV (nm, L) b = takSV L b ∧ sTE (nm, L) b = takSE L b := by unfold sTV sTE; rw [if_neg (by rw [hem]; exact Bool.false_ne_true), if_neg (by rw [hem]; exact Bool.false_ne_true)]; exact ⟨rfl, rfl⟩
    have Hv := Lib.hid hv
    clear hv hN hM
    have hfm : takSE L b = shTE ((wireS L).map fldOf) b := rfl
    have Hfm := Lib.hid hfm
    have hvl : ((wireS L).map fldOf).length = m := by rw [List.length_map, Hwl.out]
    have Hfl := Lib.hid hvl
    have hsv : shTE ((wireS L).map fldOf) b = 0 → takSV L b = scat (List.replicate m 0) (((wireS L).map fun s => s.2.2).zip (shT ((wireS L).map fldOf) b)) := fun h0 => by
      unfold takSV
      rw [if_pos (by rw [hfm]; exact h0), ← Hm.out]
      unfold atsS shT
      rw [if_pos h0]
    have hsv0 : ¬ shTE ((wireS L).map fldOf) b = 0 → takSV L b = [] := fun h0 => by
      unfold takSV
      rw [if_neg (by rw [hfm]; exact h0)]
    have Hsv := Lib.hid hsv
    have Hsv0 := Lib.hid hsv0
    clear hfm hvl hsv hsv0
    cases herr : shTE ((wireS L).map fldOf) b with
    | succ er =>
      have hev := Hsv0.out (by omega)
      have Hev := Lib.hid hev
      have heq : ((er + 1 : Nat) : Int) ≠ 0 := by omega
      have hbq : (((er + 1 : Nat) : Int) != 0) = true := by simp; omega
      obtain ⟨ee, hee⟩ : ∃ ee : Nat, ee = er + 1 := ⟨_, rfl⟩
      rw [← hee] at heq hbq herr
      have Herr := Lib.hid herr
      clear hev herr hee
      go_enter Try.func28, Try.ntmps28
      go_wp2_with fail
      go_fit Hf.out
      unfold RetFm
      rintro e w1 ⟨A, n, c, rfl, hr, hb⟩
      have a0 := heap_alloc_new w1 (.cells #[.string nm, .slice A n c] 65)
      have k0 := blk_cell (i := 0) (v := .string nm) a0 rfl
      have k1 := blk_cell (i := 1) (v := .slice A n c) a0 rfl
      have hba : Below w1.heap.size w1 (w1.alloc (.cells #[.string nm, .slice A n c] 65)) := (Below.refl _ _).alloc (Nat.le_refl _) _
      have hb2 := bnx hb hba
      have hlt := blk_lt a0
      have hr2 := RdR.more (RdR.up hr hba) hba.size
      clear hr hb hba a0
      go_wp2_with fail
      generalize (w1.alloc (.cells #[.string nm, .slice A n c] 65)) = w2 at *
      go_fit (Hs.out A n c w2 hr2)
      rintro e w3 ⟨A1, c1, A2, c2, rfl, hr3, hf3, hbx⟩
      have hb3 := bnx hb2 hbx
      clear k0 k1 hbx hb2 hr2 hlt
      go_wp2_with fail
      go_fit (shTake_any A2 m c2 w3.heap.size _ A' n' c' w.heap.size b w3 hf3 (Nat.le_refl _) (h.up hb3) hb3.size (by omega) hn')
      rintro e w4 ⟨A5, n5, c5, rfl, own5, hbx⟩
      have hb4 := bnx hb3 hbx
      rw [Herr.out]
      clear hbx hb3 own5 hr3 hf3
      go_wp2
      go_ret2
      rw [Hv.out.1, Hv.out.2, Hev.out, Hfm.out, Herr.out]
      exact ⟨none, 0, 0, rfl, World.ownsRow_nil _ _ _ _, hb4⟩
    | zero =>
      have hev := Hsv.out herr
      have Hev := Lib.hid hev
      have Herr := Lib.hid herr
      have Hvl := Lib.hid (shT_len herr)
      clear hev herr Hsv Hsv0
      have hmk := run_make_row' (P := Try.prog) 35 2 (.int .i64 0) 8 Try.underlying35 i64_info rfl .i64 .i64 m (by omega) (by omega)
      rw [made_rep'] at hmk
      obtain ⟨z, hz⟩ : ∃ z, z = List.replicate m (Value.int .i64 0) := ⟨_, rfl⟩
      rw [← hz] at hmk
      have hz2 : z = (List.replicate m (0 : Int)).map (Value.int .i64) := by rw [hz, List.map_replicate]
      have Hz := Lib.hid hz2
      clear hz hz2
      go_enter Try.func28, Try.ntmps28
      go_wp2_with fail
      go_fit Hf.out
      unfold RetFm
      rintro e w1 ⟨A, n, c, rfl, hr, hb⟩
      have a0 := heap_alloc_new w1 (.cells #[.string nm, .slice A n c] 65)
      have k0 := blk_cell (i := 0) (v := .string nm) a0 rfl
      have k1 := blk_cell (i := 1) (v := .slice A n c) a0 rfl
      have hba : Below w1.heap.size w1 (w1.alloc (.cells #[.string nm, .slice A n c] 65)) := (Below.refl _ _).alloc (Nat.le_refl _) _
      have hb2 := bnx hb hba
      have hlt := blk_lt a0
      have hr2 := RdR.more (RdR.up hr hba) hba.size
      clear hr hb hba a0
      go_wp2_with fail
      generalize (w1.alloc (.cells #[.string nm, .slice A n c] 65)) = w2 at *
      go_fit (Hs.out A n c w2 hr2)
      rintro e w3 ⟨A1, c1, A2, c2, rfl, hr3, hf3, hbx⟩
      have hb3 := bnx hb2 hbx
      have hmx3 := hr3.2.2.2.1
      have hle3 := hr3.2.2.1
      unfold maxLen at hmx3
      clear k0 k1 hbx hb2 hr2 hlt
      go_wp2_with fail
      go_fit (shTake_any A2 m c2 w3.heap.size _ A' n' c' w.heap.size b w3 hf3 (Nat.le_refl _) (h.up hb3) hb3.size (by omega) hn')
      rintro e w5 ⟨A5, n5, c5, rfl, own5, hbx⟩
      have hb5 := bnx hb3 hbx
      rw [Herr.out]
      have hrV := Rd.own own5
      have hr5 := RdR.more (RdR.up hr3 hbx) hbx.size
      have hn5 : n5 = m := by have := hrV.len; rw [List.length_map, Hvl.out, Hfl.out] at this; omega
      subst hn5
      have hmx5 := hrV.max
      have hle5 := hrV.le
      unfold maxLen at hmx5
      clear hbx hb3 own5 hr3 hf3
      have hb6 : Below w5.heap.size w5 (w5.alloc (.cells z.toArray 2)) := (Below.refl _ _).alloc (Nat.le_refl _) _
      have hgm : (w5.alloc (.cells z.toArray 2)).heap[w5.heap.size]? = some (.cells ((List.replicate n5 (0 : Int)).map (Value.int .i64)).toArray 2) := by rw [← Hz.out]; exact heap_alloc_new w5 (.cells z.toArray 2)
      generalize shT ((wireS L).map fldOf) b = V at *
      generalize wireS L = Z at *
      clear Hs Hf HN HM
      go_wp2_with fail
      generalize (w5.alloc (.cells z.toArray 2)) = w6 at *
      obtain ⟨gm, hgg⟩ : ∃ gm, gm = w5.heap.size := ⟨_, rfl⟩
      have Hgg := Lib.hid hgg
      rw [← hgg] at hgm ⊢
      clear hgg hmk
      go_loopw [38] (fun i wr => ∃ (k : Nat) (o : List Int), k ≤ n5 ∧ i = .int .i64 k ∧ Below w5.heap.size w5 wr ∧ wr.heap[gm]? = some (.cells (o.map (Value.int .i64)).toArray 2) ∧ Hid (o.length = n5) ∧ Hid (o = scat (List.replicate n5 0) (((Z.map fun s => s.2.2).zip V).take k))) (fun i _ => n5 - (intOf i).toNat)
      case atStart => exact ⟨0, List.replicate n5 0, by omega, rfl, hb6, hgm, Lib.hid (List.length_replicate ..), Lib.hid rfl⟩
      case round =>
        clear hb6 hgm w6
        obtain ⟨k, o, hk, rfl, hb, hgm, Hol, Ho⟩ := hrel
        have hgml := blk_lt hgm
        by_cases hlt : k < n5
        · have hlt' : (k : Int) < (n5 : Int) := by omega
          obtain ⟨g, off, x, rfl, hg, hx, hr⟩ := sl_at hr5 hlt
          have k0 := (hb.cell (p := ⟨g, off + k * 3 + 0, none⟩) hg).trans (hr 0 _ rfl)
          have k1 := (hb.cell (p := ⟨g, off + k * 3 + 1, none⟩) hg).trans (hr 1 _ rfl)
          have k2 := (hb.cell (p := ⟨g, off + k * 3 + 2, none⟩) hg).trans (hr 2 _ rfl)
          rw [Nat.add_zero] at k0
          have hat := Hat.out x (List.mem_of_getElem? hx)
          obtain ⟨ad, y, rfl, hy, hcy, hady⟩ := num_at hrV hlt
          have hsc := scat_succ (List.replicate n5 0) hx hy
          rw [← Ho.out] at hsc
          obtain ⟨z1, g1, at1⟩ := x
          dsimp only at k0 k1 k2 hat hsc
          have hat' : (at1 : Int) < (n5 : Int) := by omega
          have Hsc := Lib.hid hsc
          have hbn : Below wr.heap.size wr (wr.alloc (.cells #[.int .i64 z1, .bool g1, .int .i64 (at1 : Int)] 80)) := (Below.refl _ _).alloc (Nat.le_refl _) _
          have a0 := heap_alloc_new wr (.cells #[.int .i64 z1, .bool g1, .int .i64 (at1 : Int)] 80)
          have d2 := blk_cell (i := 2) (v := .int .i64 (at1 : Int)) a0 rfl
          have hb7 := bnx hb hbn
          have ky := (hb7.cell (p := ad.add k) (by rw [blk_add]; exact hady)).trans hcy
          have hgm7 := (heap_alloc_old wr (.cells #[.int .i64 z1, .bool g1, .int .i64 (at1 : Int)] 80) hgml).trans hgm
          obtain ⟨g0, hg0⟩ : ∃ g0, g0 = wr.heap.size := ⟨_, rfl⟩
          rw [← hg0] at d2
          have Hg0 := Lib.hid hg0
          clear hx hr hy hcy hsc hbn a0 hb hgm hgml hg0
          go_wp2_with fail
          rw [← Hg0.out]
          refine Ord.region_ (fun _ => True) false [45, 49] (by kernel_rfl) (by kernel_rfl) trivial ?_
          replace hgm7 : (wr.alloc (.cells #[.int .i64 z1, .bool g1, .int .i64 (at1 : Int)] 80)).drew.heap[gm]? = _ := hgm7
          replace hb7 := hb7.drew
          replace ky : (wr.alloc (.cells #[.int .i64 z1, .bool g1, .int .i64 (at1 : Int)] 80)).drew.cell? _ = _ := ky
          replace d2 : (wr.alloc (.cells #[.int .i64 z1, .bool g1, .int .i64 (at1 : Int)] 80)).drew.cell? _ = _ := d2
          generalize (wr.alloc (.cells #[.int .i64 z1, .bool g1, .int .i64 (at1 : Int)] 80)).drew = w7 at *
          clear k0 k1 k2
          have hou : (o.map (Value.int .i64))[at1]? = some (.int .i64 (o.getD at1 0)) := by rw [List.getElem?_map, List.getD_eq_getElem?_getD, List.getElem?_eq_getElem (by rw [Hol.out]; exact hat)]; rfl
          have e1 := blk_cell (i := at1) (v := .int .i64 (o.getD at1 0)) hgm7 (by rw [List.getElem?_toArray]; exact hou)
          have e2 := blk_free (i := at1) hgm7
          have hgm8 := blk_set (i := at1) hgm7 (.int .i64 y)
          rw [List.setIfInBounds_toArray, show ((o.map (Value.int .i64)).set at1 (.int .i64 y)) = (o.set at1 y).map (Value.int .i64) from (List.map_set ..).symm] at hgm8
          have hb8 := hb7.setCell (p := ⟨gm, at1, none⟩) (by rw [Hgg.out]; exact Nat.le_refl _) (.int .i64 y)
          have Hol8 : Hid ((o.set at1 y).length = n5) := Lib.hid (by rw [List.length_set]; exact Hol.out)
          ((with_reducible refine Ord.e_p (v := ?_) ?_ ?_ ?_ ?_); rotate_left; (· exact rfl); (· kernel_rfl); (· intro w2; go_simp; try with_reducible rfl))
          (try simp only [Act.put, List.setIfInBounds_toArray, List.set_cons_zero, List.set_cons_succ])
          ((with_reducible refine Ord.e_p (v := ?_) ?_ ?_ ?_ ?_); rotate_left; (· exact rfl); (· kernel_rfl); (· intro w2; go_simp; try with_reducible rfl))
          (try simp only [Act.put, List.setIfInBounds_toArray, List.set_cons_zero, List.set_cons_succ])
          refine Ord.e_load Try.underlying3 rfl d2 rfl (by kernel_rfl) (by kernel_rfl) ?_
          (try simp only [Act.put, List.setIfInBounds_toArray, List.set_cons_zero, List.set_cons_succ])
          ((with_reducible refine Ord.e_p (v := ?_) ?_ ?_ ?_ ?_); rotate_left; (· exact rfl); (· kernel_rfl); (· intro w2; go_simp; try with_reducible rfl))
          (try simp only [Act.put, List.setIfInBounds_toArray, List.set_cons_zero, List.set_cons_succ])
          ((with_reducible refine Ord.e_p (v := ?_) ?_ ?_ ?_ ?_); rotate_left; (· exact rfl); (· kernel_rfl); (· intro w2; go_simp; try with_reducible rfl))
          (try simp only [Act.put, List.setIfInBounds_toArray, List.set_cons_zero, List.set_cons_succ])
          ((with_reducible refine Ord.e_p (v := ?_) ?_ ?_ ?_ ?_); rotate_left; (· exact rfl); (· kernel_rfl); (· intro w2; go_simp; try with_reducible rfl))
          (try simp only [Act.put, List.setIfInBounds_toArray, List.set_cons_zero, List.set_cons_succ])
          refine Ord.e_load Try.underlying2 rfl ky rfl (by kernel_rfl) (by kernel_rfl) ?_
          (try simp only [Act.put, List.setIfInBounds_toArray, List.set_cons_zero, List.set_cons_succ])
          ((with_reducible refine Ord.e_p (v := ?_) ?_ ?_ ?_ ?_); rotate_left; (· exact rfl); (· kernel_rfl); (· intro w2; go_simp; try with_reducible rfl))
          (try simp only [Act.put, List.setIfInBounds_toArray, List.set_cons_zero, List.set_cons_succ])
          refine Ord.e_x rfl (by kernel_rfl) ?_
          go_wp2
          refine Ord.Seg.go trivial (fun h => by cases h) ?_
          (try simp only [Act.put, List.setIfInBounds_toArray, List.set_cons_zero, List.set_cons_succ])
          refine Ord.e_nil ?_
          generalize (w7.setCell ⟨gm, at1, none⟩ (.int .i64 y)) = w8 at *
          clear hgm7 hb7 ky d2 hou e1 e2
          go_wp2
          go_roundw
          case rel => exact ⟨k + 1, o.set at1 y, by omega, by go_num, hb8, hgm8, Hol8, Lib.hid Hsc.out.symm⟩
          case measure => simp [intOf]; omega
        · obtain rfl : k = n5 := by omega
          have htk : ((Z.map fun s => s.2.2).zip V).take k = (Z.map fun s => s.2.2).zip V := List.take_of_length_le (by rw [List.length_zip, List.length_map, Hwl.out]; omega)
          rw [htk] at Ho
          have hbf := bnx hb5 hb
          have own := own_blkAll' (base := w.heap.size) (n := k) hgm (by rw [Hgg.out]; exact hb5.size) (by rw [List.length_map]; exact Hol.out) (by unfold maxLen; omega)
          clear hgm hb hb5 htk hr5 hrV
          go_wp2
          go_ret2
          rw [Hv.out.1, Hv.out.2, Hev.out, Hfm.out, Herr.out, ← Ho.out]
          exact ⟨_, _, _, rfl, own, hbf⟩

end Go.Proofs.Ytonejdjhdjckjaa

/-
  The plain law of the document's Put and Take of schema: part by part.
-/
set_option linter.unusedSimpArgs false
set_option linter.unusedVariables false
namespace Go.Proofs.Ytonejdjhdjckjaa
open Go.RowKit NumLaw

def fldsP (p : PtT) : List FieldV := List.replicate (mx1 p.mn) (anyF p.sz p.sg)
theorem slP_fld (p : PtT × Nat) : (slP p).map fldOf = fldsP p.1 := by
  unfold slP fldsP
  rw [List.map_map]
  show (List.range _).map (fun _ => anyF p.1.sz p.1.sg) = _
  rw [List.map_const', List.length_range]
theorem slP_at (p : PtT × Nat) : (slP p).map (fun s => s.2.2) = (List.range (mx1 p.1.mn)).map fun j => p.2 + j := by
  unfold slP
  rw [List.map_map]
  rfl
theorem slP_val {v : List Int} {p : PtT × Nat} (h : p.2 + mx1 p.1.mn ≤ v.length) : (slP p).map (valOf v) = (v.drop p.2).take (mx1 p.1.mn) := by
  unfold slP
  rw [List.map_map]
  refine List.ext_getElem? fun i => ?_
  by_cases hi : i < mx1 p.1.mn
  · rw [List.getElem?_map, List.getElem?_range hi, List.getElem?_take_of_lt hi, List.getElem?_drop]
    show some (v.getD (p.2 + i) 0) = _
    rw [List.getD_eq_getElem?_getD, List.getElem?_eq_getElem (by omega)]
    rfl
  · rw [List.getElem?_eq_none (by simp; omega), List.getElem?_eq_none (by simp; omega)]
theorem offs_at : ∀ (l : List PtT) (n k : Nat) (p : PtT), l[k]? = some p → (offs n l)[k]? = some (p, n + cntS (l.take k))
  | [], _, _, _, h => by simp at h
  | q :: l, n, 0, p, h => by
    simp at h
    subst h
    rfl
  | q :: l, n, k + 1, p, h => by
    show (offs (n + mx1 q.mn) l)[k]? = _
    rw [offs_at l _ k p (by simpa using h), List.take_succ_cons, cntS_cons, Nat.add_assoc]
theorem offs_len : ∀ (l : List PtT) (n : Nat), (offs n l).length = l.length
  | [], _ => rfl
  | q :: l, n => by
    show (offs (n + mx1 q.mn) l).length + 1 = _
    rw [offs_len l]
    rfl
theorem cnt_take_le {L : List PtT} {n : Nat} {p : PtT} (h : L[n]? = some p) : cntS (L.take n) + mx1 p.mn ≤ cntS L := by
  have h1 : L = L.take n ++ (p :: L.drop (n + 1)) := by
    obtain ⟨hn, rfl⟩ := List.getElem?_eq_some_iff.1 h
    rw [List.getElem_cons_drop, List.take_append_drop]
  have h2 : cntS L = cntS (L.take n) + cntS (p :: L.drop (n + 1)) := by
    have e : ∀ a b : List PtT, cntS (a ++ b) = cntS a + cntS b := fun a b => by
      unfold cntS
      rw [List.map_append, List.foldl_append, foldl_add0]
    rw [← e, ← h1]
  rw [h2, cntS_cons]
  omega
theorem offs_ord (L : List PtT) : ((List.range L.length).map fun k => (L.getD k ptD, cntS (L.take k))) = offs 0 L := by
  refine List.ext_getElem? fun i => ?_
  by_cases hi : i < L.length
  · have h1 : L[i]? = some L[i] := List.getElem?_eq_getElem hi
    rw [offs_at L 0 i _ h1, List.getElem?_map, List.getElem?_range hi]
    show some (L.getD i ptD, cntS (L.take i)) = _
    rw [List.getD_eq_getElem?_getD, h1, Nat.zero_add]
    rfl
  · rw [List.getElem?_eq_none (by simp; omega), List.getElem?_eq_none (by rw [offs_len]; omega)]
theorem wireP_ord (L : List PtT) : wireP L = (ordS L).map fun k => (L.getD k ptD, cntS (L.take k)) := by
  unfold wireP ordS szK
  rw [← offs_ord]
  exact (stb_map (fun p : PtT × Nat => p.1.sz) (fun k : Nat => (L.getD k ptD, cntS (L.take k))) (List.range L.length)).symm
theorem wireP_at {L : List PtT} {k n : Nat} {p : PtT} (h : (ordS L)[k]? = some n) (hp : L[n]? = some p) : (wireP L)[k]? = some (p, cntS (L.take n)) := by
  rw [wireP_ord, List.getElem?_map, h]
  show some (L.getD n ptD, _) = _
  rw [List.getD_eq_getElem?_getD, hp]
  rfl
theorem wireP_len (L : List PtT) : (wireP L).length = L.length := by rw [wireP_ord, List.length_map, ord_len]
theorem fldsP_right {p : PtT} (h : szQ p.sz) : rightL (fldsP p) = true := by
  unfold rightL fldsP
  rw [List.all_eq_true]
  intro f hf
  rw [List.mem_replicate] at hf
  rw [hf.2]
  exact (any_right h _).1
theorem fldsP_len (p : PtT) : (fldsP p).length = mx1 p.mn := List.length_replicate ..
theorem sumL_rep (f : FieldV) : ∀ n, sumL (List.replicate n f) = f.size.toNat * n
  | 0 => rfl
  | n + 1 => by rw [List.replicate_succ, sumL_cons, sumL_rep f n, Nat.mul_succ, Nat.add_comm]
theorem fldsP_sum {p : PtT} (h : szQ p.sz) : sumL (fldsP p) = p.sz.toNat * mx1 p.mn := by
  unfold fldsP
  rw [sumL_rep, (any_right h _).2]
/-- One part, as the document puts it. -/
theorem put_part {v : List Int} {p : PtT} {a : Nat} (hq : szQ p.sz) (h : a + mx1 p.mn ≤ v.length) :
    shE (fldsP p) ((v.drop a).take (mx1 p.mn)) = (if okP v (p, a) = true then 0 else 5) ∧ (okP v (p, a) = true → shP (fldsP p) ((v.drop a).take (mx1 p.mn)) = byP v (p, a)) := by
  have hl : ((v.drop a).take (mx1 p.mn)).length = (fldsP p).length := by rw [fldsP_len, List.length_take, List.length_drop]; omega
  have h1 : shE (fldsP p) ((v.drop a).take (mx1 p.mn)) = if okP v (p, a) = true then 0 else 5 := by
    unfold shE okP
    rw [if_pos ⟨fldsP_right hq, hl⟩, slP_fld, slP_val h]
  refine ⟨h1, fun ho => ?_⟩
  unfold shP byP
  rw [h1, if_pos ho, if_pos rfl, slP_fld, slP_val h]
theorem all_not {α : Type} {f : α → Bool} {l : List α} {k : Nat} {x : α} (h : l[k]? = some x) (hx : f x = false) : ¬ l.all f = true := fun hh => by
  rw [List.all_eq_true] at hh
  have := hh x (List.mem_of_getElem? h)
  rw [hx] at this
  exact Bool.false_ne_true this

/-! ### take -/
def fPs (X : List (PtT × Nat)) : List FieldV := (X.flatMap slP).map fldOf
def aPs (X : List (PtT × Nat)) : List Nat := (X.flatMap slP).map fun s => s.2.2
theorem fPs_snoc (X : List (PtT × Nat)) (p : PtT × Nat) : fPs (X ++ [p]) = fPs X ++ fldsP p.1 := by
  unfold fPs
  rw [List.flatMap_append, List.map_append]
  simp [slP_fld]
theorem aPs_snoc (X : List (PtT × Nat)) (p : PtT × Nat) : aPs (X ++ [p]) = aPs X ++ (List.range (mx1 p.1.mn)).map fun j => p.2 + j := by
  unfold aPs
  rw [List.flatMap_append, List.map_append]
  simp [slP_at]
theorem sumL_app (A B : List FieldV) : sumL (A ++ B) = sumL A + sumL B := by
  unfold sumL
  rw [List.map_append, List.foldl_append, foldl_add0]
theorem takeV_app : ∀ (A B : List FieldV) (b : List UInt8), takeV (A ++ B) b = takeV A b ++ takeV B (b.drop (sumL A))
  | [], B, b => rfl
  | f :: A, B, b => by
    show fieldV f _ :: takeV (A ++ B) _ = fieldV f _ :: (takeV A _ ++ _)
    rw [takeV_app A, List.drop_drop, sumL_cons]
theorem takeV_take : ∀ (A : List FieldV) (b : List UInt8) (n : Nat), sumL A ≤ n → takeV A (b.take n) = takeV A b
  | [], _, _, _ => rfl
  | f :: A, b, n, h => by
    rw [sumL_cons] at h
    show fieldV f _ :: takeV A _ = fieldV f _ :: takeV A _
    rw [List.take_take, Nat.min_eq_left (by omega), List.drop_take, takeV_take A _ _ (by omega)]
theorem aPs_len (X : List (PtT × Nat)) : (aPs X).length = (fPs X).length := by unfold aPs fPs; rw [List.length_map, List.length_map]
/-- The numbers of some parts, laid at their places. -/
def layT (n : Nat) (X : List (PtT × Nat)) (b : List UInt8) : List Int := scat (List.replicate n 0) ((aPs X).zip (takeV (fPs X) b))
def okT (X : List (PtT × Nat)) (b : List UInt8) : Bool := inAll (fPs X) (takeV (fPs X) b)
theorem layT_snoc (n : Nat) (X : List (PtT × Nat)) (p : PtT × Nat) (b : List UInt8) : layT n (X ++ [p]) b = scat (layT n X b) (((List.range (mx1 p.1.mn)).map fun j => p.2 + j).zip (takeV (fldsP p.1) (b.drop (sumL (fPs X))))) := by
  unfold layT
  rw [fPs_snoc, aPs_snoc, takeV_app, List.zip_append (by rw [takeV_len, aPs_len]), scat_app]
theorem okT_snoc (X : List (PtT × Nat)) (p : PtT × Nat) (b : List UInt8) : okT (X ++ [p]) b = (okT X b && inAll (fldsP p.1) (takeV (fldsP p.1) (b.drop (sumL (fPs X))))) := by
  unfold okT
  rw [fPs_snoc, takeV_app, inAll_app (by rw [takeV_len])]
theorem okT_more (X Y : List (PtT × Nat)) (b : List UInt8) (h : okT (X ++ Y) b = true) : okT X b = true := by
  unfold okT fPs at h ⊢
  rw [List.flatMap_append, List.map_append, takeV_app, inAll_app (by rw [takeV_len]), Bool.and_eq_true] at h
  exact h.1
theorem sum_more (X Y : List (PtT × Nat)) : sumL (fPs X) ≤ sumL (fPs (X ++ Y)) := by
  unfold fPs
  rw [List.flatMap_append, List.map_append, sumL_app]
  omega
/-- One part, as the document takes it. -/
theorem take_part {b : List UInt8} {p : PtT} {D : Nat} (hq : szQ p.sz) (h : D + p.sz.toNat * mx1 p.mn ≤ b.length) :
    shTE (fldsP p) ((b.drop D).take (p.sz.toNat * mx1 p.mn)) = (if inAll (fldsP p) (takeV (fldsP p) (b.drop D)) = true then 0 else 5) ∧ (inAll (fldsP p) (takeV (fldsP p) (b.drop D)) = true → shT (fldsP p) ((b.drop D).take (p.sz.toNat * mx1 p.mn)) = takeV (fldsP p) (b.drop D)) := by
  have hs := fldsP_sum hq
  have hl : ((b.drop D).take (p.sz.toNat * mx1 p.mn)).length = p.sz.toNat * mx1 p.mn := by rw [List.length_take, List.length_drop]; omega
  have h1 : shTE (fldsP p) ((b.drop D).take (p.sz.toNat * mx1 p.mn)) = if inAll (fldsP p) (takeV (fldsP p) (b.drop D)) = true then 0 else 5 := by
    unfold shTE
    rw [if_pos (fldsP_right hq), hl, hs, if_neg (Nat.lt_irrefl _), if_neg (Nat.lt_irrefl _), takeV_take _ _ _ (by rw [hs]; exact Nat.le_refl _)]
  refine ⟨h1, fun ho => ?_⟩
  unfold shT
  rw [h1, if_pos ho, if_pos rfl, takeV_take _ _ _ (by rw [hs]; exact Nat.le_refl _)]
theorem take_all {l : List PtT} {b : List UInt8} (hq : PtQ l) (hb : b.length = wdS l) : takSE l b = (if okT (wireP l) b = true then 0 else 5) ∧ takSV l b = (if okT (wireP l) b = true then layT (cntS l) (wireP l) b else []) := by
  have hw := wire_wd hq
  have h1 : takSE l b = if okT (wireP l) b = true then 0 else 5 := by
    unfold takSE shTE okT fPs
    rw [if_pos (rightL_map (wire_q hq)), hw, hb, if_neg (Nat.lt_irrefl _), if_neg (Nat.lt_irrefl _), wire_flat hq]
  refine ⟨h1, ?_⟩
  unfold takSV
  rw [h1]
  by_cases ho : okT (wireP l) b = true
  · rw [if_pos ho, if_pos ho, if_pos rfl]
    unfold layT fPs aPs atsS
    rw [wire_flat hq]
  · rw [if_neg ho, if_neg ho, if_neg (by omega)]
theorem take_short {l : List PtT} {b : List UInt8} (hq : PtQ l) (hb : b.length < wdS l) : takSE l b = 2 ∧ takSV l b = [] := by
  have hw := wire_wd hq
  have h1 : takSE l b = 2 := by
    unfold takSE shTE
    rw [if_pos (rightL_map (wire_q hq)), hw, if_pos hb]
  exact ⟨h1, by unfold takSV; rw [h1]; exact if_neg (by omega)⟩
theorem take_long {l : List PtT} {b : List UInt8} (hq : PtQ l) (hb : wdS l < b.length) : takSE l b = 7 ∧ takSV l b = [] := by
  have hw := wire_wd hq
  have h1 : takSE l b = 7 := by
    unfold takSE shTE
    rw [if_pos (rightL_map (wire_q hq)), hw, if_neg (by omega), if_pos hb]
  exact ⟨h1, by unfold takSV; rw [h1]; exact if_neg (by omega)⟩
/-- The parts fill the bytes. -/
theorem wire_sum {l : List PtT} (hq : PtQ l) : sumL (fPs (wireP l)) = wdS l := by
  have := wire_wd hq
  rwa [wire_flat hq] at this

end Go.Proofs.Ytonejdjhdjckjaa
