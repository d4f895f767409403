/-
  Ids, Count, Width walked (printed by gen_sch6.py).
-/
import Derived.Test.YtonejdjhdjckjaaSch6
set_option linter.unusedSimpArgs false
set_option linter.unusedVariables false
namespace Go.Proofs.Ytonejdjhdjckjaa
open Go.RowKit NumLaw
attribute [local go_sem] Addr.add_mid
attribute [-go_sem] run_eql_struct run_neq_struct

/-- Parts of messages: sizes that a field may have, not too many numbers. -/
def PtN (L : List PtT) : Prop := (∀ p ∈ L, szQ p.sz) ∧ L.length ≤ 100 ∧ ∀ p ∈ L, mx1 p.mn ≤ 100
theorem sum_le (f : PtT → Nat) (b : Nat) : ∀ L : List PtT, (∀ p ∈ L, f p ≤ b) → (L.map f).foldl (· + ·) 0 ≤ b * L.length
  | [], _ => Nat.zero_le _
  | p :: L, h => by
    have ih := sum_le f b L (fun q hq => h q (List.mem_cons_of_mem _ hq))
    have hp := h p List.mem_cons_self
    rw [List.map_cons, List.foldl_cons, foldl_add0, List.length_cons, Nat.mul_succ]
    omega
theorem szQ_le {z : Int} (h : szQ z) : z.toNat ≤ 8 := by rcases h with rfl | rfl | rfl | rfl <;> decide
theorem wd_bd (L : List PtT) (h : PtN L) (k : Nat) : wdS (L.take k) ≤ 8000 * 100 := by
  have := sum_le (fun p => p.sz.toNat * mx1 p.mn) 8000 (L.take k) (fun p hp => by
    have hp := List.mem_of_mem_take hp
    exact Nat.le_trans (Nat.mul_le_mul (szQ_le (h.1 p hp)) (h.2.2 p hp)) (by omega))
  unfold wdS
  have hl : (L.take k).length ≤ 100 := by rw [List.length_take]; have := h.2.1; omega
  have := Nat.mul_le_mul_left 8000 hl
  omega
theorem cnt_bd (L : List PtT) (h : PtN L) (k : Nat) : cntS (L.take k) ≤ 8000 * 100 := by
  have := sum_le (fun p => mx1 p.mn) 100 (L.take k) (fun p hp => h.2.2 p (List.mem_of_mem_take hp))
  unfold cntS
  have hl : (L.take k).length ≤ 100 := by rw [List.length_take]; have := h.2.1; omega
  have := Nat.mul_le_mul_left 100 hl
  omega
theorem frm_n (id : Int) : PtN (frm id).2 := by
  have hN : ∀ L : List PtT, (L.all fun p => (p.sz == 8 || p.sz == 4 || p.sz == 2 || p.sz == 1) && decide (mx1 p.mn ≤ 100)) = true → L.length ≤ 100 → PtN L := fun L h hl => by
    rw [List.all_eq_true] at h
    refine ⟨fun p hp => ?_, hl, fun p hp => ?_⟩
    · have := h p hp
      simp only [Bool.and_eq_true, Bool.or_eq_true, beq_iff_eq] at this
      rcases this.1 with ((h | h) | h) | h
      · exact .inl h
      · exact .inr (.inl h)
      · exact .inr (.inr (.inl h))
      · exact .inr (.inr (.inr h))
    · have := h p hp
      simp only [Bool.and_eq_true, decide_eq_true_eq] at this
      exact this.2
  rcases frm_at id with ⟨_, hf⟩ | ⟨_, hf⟩ | ⟨_, hf⟩ | ⟨_, hf⟩ | ⟨_, hf⟩ | ⟨_, hf⟩ | ⟨_, hf⟩ | ⟨_, hf⟩ | ⟨_, hf⟩ | ⟨_, hf⟩ | ⟨_, hf⟩ | ⟨_, hf⟩ | ⟨_, hf⟩ | ⟨_, hf⟩ | ⟨_, hf⟩ | ⟨_, hf⟩ | ⟨_, hf⟩ | ⟨_, hf⟩ | ⟨_, hf⟩ | ⟨_, hf⟩ | ⟨_, hf⟩ | ⟨_, hf⟩ | ⟨hf, _⟩
  all_goals
    rw [hf]
    exact hN _ (by decide) (by decide)
def isId (k : Nat) : Bool := [0, 1, 2, 4, 24, 25, 26, 27, 28, 33, 35, 36, 42, 44, 47, 66, 77, 111, 125, 200, 201, 202].contains k
def idsTo (k : Nat) : List Nat := (List.range k).filter isId
def idsN : List Nat := [0, 1, 2, 4, 24, 25, 26, 27, 28, 33, 35, 36, 42, 44, 47, 66, 77, 111, 125, 200, 201, 202]
theorem idsTo_all : idsTo 256 = idsN := by decide +kernel
theorem isId_frm (k : Nat) : (frm (k : Int)).1.toList.isEmpty = !isId k := by
  have hne : ∀ (m : Nat) (p : FmT), k = m → isId m = true → ¬ p.1 = ⟨#[]⟩ → frm (k : Int) = p → (frm (k : Int)).1.toList.isEmpty = !isId k := fun m p hk hi hp hf => by
    rw [hf, ba_full hp, hk, hi]; rfl
  rcases frm_at (k : Int) with ⟨h, hf⟩ | ⟨h, hf⟩ | ⟨h, hf⟩ | ⟨h, hf⟩ | ⟨h, hf⟩ | ⟨h, hf⟩ | ⟨h, hf⟩ | ⟨h, hf⟩ | ⟨h, hf⟩ | ⟨h, hf⟩ | ⟨h, hf⟩ | ⟨h, hf⟩ | ⟨h, hf⟩ | ⟨h, hf⟩ | ⟨h, hf⟩ | ⟨h, hf⟩ | ⟨h, hf⟩ | ⟨h, hf⟩ | ⟨h, hf⟩ | ⟨h, hf⟩ | ⟨h, hf⟩ | ⟨h, hf⟩ | ⟨hf, h0, h1, h2, h4, h24, h25, h26, h27, h28, h33, h35, h36, h42, h44, h47, h66, h77, h111, h125, h200, h201, h202⟩
  · exact hne 0 fm0 (by omega) (by decide) (by intro h2; exact absurd (congrArg (fun b : ByteArray => b.data.size) h2) (by decide)) hf
  · exact hne 1 fm1 (by omega) (by decide) (by intro h2; exact absurd (congrArg (fun b : ByteArray => b.data.size) h2) (by decide)) hf
  · exact hne 2 fm2 (by omega) (by decide) (by intro h2; exact absurd (congrArg (fun b : ByteArray => b.data.size) h2) (by decide)) hf
  · exact hne 4 fm4 (by omega) (by decide) (by intro h2; exact absurd (congrArg (fun b : ByteArray => b.data.size) h2) (by decide)) hf
  · exact hne 24 fm24 (by omega) (by decide) (by intro h2; exact absurd (congrArg (fun b : ByteArray => b.data.size) h2) (by decide)) hf
  · exact hne 25 fm25 (by omega) (by decide) (by intro h2; exact absurd (congrArg (fun b : ByteArray => b.data.size) h2) (by decide)) hf
  · exact hne 26 fm26 (by omega) (by decide) (by intro h2; exact absurd (congrArg (fun b : ByteArray => b.data.size) h2) (by decide)) hf
  · exact hne 27 fm27 (by omega) (by decide) (by intro h2; exact absurd (congrArg (fun b : ByteArray => b.data.size) h2) (by decide)) hf
  · exact hne 28 fm28 (by omega) (by decide) (by intro h2; exact absurd (congrArg (fun b : ByteArray => b.data.size) h2) (by decide)) hf
  · exact hne 33 fm33 (by omega) (by decide) (by intro h2; exact absurd (congrArg (fun b : ByteArray => b.data.size) h2) (by decide)) hf
  · exact hne 35 fm35 (by omega) (by decide) (by intro h2; exact absurd (congrArg (fun b : ByteArray => b.data.size) h2) (by decide)) hf
  · exact hne 36 fm36 (by omega) (by decide) (by intro h2; exact absurd (congrArg (fun b : ByteArray => b.data.size) h2) (by decide)) hf
  · exact hne 42 fm42 (by omega) (by decide) (by intro h2; exact absurd (congrArg (fun b : ByteArray => b.data.size) h2) (by decide)) hf
  · exact hne 44 fm44 (by omega) (by decide) (by intro h2; exact absurd (congrArg (fun b : ByteArray => b.data.size) h2) (by decide)) hf
  · exact hne 47 fm47 (by omega) (by decide) (by intro h2; exact absurd (congrArg (fun b : ByteArray => b.data.size) h2) (by decide)) hf
  · exact hne 66 fm66 (by omega) (by decide) (by intro h2; exact absurd (congrArg (fun b : ByteArray => b.data.size) h2) (by decide)) hf
  · exact hne 77 fm77 (by omega) (by decide) (by intro h2; exact absurd (congrArg (fun b : ByteArray => b.data.size) h2) (by decide)) hf
  · exact hne 111 fm111 (by omega) (by decide) (by intro h2; exact absurd (congrArg (fun b : ByteArray => b.data.size) h2) (by decide)) hf
  · exact hne 125 fm125 (by omega) (by decide) (by intro h2; exact absurd (congrArg (fun b : ByteArray => b.data.size) h2) (by decide)) hf
  · exact hne 200 fm200 (by omega) (by decide) (by intro h2; exact absurd (congrArg (fun b : ByteArray => b.data.size) h2) (by decide)) hf
  · exact hne 201 fm201 (by omega) (by decide) (by intro h2; exact absurd (congrArg (fun b : ByteArray => b.data.size) h2) (by decide)) hf
  · exact hne 202 fm202 (by omega) (by decide) (by intro h2; exact absurd (congrArg (fun b : ByteArray => b.data.size) h2) (by decide)) hf
  · have hi : isId k = false := by
      unfold isId
      simp only [List.contains_eq_mem, List.mem_cons, List.not_mem_nil, or_false, decide_eq_false_iff_not]
      omega
    rw [hf, hi]
    exact ba_empty rfl
theorem idsTo_succ (k : Nat) : idsTo (k + 1) = if isId k = true then idsTo k ++ [k] else idsTo k := by
  unfold idsTo
  rw [List.range_succ, List.filter_append]
  by_cases h : isId k = true
  · rw [if_pos h, List.filter_cons_of_pos h]; rfl
  · rw [if_neg h, List.filter_cons_of_neg h]; simp
def RdN (w : World) (B : Nat) (A : Option Addr) (n c : Nat) (L : List Nat) : Prop := RdR w B 1 A n c (L.map fun k : Nat => [Value.int .i64 (k : Int)])
theorem RdN.at_ {w : World} {B : Nat} {A : Option Addr} {n c : Nat} {L : List Nat} (h : RdN w B A n c L) {k : Nat} (hk : k < n) : ∃ g off x, A = some ⟨g, off, none⟩ ∧ g < B ∧ L[k]? = some x ∧ w.cell? ⟨g, off + k, none⟩ = some (.int .i64 (x : Int)) := by
  obtain ⟨g, off, r, h1, h2, h3, h4, h5⟩ := RdR.at_ h hk
  rw [List.getElem?_map] at h3
  cases hx : L[k]? with
  | none => rw [hx] at h3; cases h3
  | some x =>
    rw [hx] at h3
    injection h3 with h3
    subst h3
    have := h5 0 _ rfl
    rw [Nat.mul_one, Nat.add_zero] at this
    exact ⟨g, off, x, h1, h2, rfl, this⟩
theorem RdN.len {w : World} {B : Nat} {A : Option Addr} {n c : Nat} {L : List Nat} (h : RdN w B A n c L) : L.length = n := by have := h.1; rwa [List.length_map] at this
theorem int_info31 : (Try.prog.info? 3).map (fun i => (i.zero, i.size, i.bytes)) = some (some (.int .i64 0), 1, 8) := by kernel_rfl
set_option maxRecDepth 10000 in
set_option maxHeartbeats 4000000 in
theorem ids_any (w : World) : Calls Try.prog 41 #[] w fun e w' => ∃ (A : Option Addr) (n c : Nat), e = .returned (.slice A n c) ∧ RdN w' w'.heap.size A n c idsN ∧ Below w.heap.size w w' := by
  obtain ⟨i1, hi1⟩ := info_parts int_info31
  have Hi1 := Lib.hid hi1
  clear hi1
  go_enter Try.func41, Try.ntmps41
  go_wp2_with fail
  go_loopw [1, 3] (fun o i wr => ∃ (k n3 c3 : Nat) (A3 : Option Addr), k ≤ 256 ∧ n3 ≤ k ∧ i = .int .i64 k ∧ o = .slice A3 n3 c3 ∧ Below w.heap.size w wr ∧ wr.ownsRow w.heap.size 3 1 (.slice A3 n3 c3) n3 ((idsTo k).map fun k : Nat => [Value.int .i64 (k : Int)]).flatten ∧ Hid ((idsTo k).length = n3)) (fun _ i _ => 256 - (intOf i).toNat)
  case atStart => exact ⟨0, 0, 0, none, by omega, by omega, rfl, rfl, Below.refl _ _, World.ownsRow_nil _ _ _ _, Lib.hid rfl⟩
  case round =>
    obtain ⟨k, n3, c3, A3, hk, hn3, rfl, rfl, hb, own3, Hl3⟩ := hrel
    by_cases hlt : k < 256
    · have hlt' : (k : Int) < 256 := by omega
      have hf := find_any (k : Int) wr
      have hem := isId_frm k
      generalize frm (k : Int) = p at *
      have Hf := Lib.hid hf
      have hsu := idsTo_succ k
      have Hsu := Lib.hid hsu
      have hfa := fun A n c w => form_at p.1 A n c w
      have hf0 := fun A n c w => (hfa A n c w).1
      clear hf hsu hfa
      go_wp2_with fail
      go_fit Hf.out
      unfold RetFm
      rintro e w1 ⟨A1, n1, c1, rfl, hr, hbx⟩
      have hb1 := bnx hb hbx
      have own1 := own_up own3 hbx (Nat.le_refl _)
      clear hbx hr hb own3 Hf
      cases hid : isId k with
      | true =>
        rw [hid] at hem
        have hem2 : p.1.toList.isEmpty = false := hem
        have hbn := (Below.refl w1.heap.size w1).alloc (Nat.le_refl _) (.cells #[.int .i64 (k : Int)] 3)
        have hrd := RdR.rd (RdR.lit (size := 1) (e := 3) w1 [[.int .i64 (k : Int)]] #[.int .i64 (k : Int)] rfl (by intro r hr; rw [List.mem_singleton.1 hr]; rfl) (by simp [maxLen]) 1 rfl) (by omega)
        have own4 := own_up own1 hbn (Nat.le_refl _)
        have hb4 := bnx hb1 hbn
        have Hfl := Lib.hid (show ((idsTo k).map fun k : Nat => [Value.int .i64 (k : Int)]).flatten ++ [[Value.int .i64 (k : Int)]].flatten = ((idsTo (k + 1)).map fun k : Nat => [Value.int .i64 (k : Int)]).flatten by rw [Hsu.out, if_pos hid]; simp)
        have Hl4 := Lib.hid (show (idsTo (k + 1)).length = n3 + 1 by rw [Hsu.out, if_pos hid, List.length_append, Hl3.out]; rfl)
        clear hem hid own1 hb1 hbn
        go_wp2_with (at_builtin; refine stop_ ?_)
        generalize (w1.alloc (.cells #[.int .i64 (k : Int)] 3)) = w4 at *
        refine go_ (wpList_appG (base := w.heap.size) (n := n3) Try.underlying60 Hi1.out (by kernel_rfl) (by omega) own4 rfl hrd rfl (by intro u hu; rw [List.mem_singleton.1 hu]; rfl) (k := n3 + 1) rfl Hfl.out (by unfold maxLen; omega) (by omega) hb4.size ?_)
        intro A5 c5 w5 own5 hgr hob
        have hb5 := Below.grown hb4 hgr hb4.size (fun j hj => (own_blk own4 hj).1)
        clear hgr hob own4 hrd hb4
        go_wp2
        go_roundw
        case rel => exact ⟨k + 1, n3 + 1, c5, A5, by omega, by omega, by go_num, rfl, hb5, own5, Hl4⟩
        case measure => simp [intOf]; omega
      | false =>
        rw [hid] at hem
        have hem2 : p.1.toList.isEmpty = true := hem
        have He := Lib.hid (show idsTo (k + 1) = idsTo k by rw [Hsu.out, if_neg (by rw [hid]; exact Bool.false_ne_true)])
        rw [← He.out] at own1
        have Hl4 := Lib.hid (show (idsTo (k + 1)).length = n3 by rw [He.out]; exact Hl3.out)
        clear hem hid
        go_wp2
        go_roundw
        case rel => exact ⟨k + 1, n3, c3, A3, by omega, by omega, by go_num, rfl, hb1, own1, Hl4⟩
        case measure => simp [intOf]; omega
    · obtain rfl : k = 256 := by omega
      rw [idsTo_all] at own3 Hl3
      have hrp : RdN wr wr.heap.size A3 n3 c3 idsN := RdR.own (ls := idsN.map fun k : Nat => [Value.int .i64 (k : Int)]) own3 (by rw [List.length_map]; exact Hl3.out) (fun r hr => by obtain ⟨k, _, rfl⟩ := List.mem_map.1 hr; rfl)
      clear own3
      go_wp2
      go_ret
      exact ⟨A3, n3, c3, rfl, hrp, hb⟩
set_option maxRecDepth 10000 in
theorem qids_any (w : World) : Calls Try.prog 42 #[] w fun e w' => ∃ (A : Option Addr) (n c : Nat), e = .returned (.slice A n c) ∧ RdN w' w'.heap.size A n c idsN ∧ Below w.heap.size w w' := by
  have hlit := RdR.lit (size := 1) (e := 3) w (idsN.map fun k : Nat => [Value.int .i64 (k : Int)]) #[.int .i64 0, .int .i64 1, .int .i64 2, .int .i64 4, .int .i64 24, .int .i64 25, .int .i64 26, .int .i64 27, .int .i64 28, .int .i64 33, .int .i64 35, .int .i64 36, .int .i64 42, .int .i64 44, .int .i64 47, .int .i64 66, .int .i64 77, .int .i64 111, .int .i64 125, .int .i64 200, .int .i64 201, .int .i64 202] rfl (fun r hr => by obtain ⟨k, _, rfl⟩ := List.mem_map.1 hr; rfl) (by simp [maxLen, idsN]) 22 rfl
  have hsz : (w.alloc (.cells #[.int .i64 0, .int .i64 1, .int .i64 2, .int .i64 4, .int .i64 24, .int .i64 25, .int .i64 26, .int .i64 27, .int .i64 28, .int .i64 33, .int .i64 35, .int .i64 36, .int .i64 42, .int .i64 44, .int .i64 47, .int .i64 66, .int .i64 77, .int .i64 111, .int .i64 125, .int .i64 200, .int .i64 201, .int .i64 202] 3)).heap.size = w.heap.size + 1 := World.size_alloc _ _
  rw [← hsz] at hlit
  have Hlit := Lib.hid hlit
  have hb := (Below.refl w.heap.size w).alloc (Nat.le_refl _) (.cells #[.int .i64 0, .int .i64 1, .int .i64 2, .int .i64 4, .int .i64 24, .int .i64 25, .int .i64 26, .int .i64 27, .int .i64 28, .int .i64 33, .int .i64 35, .int .i64 36, .int .i64 42, .int .i64 44, .int .i64 47, .int .i64 66, .int .i64 77, .int .i64 111, .int .i64 125, .int .i64 200, .int .i64 201, .int .i64 202] 3)
  clear hlit hsz
  go_enter Try.func42, Try.ntmps42
  go_wp2
  go_ret
  exact ⟨some ⟨w.heap.size, 0, none⟩, 22, 22, rfl, Hlit.out, hb⟩
set_option maxRecDepth 10000 in
set_option maxHeartbeats 4000000 in
theorem sumW_any (A : Option Addr) (n c : Nat) (L : List PtT) (w : World) (h : RdP w w.heap.size A n c L) (hn : n ≤ 1000) (hq : PtN L) :
    Calls Try.prog 49 #[.slice A n c, .func (.func 52) #[] #[]] w fun e w' => e = .returned (.int .i64 (wdS L : Int)) ∧ Below w.heap.size w w' := by
  have hll := h.len
  have hmx := h.2.2.2.1
  have hle := h.2.2.1
  unfold maxLen at hmx
  have Hll := Lib.hid hll
  have Hbd := Lib.hid (fun k => wd_bd L hq k)
  have Hsn := Lib.hid (fun (l : List PtT) (p : PtT) => wdS_snoc p l)
  have Hf := Lib.hid (fun (p : PtT) (hp : p ∈ L) (w : World) => width1_any p (hq.1 p hp) (Nat.le_trans (hq.2.2 p hp) (by omega)) w)
  clear hll hq
  go_enter Try.func49, Try.ntmps49
  go_wp2_with fail
  go_loopw [5, 10] (fun a i wr => ∃ k s : Nat, k ≤ n ∧ i = .int .i64 k ∧ a = .int .i64 (s : Int) ∧ Hid (s = wdS (L.take k)) ∧ s ≤ 8000 * 1000 ∧ Below w.heap.size w wr) (fun _ i _ => n - (intOf i).toNat)
  case atStart => exact ⟨0, 0, by omega, rfl, rfl, Lib.hid rfl, by omega, Below.refl _ _⟩
  case round =>
    obtain ⟨k, s, hk, rfl, rfl, Hs, hs8, hb⟩ := hrel
    by_cases hlt : k < n
    · have hlt' : (k : Int) < (n : Int) := by omega
      obtain ⟨g, off, x, rfl, hg, hx, hr⟩ := RdP.at_ h hlt
      have k0 := (hb.cell (p := ⟨g, off + k * 4 + 0, none⟩) hg).trans (hr 0 _ rfl)
      have k1 := (hb.cell (p := ⟨g, off + k * 4 + 1, none⟩) hg).trans (hr 1 _ rfl)
      have k2 := (hb.cell (p := ⟨g, off + k * 4 + 2, none⟩) hg).trans (hr 2 _ rfl)
      have k3 := (hb.cell (p := ⟨g, off + k * 4 + 3, none⟩) hg).trans (hr 3 _ rfl)
      rw [Nat.add_zero] at k0
      have hfx := fun w => Hf.out x (List.mem_of_getElem? hx) w
      have hsm := Hsn.out (L.take k) x
      rw [← take_succ hx, ← Hs.out] at hsm
      have hbd := Hbd.out (k + 1)
      obtain ⟨s1, z1, g1, m1⟩ := x
      dsimp only at k0 k1 k2 k3 hfx hsm
      obtain ⟨d, hd⟩ : ∃ d : Nat, d = z1.toNat * mx1 m1 := ⟨_, rfl⟩
      rw [← hd] at hfx hsm
      rw [hsm] at hbd
      have Hsm := Lib.hid hsm.symm
      have hfx2 : ∀ w, Calls Try.prog 52 #[.agg #[.string s1, .int .i64 z1, .bool g1, .int .i64 m1]] w fun e w' => e = .returned (.int .i64 (d : Int)) ∧ Below w.heap.size w w' := hfx
      have Hfx := Lib.hid hfx2
      have hw3 : IntKind.i64.wrap ((s : Int) + (d : Int)) = (s : Int) + (d : Int) := IntWalk.i64_in _ (by omega)
      have hbn : Below wr.heap.size wr (wr.alloc (.cells #[.string s1, .int .i64 z1, .bool g1, .int .i64 m1] 28)) := (Below.refl _ _).alloc (Nat.le_refl _) _
      have a0 := heap_alloc_new wr (.cells #[.string s1, .int .i64 z1, .bool g1, .int .i64 m1] 28)
      have d0 := blk_cell (i := 0) (v := .string s1) a0 rfl
      have d1 := blk_cell (i := 1) (v := .int .i64 z1) a0 rfl
      have d2 := blk_cell (i := 2) (v := .bool g1) a0 rfl
      have d3 := blk_cell (i := 3) (v := .int .i64 m1) a0 rfl
      have hb4 := bnx hb hbn
      clear hx hr hfx hfx2 hsm hd hbn a0 hb
      go_wp2_with fail
      go_fit (Hfx.out _)
      rintro e w2 ⟨rfl, hbx⟩
      have hb5 := bnx hb4 hbx
      clear k0 k1 k2 k3 d0 d1 d2 d3 hbx hb4
      go_wp2
      go_roundw
      case rel => exact ⟨k + 1, s + d, by omega, by go_num, by go_num, Hsm, by omega, hb5⟩
      case measure => simp [intOf]; omega
    · obtain rfl : k = n := by omega
      have he : s = wdS L := by rw [Hs.out, List.take_of_length_le (by rw [Hll.out]; exact Nat.le_refl _)]
      have He := Lib.hid he
      clear he
      go_wp2
      go_ret
      exact ⟨by rw [← He.out]; rfl, hb⟩
set_option maxRecDepth 10000 in
set_option maxHeartbeats 4000000 in
theorem sumN_any (A : Option Addr) (n c : Nat) (L : List PtT) (w : World) (h : RdP w w.heap.size A n c L) (hn : n ≤ 1000) (hq : PtN L) :
    Calls Try.prog 49 #[.slice A n c, .func (.func 50) #[] #[]] w fun e w' => e = .returned (.int .i64 (cntS L : Int)) ∧ Below w.heap.size w w' := by
  have hll := h.len
  have hmx := h.2.2.2.1
  have hle := h.2.2.1
  unfold maxLen at hmx
  have Hll := Lib.hid hll
  have Hbd := Lib.hid (fun k => cnt_bd L hq k)
  have Hsn := Lib.hid (fun (l : List PtT) (p : PtT) => cntS_snoc p l)
  have Hf := Lib.hid (fun (p : PtT) (hp : p ∈ L) (w : World) => numbers_any p w)
  clear hll hq
  go_enter Try.func49, Try.ntmps49
  go_wp2_with fail
  go_loopw [5, 10] (fun a i wr => ∃ k s : Nat, k ≤ n ∧ i = .int .i64 k ∧ a = .int .i64 (s : Int) ∧ Hid (s = cntS (L.take k)) ∧ s ≤ 8000 * 1000 ∧ Below w.heap.size w wr) (fun _ i _ => n - (intOf i).toNat)
  case atStart => exact ⟨0, 0, by omega, rfl, rfl, Lib.hid rfl, by omega, Below.refl _ _⟩
  case round =>
    obtain ⟨k, s, hk, rfl, rfl, Hs, hs8, hb⟩ := hrel
    by_cases hlt : k < n
    · have hlt' : (k : Int) < (n : Int) := by omega
      obtain ⟨g, off, x, rfl, hg, hx, hr⟩ := RdP.at_ h hlt
      have k0 := (hb.cell (p := ⟨g, off + k * 4 + 0, none⟩) hg).trans (hr 0 _ rfl)
      have k1 := (hb.cell (p := ⟨g, off + k * 4 + 1, none⟩) hg).trans (hr 1 _ rfl)
      have k2 := (hb.cell (p := ⟨g, off + k * 4 + 2, none⟩) hg).trans (hr 2 _ rfl)
      have k3 := (hb.cell (p := ⟨g, off + k * 4 + 3, none⟩) hg).trans (hr 3 _ rfl)
      rw [Nat.add_zero] at k0
      have hfx := fun w => Hf.out x (List.mem_of_getElem? hx) w
      have hsm := Hsn.out (L.take k) x
      rw [← take_succ hx, ← Hs.out] at hsm
      have hbd := Hbd.out (k + 1)
      obtain ⟨s1, z1, g1, m1⟩ := x
      dsimp only at k0 k1 k2 k3 hfx hsm
      obtain ⟨d, hd⟩ : ∃ d : Nat, d = mx1 m1 := ⟨_, rfl⟩
      rw [← hd] at hfx hsm
      rw [hsm] at hbd
      have Hsm := Lib.hid hsm.symm
      have hfx2 : ∀ w, Calls Try.prog 50 #[.agg #[.string s1, .int .i64 z1, .bool g1, .int .i64 m1]] w fun e w' => e = .returned (.int .i64 (d : Int)) ∧ Below w.heap.size w w' := hfx
      have Hfx := Lib.hid hfx2
      have hw3 : IntKind.i64.wrap ((s : Int) + (d : Int)) = (s : Int) + (d : Int) := IntWalk.i64_in _ (by omega)
      have hbn : Below wr.heap.size wr (wr.alloc (.cells #[.string s1, .int .i64 z1, .bool g1, .int .i64 m1] 28)) := (Below.refl _ _).alloc (Nat.le_refl _) _
      have a0 := heap_alloc_new wr (.cells #[.string s1, .int .i64 z1, .bool g1, .int .i64 m1] 28)
      have d0 := blk_cell (i := 0) (v := .string s1) a0 rfl
      have d1 := blk_cell (i := 1) (v := .int .i64 z1) a0 rfl
      have d2 := blk_cell (i := 2) (v := .bool g1) a0 rfl
      have d3 := blk_cell (i := 3) (v := .int .i64 m1) a0 rfl
      have hb4 := bnx hb hbn
      clear hx hr hfx hfx2 hsm hd hbn a0 hb
      go_wp2_with fail
      go_fit (Hfx.out _)
      rintro e w2 ⟨rfl, hbx⟩
      have hb5 := bnx hb4 hbx
      clear k0 k1 k2 k3 d0 d1 d2 d3 hbx hb4
      go_wp2
      go_roundw
      case rel => exact ⟨k + 1, s + d, by omega, by go_num, by go_num, Hsm, by omega, hb5⟩
      case measure => simp [intOf]; omega
    · obtain rfl : k = n := by omega
      have he : s = cntS L := by rw [Hs.out, List.take_of_length_le (by rw [Hll.out]; exact Nat.le_refl _)]
      have He := Lib.hid he
      clear he
      go_wp2
      go_ret
      exact ⟨by rw [← He.out]; rfl, hb⟩
set_option maxRecDepth 10000 in
theorem width_any (id : Int) (w : World) : Calls Try.prog 22 #[.int .i64 id] w fun e w' => e = .returned (.int .i64 (wdS (frm id).2 : Int)) ∧ Below w.heap.size w w' := by
  have hp := parts31_any id w
  have hN := frm_n id
  generalize (frm id).2 = L at *
  have Hp := Lib.hid hp
  have HN := Lib.hid hN
  clear hp hN
  go_enter Try.func22, Try.ntmps22
  go_wp2_with fail
  go_fit Hp.out
  rintro e w1 ⟨A, n, c, rfl, hr, hb⟩
  have hn : n ≤ 1000 := by rw [← hr.len]; have := HN.out.2.1; omega
  go_wp2_with fail
  go_fit (sumW_any A n c L w1 hr hn HN.out)
  rintro e w2 ⟨rfl, hbx⟩
  have hb2 := bnx hb hbx
  go_wp2
  go_ret
  exact ⟨rfl, hb2⟩
theorem count_any (id : Int) (w : World) : Calls Try.prog 20 #[.int .i64 id] w fun e w' => e = .returned (.int .i64 (cntS (frm id).2 : Int)) ∧ Below w.heap.size w w' := by
  have hp := parts31_any id w
  have hN := frm_n id
  generalize (frm id).2 = L at *
  have Hp := Lib.hid hp
  have HN := Lib.hid hN
  clear hp hN
  go_enter Try.func20, Try.ntmps20
  go_wp2_with fail
  go_fit Hp.out
  rintro e w1 ⟨A, n, c, rfl, hr, hb⟩
  have hn : n ≤ 1000 := by rw [← hr.len]; have := HN.out.2.1; omega
  go_wp2_with fail
  go_fit (sumN_any A n c L w1 hr hn HN.out)
  rintro e w2 ⟨rfl, hbx⟩
  have hb2 := bnx hb hbx
  go_wp2
  go_ret
  exact ⟨rfl, hb2⟩

end Go.Proofs.Ytonejdjhdjckjaa
