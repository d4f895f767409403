/-
  Turned walked: of some bytes, bits within 16 in a row.
-/
import Derived.Test.YtplgcfjcdjlnbaaKGF
set_option linter.unusedSimpArgs false
set_option linter.unusedVariables false
namespace Go.Proofs.Ytplgcfjcdjlnbaa
open Go.RowKit CrcLaw

/-- What Turned tells: as many bytes; none turned, or those of a mask that is not 0. -/
def Tn_ed (l o : List UInt8) (any : Bool) : Prop :=
  o.length = l.length ∧ ((any = false ∧ o = l) ∨ (any = true ∧ ∃ s m, s ≤ 8 * l.length ∧ m < 65536 ∧ m ≠ 0 ∧ num o = num l ^^^ 2 ^ s * m))
def RetT (w : World) (l : List UInt8) (e : Ending) (w' : World) : Prop :=
  ∃ o any A c n, Tn_ed l o any ∧ e = .returned (.tuple #[.slice A n c, .bool any]) ∧ w'.ownsRow w.heap.size 5 1 (.slice A n c) n (bv o) ∧ Below w.heap.size w w'
theorem own_g {w : World} {base : Nat} {e : TypeId} {A : Option Addr} {c n : Nat} {xs : List Value} (h : w.ownsRow base e 1 (.slice A n c) n xs) (hn : 0 < n) : ∃ g, A = some ⟨g, 0, none⟩ ∧ base ≤ g := by
  obtain ⟨g, cap, hv, hg, _⟩ := h.form hn
  injection hv with h1 _ _
  exact ⟨g, h1, hg⟩
theorem bv_set (l : List UInt8) (k : Nat) (y : UInt8) : bv (l.set k y) = (bv l).set k (.int .u8 (y.toNat : Int)) := by simp [bv, List.map_set]

set_option maxRecDepth 10000 in
set_option maxHeartbeats 2000000 in
theorem turned_main (t m n c : Nat) (A : Option Addr) (l : List UInt8) (w : World) (hn : n ≤ 1000000) (h : Rd w w.heap.size 1 A n c (bv l)) (ht : t < 8 * n) (hm : m < 65536) :
    Calls Try.prog 42 #[.slice A n c, .int .i64 (t : Int), .int .u16 (m : Int)] w (RetT w l) := by
  have m3 := h.max
  have m1 := h.le
  unfold maxLen at m3
  have Hl := Lib.hid h.blen
  obtain ⟨i0, hi⟩ := info_parts u8_info
  have Hi := Lib.hid hi
  clear hi
  go_enter Try.func42, Try.ntmps42
  go_wp2_with (at_builtin; refine stop_ ?_)
  refine go_ (wpList_app (base := w.heap.size) (n := 0) (xs := []) Try.underlying26 Hi.out rfl (by omega) (own_empty _ _ _ (Nat.le_refl _) 1) rfl (h.up ((Below.refl _ _).alloc (Nat.le_refl _) _)) rfl (bv_one _) (Nat.zero_add _) (List.nil_append _) (by unfold maxLen; omega) (by omega) (by simp) ?_)
  intro A3 c3 w3 hown3 hup3
  have hb3 : Below w.heap.size w w3 := hup3 ((Below.refl _ _).alloc (Nat.le_refl _) _) (by simp) (Nat.le_refl _)
  clear hup3
  obtain ⟨g, rfl, hg⟩ := own_g hown3 (by omega)
  go_wp2
  go_loopw [2, 9, 10, 11] (fun ms any i _ wr => ∃ (k : Nat) (o : List UInt8) (b : Bool), k ≤ 16 ∧ i = .int .i64 k ∧ ms = .int .u16 ((m / 2 ^ k : Nat) : Int) ∧ any = .bool b ∧ b = (m % 2 ^ k != 0) ∧ o.length = n ∧ num o = num l ^^^ 2 ^ t * (m % 2 ^ k) ∧ (k = 0 ∨ t + k ≤ 8 * n) ∧ wr.ownsRow w.heap.size 5 1 (.slice (some ⟨g, 0, none⟩) n c3) n (bv o) ∧ Below w.heap.size w wr) (fun _ _ i _ _ => 16 - (intOf i).toNat)
  case atStart => exact ⟨0, l, false, by omega, rfl, by simp, rfl, by simp [Nat.mod_one], Hl.out, by simp [Nat.mod_one], .inl rfl, hown3, hb3⟩
  case round =>
    clear hb3 hown3 w3
    obtain ⟨k, o, b, hk, rfl, rfl, rfl, hbb, hol, hnum, hin, hown, hb⟩ := hrel
    have Hb := Lib.hid (And.intro hbb (And.intro hol hnum))
    clear hbb hol hnum
    by_cases hlt : k < 16 ∧ t + k < 8 * n
    · obtain ⟨hlt, hlt2⟩ := hlt
      have hpow : m / 2 ^ k < 65536 := Nat.lt_of_le_of_lt (Nat.div_le_self _ _) hm
      have hdiv : m / 2 ^ (k + 1) = m / 2 ^ k / 2 := by rw [Nat.pow_succ, Nat.div_div_eq_div_mul]
      have Hd := Lib.hid hdiv
      clear hdiv
      obtain ⟨q, hqd⟩ : ∃ q, q = m / 2 ^ k := ⟨_, rfl⟩
      rw [← hqd] at hpow Hd ⊢
      have Hq := Lib.hid hqd.symm
      clear hqd
      by_cases hq : q % 2 = 1
      · have hq' : ((q : Int) % 2 == 1) = true := by rw [beq_iff_eq]; omega
        have Hq1 := Lib.hid hq
        clear hq
        obtain ⟨p, hpd⟩ : ∃ p, p = (t + k) / 8 := ⟨_, rfl⟩
        obtain ⟨j, hjd⟩ : ∃ j, j = (t + k) % 8 := ⟨_, rfl⟩
        have hp : p < n := by omega
        have hpi : (p : Int) < n := by omega
        have hj : j < 8 := by omega
        have htk : t + k = 8 * p + j := by omega
        have hw1 : IntKind.i64.wrap (((t : Int) + k).tdiv 8) = (p : Int) := by
          rw [Int.tdiv_eq_ediv_of_nonneg (by omega), IntWalk.i64_in _ (by omega)]; omega
        have hw2 : IntKind.i64.wrap (((t : Int) + k).tmod 8) = (j : Int) := by
          rw [Int.tmod_eq_emod_of_nonneg (by omega), IntWalk.i64_in _ (by omega)]; omega
        have hw3 : ((t : Int) + k).tmod 8 = (j : Int) := by
          rw [Int.tmod_eq_emod_of_nonneg (by omega)]; omega
        have Hp := Lib.hid (And.intro hpd (And.intro hjd htk))
        clear hpd hjd htk
        obtain ⟨x, hx, hxc⟩ : ∃ x : UInt8, o[p]? = some x ∧ wr.drew.cell? ⟨g, p, none⟩ = some (.int .u8 (x.toNat : Int)) := by
          have hlo : p < o.length := by rw [Hb.out.2.1]; exact hp
          refine ⟨o[p], List.getElem?_eq_getElem hlo, ?_⟩
          have := hown.cellAt p (by omega)
          rw [bv_at (List.getElem?_eq_getElem hlo)] at this
          exact this
        have Hx := Lib.hid hx
        clear hx
        go_wp2
        refine Ord.region_ (fun _ => True) false [51] (by kernel_rfl) (by kernel_rfl) trivial ?_
        repeat (first | (refine Ord.e_p (v := ?_) rfl (by rfl) ?_ ?_; rotate_left; · (intro w2; go_simp; try with_reducible rfl)) | (refine Ord.e_u (by rfl) ?_)); (try simp only [Act.put, List.setIfInBounds_toArray, List.set_cons_zero, List.set_cons_succ])
        refine Ord.e_load Try.underlying5 rfl hxc rfl (by rfl) (by kernel_rfl) ?_
        (try simp only [Act.put, List.setIfInBounds_toArray, List.set_cons_zero, List.set_cons_succ])
        repeat (first | (refine Ord.e_p (v := ?_) rfl (by rfl) ?_ ?_; rotate_left; · (intro w2; go_simp; try with_reducible rfl)) | (refine Ord.e_u (by rfl) ?_)); (try simp only [Act.put, List.setIfInBounds_toArray, List.set_cons_zero, List.set_cons_succ])
        have hfz : wr.drew.frozen? ⟨g, p, none⟩ = false := hown.frozenAt p
        refine Ord.e_x rfl (by rfl) ?_
        go_wp2_with fail
        refine Ord.Seg.go trivial (fun h => by cases h) ?_
        (try simp only [Act.put, List.setIfInBounds_toArray, List.set_cons_zero, List.set_cons_succ])
        refine Ord.e_nil ?_
        go_wp2
        go_roundw
        case rel =>
          have hx2 : x.toNat ^^^ 2 ^ j < 256 := Nat.xor_lt_two_pow (n := 8) x.toNat_lt (Nat.pow_lt_pow_right (by omega) hj)
          have hy : ((UInt8.ofNat (x.toNat ^^^ 2 ^ j)).toNat : Int) = bits .xor .u8 (x.toNat : Int) (2 ^ j % 256) := by
            have h2 : (2 : Nat) ^ j < 256 := Nat.pow_lt_pow_right (n := 8) (by omega) hj
            have e1 : ((2 : Int) ^ j % 256) = ((2 ^ j : Nat) : Int) := by
              rw [show ((2 : Int) ^ j) = ((2 ^ j : Nat) : Int) by simp]; exact Int.emod_eq_of_lt (Int.natCast_nonneg _) (Int.ofNat_lt.2 h2)
            rw [e1, u8_xor_nat _ _ x.toNat_lt h2, UInt8.toNat_ofNat']
            omega
          have hst := hown.stored p (Value.int .u8 (bits .xor .u8 (x.toNat : Int) (2 ^ j % 256)))
          rw [← hy, ← bv_set] at hst
          rw [← hy]
          have hmk := mask_one (m := m) (k := k) t (by rw [Hq.out]; exact Hq1.out)
          refine ⟨k + 1, o.set p (UInt8.ofNat (x.toNat ^^^ 2 ^ j)), true, by omega, by go_num, val_int (by rw [Hd.out]; omega), rfl, by simp [hmk.2], by simp [Hb.out.2.1], ?_, .inr (by omega), hst.1, (hb.setCell (p := ⟨g, p, none⟩) hg _).drew⟩
          rw [num_set o p j _ (by rw [Hb.out.2.1]; exact hp) hj (by rw [UInt8.toNat_ofNat', List.getD_eq_getElem?_getD, Hx.out]; simp; omega), Hb.out.2.2, hmk.1, ← Hp.out.2.2, Nat.xor_assoc]
        case measure => simp [intOf]; omega
      · have hq' : ((q : Int) % 2 == 1) = false := by rw [beq_eq_false_iff_ne]; omega
        have hmk := mask_none (m := m) (k := k) (by rw [Hq.out]; omega)
        have Hm := Lib.hid hmk
        clear hq hmk
        go_wp2
        go_roundw
        case rel => exact ⟨k + 1, o, b, by omega, by go_num, val_int (by rw [Hd.out]; omega), rfl, by rw [Hm.out]; exact Hb.out.1, Hb.out.2.1, by rw [Hm.out]; exact Hb.out.2.2, .inr (by omega), hown, hb⟩
        case measure => simp [intOf]; omega
    · have hend : Tn_ed l o b := by
        refine ⟨by rw [Hb.out.2.1, Hl.out], ?_⟩
        have h3 := Hb.out.2.2
        by_cases hz : m % 2 ^ k = 0
        · refine .inl ⟨by rw [Hb.out.1]; simp [hz], num_inj (by rw [Hb.out.2.1, Hl.out]) (by rw [h3, hz]; simp)⟩
        · exact .inr ⟨by rw [Hb.out.1]; simp [hz], t, m % 2 ^ k, by rw [Hl.out]; omega, Nat.lt_of_le_of_lt (Nat.mod_le _ _) hm, hz, h3⟩
      have He := Lib.hid hend
      clear hend
      by_cases hk16 : k < 16
      · have h8 : ¬ t + k < 8 * n := fun hx => hlt ⟨hk16, hx⟩
        clear hlt
        generalize m / 2 ^ k = q at *
        go_wp2
        go_ret2
        exact ⟨o, b, _, _, n, He.out, rfl, hown, hb⟩
      · clear hlt
        generalize m / 2 ^ k = q at *
        go_wp2
        go_ret2
        exact ⟨o, b, _, _, n, He.out, rfl, hown, hb⟩

set_option maxHeartbeats 400000 in
theorem turned_out (t : Int) (m n c : Nat) (A : Option Addr) (l : List UInt8) (w : World) (hn : n ≤ 1000000) (h : Rd w w.heap.size 1 A n c (bv l)) (ht : t < 0 ∨ 8 * (n : Int) ≤ t) :
    Calls Try.prog 42 #[.slice A n c, .int .i64 t, .int .u16 (m : Int)] w (RetT w l) := by
  have m3 := h.max
  have m1 := h.le
  unfold maxLen at m3
  have Hl := Lib.hid h.blen
  obtain ⟨i0, hi⟩ := info_parts u8_info
  have Hi := Lib.hid hi
  clear hi
  rcases ht with ht | ht
  all_goals
    go_enter Try.func42, Try.ntmps42
    go_wp2_with (at_builtin; refine stop_ ?_)
    refine go_ (wpList_app (base := w.heap.size) (n := 0) (xs := []) Try.underlying26 Hi.out rfl (by omega) (own_empty _ _ _ (Nat.le_refl _) 1) rfl (h.up ((Below.refl _ _).alloc (Nat.le_refl _) _)) rfl (bv_one _) (Nat.zero_add _) (List.nil_append _) (by unfold maxLen; omega) (by omega) (by simp) ?_)
    intro A3 c3 w3 hown3 hup3
    have hb3 : Below w.heap.size w w3 := hup3 ((Below.refl _ _).alloc (Nat.le_refl _) _) (by simp) (Nat.le_refl _)
    clear hup3
    go_wp2
    go_ret2
    exact ⟨l, false, _, _, n, ⟨rfl, .inl ⟨rfl, rfl⟩⟩, rfl, hown3, hb3⟩
theorem turned_any (t : Int) (m n c : Nat) (A : Option Addr) (l : List UInt8) (w : World) (hn : n ≤ 1000000) (h : Rd w w.heap.size 1 A n c (bv l)) (hm : m < 65536) :
    Calls Try.prog 42 #[.slice A n c, .int .i64 t, .int .u16 (m : Int)] w (RetT w l) := by
  by_cases ht : t < 0 ∨ 8 * (n : Int) ≤ t
  · exact turned_out t m n c A l w hn h ht
  · obtain ⟨k, rfl⟩ := Int.eq_ofNat_of_zero_le (a := t) (by omega)
    exact turned_main k m n c A l w hn h (by omega) hm
/-- A sealed list of which bits were turned is not opened. -/
theorem burst_open {s o : List UInt8} {any : Bool} (h : Tn_ed s o any) (h0 : moreN 65535 s = 0) : openB o = !any := by
  obtain ⟨hl, ⟨rfl, rfl⟩ | ⟨rfl, k, m, hk, hm, hm0, hn⟩⟩ := h
  · simp [openB, h0]
  · have h1 : moreN 65535 o ≠ 0 := fun h1 => hm0 (burst hl hk hm hn h0 h1)
    simp [openB, h1]

end Go.Proofs.Ytplgcfjcdjlnbaa
