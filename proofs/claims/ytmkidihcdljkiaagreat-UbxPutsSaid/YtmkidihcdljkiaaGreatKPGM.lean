/-
  Several texts in one: ShRef1 ShRef2 OctRefW ShRef3.
-/
import Derived.Test.YtmkidihcdljkiaaGreatKPGC
import Derived.Test.YtmkidihcdljkiaaGreatKPGA
import Derived.Test.YtmkidihcdljkiaaGreatKPGE
import Derived.Deep.QuietTactic
import Derived.BigQuiet
/-
  The document's shapes: Most, Any, U, I, room, Right, Width walked.
-/
set_option linter.unusedSimpArgs false
set_option linter.unusedVariables false
namespace Go.Proofs.YtmkidihcdljkiaaGreat
open Go.RowKit NumLaw
attribute [local go_sem] Addr.add_mid

def mostF (n : Int) (sg : Bool) : Int := if n = 8 then 9223372036854775807 else if sg = true then 128 * 256 ^ (n.toNat - 1) - 1 else 2 * (128 * 256 ^ (n.toNat - 1)) - 1
theorem pow_le5 {k : Nat} (h : k ≤ 5) : 128 * 256 ^ k ≤ 140737488355328 := by
  have := Nat.pow_le_pow_right (n := 256) (by omega) h
  have h4 : (256 : Nat) ^ 5 = 1099511627776 := by decide
  omega
theorem pow_le6 {k : Nat} (h : k ≤ 6) : 128 * 256 ^ k ≤ 36028797018963968 := by
  have := Nat.pow_le_pow_right (n := 256) (by omega) h
  have h4 : (256 : Nat) ^ 6 = 281474976710656 := by decide
  omega
set_option maxHeartbeats 1000000 in
theorem qMost_any (n : Int) (sg : Bool) (w : World) (h : fitsF n = true) :
    Calls Tryz.prog 93 #[.int .i64 n, .bool sg] w fun e w' => e = .returned (.int .i64 (mostF n sg)) ∧ w = w' := by
  have hb := of_decide_eq_true h
  obtain ⟨n, rfl⟩ : ∃ k : Nat, n = k := ⟨n.toNat, by omega⟩
  by_cases h8 : n = 8
  · subst h8
    go_enter Tryz.func93, Tryz.ntmps93
    go_wp2
    go_ret
    exact ⟨rfl, rfl⟩
  · have h8' : ¬ (n : Int) = 8 := by omega
    obtain ⟨D, hD⟩ : ∃ D, D = 128 * 256 ^ (n - 1) := ⟨_, rfl⟩
    have hDb : D ≤ 36028797018963968 := by rw [hD]; exact pow_le6 (by omega)
    have hm : mostF n sg = if sg = true then (D : Int) - 1 else 2 * (D : Int) - 1 := by
      unfold mostF
      rw [if_neg h8', hD]
      simp
    rw [hm]
    have HD := Lib.hid hD
    clear hD hm h
    go_enter Tryz.func93, Tryz.ntmps93
    go_wp2_with fail
    go_loop [5, 6] (fun h i => ∃ k : Nat, 1 ≤ k ∧ k ≤ n ∧ i = .int .i64 k ∧ h = .int .i64 ((128 * 256 ^ (k - 1) : Nat) : Int)) (fun _ i => n - (intOf i).toNat)
    case atStart => exact ⟨1, by omega, by omega, rfl, rfl⟩
    case round =>
      obtain ⟨k, hk1, hk, rfl, rfl⟩ := hrel
      by_cases hlt : k < n
      · have hdb := pow_le5 (k := k - 1) (by omega)
        have e : 128 * 256 ^ (k - 1) * 256 = 128 * 256 ^ (k + 1 - 1) := by
          obtain ⟨j, rfl⟩ : ∃ j, k = j + 1 := ⟨k - 1, by omega⟩
          simp only [Nat.add_sub_cancel, Nat.pow_succ]; omega
        have Hs := Lib.hid e
        clear e
        generalize 128 * 256 ^ (k - 1) = d at *
        go_wp2
        go_round
        case rel => exact ⟨k + 1, by omega, by omega, by go_num, val_int (by rw [← Hs.out]; omega)⟩
        case measure => simp [intOf]; omega
      · obtain rfl : k = n := by omega
        rw [← HD.out]
        cases sg with
        | true =>
          go_wp2
          go_ret
          exact ⟨ret_int (by simp), rfl⟩
        | false =>
          go_wp2
          go_ret
          exact ⟨ret_int (by simp), rfl⟩
set_option maxRecDepth 10000 in
set_option maxHeartbeats 4000000 in
theorem qAny14_any (n : Int) (sg : Bool) (w : World) : Calls Tryz.prog 89 #[.int .i64 n, .bool sg] w fun e w' => e = .returned (fv (anyF n sg)) ∧ Below w.heap.size w w' := by
  have hb1 : ∀ o1, Below w.heap.size w (w.alloc o1) := fun o1 => (Below.refl _ _).alloc (Nat.le_refl _) _
  have hb2 : ∀ o1 o2, Below w.heap.size w ((w.alloc o1).alloc o2) := fun o1 o2 => (hb1 o1).alloc (hb1 o1).size _
  have Hb1 := Lib.hid hb1
  have Hb2 := Lib.hid hb2
  clear hb1 hb2
  cases hf : fitsF n with
  | false =>
    have hn := of_decide_eq_false hf
    rw [show anyF n sg = ⟨0, false, 0, 0⟩ by unfold anyF; rw [hf]; rfl]
    clear hf
    rcases (by omega : n < 1 ∨ (¬ n < 1 ∧ 8 < n)) with h1 | ⟨h1, h2⟩
    all_goals
      clear hn
      go_enter Tryz.func89, Tryz.ntmps89
      go_wp2
      refine bodyPost_ret (v := .agg #[.int .i64 0, .bool false, .int .i64 0, .int .i64 0]) (by simp [results, go_sem]) rfl ⟨rfl, ?_⟩
      exact Hb1.out _
  | true =>
    rcases fits_cases hf with rfl | rfl | rfl | rfl | rfl | rfl | rfl | rfl
    all_goals cases sg
    all_goals
      go_enter Tryz.func89, Tryz.ntmps89
      go_wp2_with fail
      go_fit (qMost_any _ _ _ hf)
      rintro e w1 ⟨rfl, rfl⟩
      simp only [show mostF 1 true = 127 from rfl, show mostF 1 false = 255 from rfl, show mostF 2 true = 32767 from rfl, show mostF 2 false = 65535 from rfl, show mostF 3 true = 8388607 from rfl, show mostF 3 false = 16777215 from rfl, show mostF 4 true = 2147483647 from rfl, show mostF 4 false = 4294967295 from rfl, show mostF 5 true = 549755813887 from rfl, show mostF 5 false = 1099511627775 from rfl, show mostF 6 true = 140737488355327 from rfl, show mostF 6 false = 281474976710655 from rfl, show mostF 7 true = 36028797018963967 from rfl, show mostF 7 false = 72057594037927935 from rfl, show mostF 8 true = 9223372036854775807 from rfl, show mostF 8 false = 9223372036854775807 from rfl]
      go_wp2
    all_goals
      refine bodyPost_ret (v := fv (anyF _ _)) (by simp [results, go_sem, fv, anyF, fitsF] <;> first | rfl | decide) rfl ⟨rfl, ?_⟩
      exact Hb2.out _ _
end Go.Proofs.YtmkidihcdljkiaaGreat

/-
  The document's shapes: room, Right, Width walked; the law ShapeFields walked.
-/
set_option linter.unusedSimpArgs false
set_option linter.unusedVariables false
namespace Go.Proofs.YtmkidihcdljkiaaGreat
open Go.RowKit NumLaw
attribute [local go_sem] Addr.add_mid

set_option maxRecDepth 10000 in
set_option maxHeartbeats 2000000 in
theorem qroom_any (f : FieldV) (n : Int) (w : World) : Calls Tryz.prog 81 #[fv f, .int .i64 n] w fun e w' => e = .returned (.bool (inF (anyF f.size f.sg) n)) ∧ Below w.heap.size w w' := by
  have hany := fun w => qAny14_any f.size f.sg w
  obtain ⟨a0, a1, a2, a3, ha⟩ : ∃ a0 a1 a2 a3, anyF f.size f.sg = ⟨a0, a1, a2, a3⟩ := ⟨_, _, _, _, rfl⟩
  rw [ha] at hany ⊢
  clear ha
  obtain ⟨size, sg, lo, hi⟩ := f
  have hbx : Below w.heap.size w (w.alloc (.cells #[.int .i64 size, .bool sg, .int .i64 lo, .int .i64 hi] 130)) := (Below.refl _ _).alloc (Nat.le_refl _) _
  unfold fv inF at *
  simp only at hany
  have Hany := Lib.hid hany
  clear hany
  rcases (by omega : n < a2 ∨ (a2 ≤ n ∧ n ≤ a3) ∨ (a2 ≤ n ∧ a3 < n)) with h | ⟨h1, h2⟩ | ⟨h1, h2⟩
  all_goals
    go_enter Tryz.func81, Tryz.ntmps81
    go_wp2_with fail
    go_fit (Hany.out _)
    rintro e w1 ⟨rfl, hb1⟩
    have hb1' := bnx hbx hb1
    have hy := heap_alloc_new w1 (.cells #[.int .i64 a0, .bool a1, .int .i64 a2, .int .i64 a3] 130)
    have hb2 := hb1'.alloc hb1'.size (.cells #[.int .i64 a0, .bool a1, .int .i64 a2, .int .i64 a3] 130)
    have d2 := blk_cell (i := 2) (v := .int .i64 a2) hy rfl
    have d3 := blk_cell (i := 3) (v := .int .i64 a3) hy rfl
    clear hy hb1 hb1'
    go_wp2
    go_ret
    refine ⟨?_, hb2⟩
    simp
    try omega

set_option maxRecDepth 10000 in
set_option maxHeartbeats 4000000 in
theorem qRight_any (A : Option Addr) (n c B : Nat) (l : List FieldV) (w : World) (h : RdF w B A n c l) (hB : B ≤ w.heap.size) :
    Calls Tryz.prog 68 #[.slice A n c] w fun e w' => e = .returned (.bool (rightL l)) ∧ Below w.heap.size w w' := by
  have hle := h.2.1
  have hm := h.2.2.1
  have Hl := Lib.hid h.1
  unfold maxLen at hm
  obtain ⟨r, hr⟩ : ∃ r, r = rightL l := ⟨_, rfl⟩
  rw [← hr]
  have HR := Lib.hid hr
  clear hr
  go_enter Tryz.func68, Tryz.ntmps68
  go_wp2_with fail
  go_loopw [3] (fun i wr => ∃ (k : Nat), k ≤ n ∧ i = .int .i64 k ∧ Below w.heap.size w wr ∧ Hid (rightL (l.take k) = true)) (fun i _ => n - (intOf i).toNat)
  case atStart => exact ⟨0, by omega, rfl, Below.refl _ _, Lib.hid rfl⟩
  case round =>
    obtain ⟨k, hk, rfl, hb, hall⟩ := hrel
    by_cases hlt : k < n
    · obtain ⟨g, off, f, rfl, hg, hx, h1, h2, h3, h4, _⟩ := (h.up (hb.mono hB)).at_ hlt
      have Hs : Hid (rightL (l.take (k + 1)) = rightF f) := Lib.hid (by have h0 := hall.out; unfold rightL at h0 ⊢; rw [take_succ hx, List.all_append, h0]; simp)
      have Hm : Hid (rightF f = false → r = false) := Lib.hid (fun hb => by
        rw [HR.out]
        unfold rightL
        rw [List.all_eq_false]
        exact ⟨f, List.mem_of_getElem? hx, by rw [hb]; simp⟩)
      have hlo := fun w => qroom_any f f.lo w
      have hhi := fun w => qroom_any f f.hi w
      obtain ⟨b3, hb3⟩ : ∃ b3, b3 = inF (anyF f.size f.sg) f.lo := ⟨_, rfl⟩
      obtain ⟨b4, hb4⟩ : ∃ b4, b4 = inF (anyF f.size f.sg) f.hi := ⟨_, rfl⟩
      rw [← hb3] at hlo
      rw [← hb4] at hhi
      have HE : Hid (rightF f = (fitsF f.size && decide (f.lo ≤ f.hi) && b3 && b4)) := Lib.hid (by unfold rightF; rw [hb3, hb4])
      clear hb3 hb4
      obtain ⟨size, sg, lo, hi⟩ := f
      simp only at h1 h2 h3 h4 hlo hhi HE
      unfold fv at hlo hhi
      simp only at hlo hhi
      have Hlo := Lib.hid hlo
      have Hhi := Lib.hid hhi
      clear hlo hhi hx
      obtain ⟨rf, hrf⟩ : ∃ rf, rf = rightF ⟨size, sg, lo, hi⟩ := ⟨_, rfl⟩
      rw [← hrf] at Hs Hm HE
      clear hrf
      have hb2 := hb.alloc hb.size (.cells #[.int .i64 size, .bool sg, .int .i64 lo, .int .i64 hi] 130)
      have hbox := heap_alloc_new wr (.cells #[.int .i64 size, .bool sg, .int .i64 lo, .int .i64 hi] 130)
      have c0 := blk_cell (i := 0) (v := .int .i64 size) hbox rfl
      have c1 := blk_cell (i := 1) (v := .bool sg) hbox rfl
      have c2 := blk_cell (i := 2) (v := .int .i64 lo) hbox rfl
      have c3 := blk_cell (i := 3) (v := .int .i64 hi) hbox rfl
      rcases (by omega : size < 1 ∨ (¬ size < 1 ∧ 8 < size) ∨ (¬ size < 1 ∧ ¬ 8 < size ∧ hi < lo) ∨ (¬ size < 1 ∧ ¬ 8 < size ∧ ¬ hi < lo)) with g1 | ⟨g1, g2⟩ | ⟨g1, g2, g3⟩ | ⟨g1, g2, g3⟩
      · obtain rfl : rf = false := by rw [HE.out, show fitsF size = false from decide_eq_false (by omega)]; rfl
        obtain rfl : r = false := Hm.out rfl
        clear Hs HE Hm
        go_wp2
        go_ret
        exact ⟨rfl, hb2⟩
      · obtain rfl : rf = false := by rw [HE.out, show fitsF size = false from decide_eq_false (by omega)]; rfl
        obtain rfl : r = false := Hm.out rfl
        clear Hs HE Hm
        go_wp2
        go_ret
        exact ⟨rfl, hb2⟩
      · obtain rfl : rf = false := by rw [HE.out, decide_eq_false (show ¬ lo ≤ hi by omega)]; simp
        obtain rfl : r = false := Hm.out rfl
        clear Hs HE Hm
        go_wp2
        go_ret
        exact ⟨rfl, hb2⟩
      · have HE2 : Hid (rf = (b3 && b4)) := Lib.hid (by rw [HE.out, show fitsF size = true from decide_eq_true (by omega), decide_eq_true (show lo ≤ hi by omega)]; simp)
        clear HE
        go_wp2_with fail
        go_fit (Hlo.out _)
        rintro e w3 ⟨rfl, hb23⟩
        have hb3 := bnx hb2 hb23
        have hbox3 := blk_old hbox hb23 (blk_lt hbox)
        clear c0 c1 c2 c3 hbox hb2 hb23
        have c0 := blk_cell (i := 0) (v := .int .i64 size) hbox3 rfl
        have c1 := blk_cell (i := 1) (v := .bool sg) hbox3 rfl
        have c2 := blk_cell (i := 2) (v := .int .i64 lo) hbox3 rfl
        have c3 := blk_cell (i := 3) (v := .int .i64 hi) hbox3 rfl
        cases b3 with
        | false =>
          obtain rfl : rf = false := HE2.out
          obtain rfl : r = false := Hm.out rfl
          clear Hs HE2 Hm
          go_wp2
          go_ret
          exact ⟨rfl, hb3⟩
        | true =>
          obtain rfl : rf = b4 := by rw [HE2.out]; rfl
          go_wp2_with fail
          go_fit (Hhi.out _)
          rintro e w4 ⟨rfl, hb34⟩
          have hb4 := bnx hb3 hb34
          cases rf with
          | false =>
            obtain rfl : r = false := Hm.out rfl
            clear Hs HE2 Hm
            go_wp2
            go_ret
            exact ⟨rfl, hb4⟩
          | true =>
            clear HE2 Hm
            go_wp2
            go_roundw
            case rel => exact ⟨k + 1, by omega, by go_num, hb4, Hs⟩
            case measure => simp [intOf]; omega
    · obtain rfl : k = n := by omega
      have ht : l.take k = l := List.take_of_length_le (by rw [Hl.out]; omega)
      rw [ht] at hall
      obtain rfl : r = true := by rw [HR.out]; exact hall.out
      go_wp2
      go_ret
      exact ⟨rfl, hb⟩

end Go.Proofs.YtmkidihcdljkiaaGreat

/-
  The document's answer for layer 4 (landfallref04), its writer.
-/
set_option linter.unusedSimpArgs false
set_option linter.unusedVariables false
namespace Go.Proofs.YtmkidihcdljkiaaGreat
open Go.RowKit NumLaw

/- Bytes -/
set_option maxHeartbeats 400000 in
theorem qBytes_any (n u : Nat) (w : World) (hn : n ≤ 8) (hu : u < 18446744073709551616) :
    Calls Tryz.prog 50 #[.int .i64 n, .int .u64 u] w (RetB w (bytesN n u)) := by
  obtain ⟨i0, hi⟩ := info_parts u8_info
  have Hi := Lib.hid hi
  clear hi
  go_enter Tryz.func50, Tryz.ntmps50
  go_wp2
  go_loopw [1, 5, 6] (fun v s i wr => ∃ (k : Nat) (A : Option Addr) (c : Nat), k ≤ n ∧ i = .int .i64 k ∧ v = .int .u64 ((u / 256 ^ k : Nat) : Int) ∧ s = .slice A k c ∧ wr.ownsRow w.heap.size 5 1 (.slice A k c) k (bv ((bytesN n u).take k)) ∧ Below w.heap.size w wr) (fun _ _ i _ => n - (intOf i).toNat)
  case atStart => exact ⟨0, none, 0, by omega, rfl, by simp, rfl, World.ownsRow_nil _ _ _ _, Below.refl _ _⟩
  case round =>
    obtain ⟨k, A, c, hk, rfl, rfl, rfl, hown, hb⟩ := hrel
    by_cases hlt : k < n
    · have ht := bytesN_take (u := u) hlt
      have hv : u / 256 ^ (k + 1) = u / 256 ^ k / 256 := by rw [Nat.pow_succ, ← Nat.div_div_eq_div_mul]
      have hvl : u / 256 ^ k < 18446744073709551616 := Nat.lt_of_le_of_lt (Nat.div_le_self _ _) hu
      have Ht := Lib.hid (And.intro ht hv)
      clear ht hv
      generalize u / 256 ^ k = v at *
      have hnew : Rd (wr.alloc (.cells #[.int .u8 ((v : Int) % 256)] 5)) (wr.heap.size + 1) 1 (some ⟨wr.heap.size, 0, none⟩) 1 1 (bv [UInt8.ofNat (v % 256)]) := by
        have := rd_const wr 5 [UInt8.ofNat (v % 256)] (0, 0) (by simp [maxLen])
        have e1 : (UInt8.ofNat (v % 256)).toNat = v % 256 := by rw [UInt8.toNat_ofNat']; omega
        simpa [bv, e1] using this
      have hown2 := hown.alloc (.cells #[.int .u8 ((v : Int) % 256)] 5)
      have hsz := hb.size
      go_wp2_with (at_builtin; refine stop_ ?_)
      refine go_ (wpList_app (base := w.heap.size) Tryz.underlying38 Hi.out rfl (by omega) hown2 rfl hnew rfl (bv_one _) (k := k + 1) rfl (bv_app _ _).symm (by unfold maxLen; omega) (by omega) (by simp; omega) ?_)
      intro A3 c3 w3 hown3 hup3
      have hb3 : Below w.heap.size w w3 := hup3 (hb.alloc hb.size _) (by simp; omega) (Nat.le_refl _)
      rw [← Ht.out.1] at hown3
      clear hup3 hb hown hown2 hnew
      go_wp2
      go_roundw
      case rel => exact ⟨k + 1, A3, c3, by omega, by go_num, by rw [Ht.out.2]; exact val_int (by omega), rfl, hown3, hb3⟩
      case measure => simp [intOf]; omega
    · obtain rfl : k = n := by omega
      have ht : (bytesN k u).take k = bytesN k u := List.take_of_length_le (by rw [bytesN_len]; exact Nat.le_refl _)
      rw [ht] at hown
      go_wp2
      go_ret
      exact ⟨A, c, k, rfl, hown, hb⟩

/- FitsU -/
/- FitsI -/
/- PutRaw -/
/- PutU -/
/- PutI -/
end Go.Proofs.YtmkidihcdljkiaaGreat

/-
  The document's shapes: Put walked.
-/
set_option linter.unusedSimpArgs false
set_option linter.unusedVariables false
namespace Go.Proofs.YtmkidihcdljkiaaGreat
open Go.RowKit NumLaw
attribute [local go_sem] Addr.add_mid

set_option maxRecDepth 10000 in
set_option maxHeartbeats 4000000 in
theorem qPut14_go (A : Option Addr) (n c B : Nat) (l : List FieldV) (A' : Option Addr) (c' B' : Nat) (vs : List Int) (w : World) (h : RdF w B A n c l) (hB : B ≤ w.heap.size) (h' : Rd w B' 1 A' n c' (vs.map (Value.int .i64))) (hB' : B' ≤ w.heap.size) (hn : n ≤ 100000) (hr : rightL l = true) :
    Calls Tryz.prog 40 #[.slice A n c, .slice A' n c'] w (RetPS w (shP l vs) (shE l vs)) := by
  have hle := h.2.1
  have hlv : vs.length = n := by have := h'.len; simpa using this
  have Hl := Lib.hid h.1
  have Hlv := Lib.hid hlv
  have Hr := Lib.hid hr
  have hright := qRight_any A n c B l w h hB
  rw [hr] at hright
  have hE : shE l vs = if inAll l vs = true then 0 else 5 := by unfold shE; rw [if_pos ⟨hr, by rw [hlv, h.1]⟩]
  have HE := Lib.hid hE
  obtain ⟨oE, hoE⟩ : ∃ oE, oE = shE l vs := ⟨_, rfl⟩
  obtain ⟨oP, hoP⟩ : ∃ oP, oP = shP l vs := ⟨_, rfl⟩
  rw [← hoE, ← hoP]
  have HoE := Lib.hid hoE
  have HoP := Lib.hid hoP
  obtain ⟨i0, hi0⟩ := info_parts u8_info
  have Hi := Lib.hid hi0
  clear hr hlv hE hoE hoP hi0
  go_enter Tryz.func40, Tryz.ntmps40
  go_wp2_with fail
  go_fit hright
  rintro e w1 ⟨rfl, hb1⟩
  go_wp2_with fail
  go_loopw [6, 7] (fun s i wr => ∃ (k : Nat) (A6 : Option Addr) (m c6 : Nat) (lw : List UInt8), k ≤ n ∧ i = .int .i64 k ∧ s = .slice A6 m c6 ∧ wr.ownsRow w.heap.size 5 1 (.slice A6 m c6) m (bv lw) ∧ Below w.heap.size w wr ∧ m ≤ k * 8 ∧ Hid (lw = ((l.zip vs).take k).flatMap fun p => bytesN p.1.size.toNat (un p.2)) ∧ Hid (((l.zip vs).take k).all (fun p => inF p.1 p.2) = true)) (fun _ i _ => n - (intOf i).toNat)
  case atStart => exact ⟨0, none, 0, 0, [], by omega, rfl, rfl, World.ownsRow_nil _ _ _ _, hb1, by omega, Lib.hid rfl, Lib.hid rfl⟩
  case round =>
    clear hb1 w1
    obtain ⟨k, A6, m, c6, lw, hk, rfl, rfl, hown, hb, hlw, hlB, hall⟩ := hrel
    by_cases hlt : k < n
    · obtain ⟨gf, off, f, rfl, hgf, hx, h1, h2, h3, h4, _⟩ := h.at_ hlt
      obtain ⟨adv, uv, rfl, hu, hcv⟩ := h'.one hlt
      obtain ⟨x, hxx, rfl⟩ : ∃ x, vs[k]? = some x ∧ Value.int .i64 x = uv := by simpa using hu
      have hadv : adv.block < B' := by
        obtain ⟨ad', e', hb', _⟩ := h'.at_ (by omega)
        injection e' with e'
        rw [e']; exact hb'
      have hgw : gf < w.heap.size := by omega
      have haw : (adv.add k).block < w.heap.size := by rw [blk_add]; omega
      have hfit := right_fits (List.all_eq_true.1 Hr.out _ (List.mem_of_getElem? hx))
      have hzs := zip_take_succ hx hxx
      have Hs := Lib.hid hzs
      have hm : (f, x) ∈ l.zip vs := List.mem_of_getElem? (i := k) (by rw [List.getElem?_zip_eq_some]; exact ⟨hx, hxx⟩)
      have Hm := Lib.hid hm
      clear hu hxx hx hzs hm
      obtain ⟨size, sg, lo, hi⟩ := f
      simp only at h1 h2 h3 h4 hfit Hs
      obtain ⟨sz, rfl⟩ : ∃ sz : Nat, size = sz := ⟨size.toNat, by omega⟩
      have Hbad : Hid (inF ⟨(sz : Int), sg, lo, hi⟩ x = false → oE = 5 ∧ oP = []) := Lib.hid (fun hin => by
        have hna : inAll l vs = false := by
          unfold inAll
          rw [List.all_eq_false]
          exact ⟨_, Hm.out, by rw [hin]; simp⟩
        have h5 : oE = 5 := by rw [HoE.out, HE.out, if_neg (by rw [hna]; simp)]
        refine ⟨h5, ?_⟩
        rw [HoP.out]; unfold shP; rw [if_neg (by rw [← HoE.out, h5]; simp)])
      rcases (by omega : x < lo ∨ (¬ x < lo ∧ hi < x) ∨ (¬ x < lo ∧ ¬ hi < x)) with g1 | ⟨g1, g2⟩ | ⟨g1, g2⟩
      · obtain ⟨rfl, rfl⟩ := Hbad.out (decide_eq_false (by simp only; omega))
        have e1 := (hb.cell haw).trans hcv
        have e2 := (hb.cell (p := ⟨gf, off + k * 4 + 2, none⟩) hgw).trans h3
        clear Hbad
        go_wp2_with fail
        go_quiet (fail)
        go_wp2
        go_ret2
        exact ⟨none, 0, 0, rfl, World.ownsRow_nil _ _ _ _, below_drewN hb _⟩
      · have d1 : decide (x < lo) = false := decide_eq_false g1
        have d2 : decide (hi < x) = true := decide_eq_true g2
        obtain ⟨rfl, rfl⟩ := Hbad.out (decide_eq_false (by simp only; omega))
        go_wp2_with fail
        refine Ord.region_ (fun w' => Below w.heap.size w w') false [] (by kernel_rfl) (by kernel_rfl) hb.drew ?_
        replace hb := hb.drew
        generalize wr.drew = w3 at *
        repeat (first | (refine Ord.e_p (v := ?_) rfl (by rfl) ?_ ?_; rotate_left; · (intro w2; go_simp; try with_reducible rfl)) | (refine Ord.e_u (by rfl) ?_)); (try simp only [Act.put, List.setIfInBounds_toArray, List.set_cons_zero, List.set_cons_succ])
        refine Ord.e_loadS Tryz.underlying2 rfl (fun w' hS => ((show Below _ w w' from hS).cell haw).trans hcv) hb rfl (by rfl) ?_
        (try simp only [Act.put, List.setIfInBounds_toArray, List.set_cons_zero, List.set_cons_succ])
        repeat (first | (refine Ord.e_p (v := ?_) rfl (by rfl) ?_ ?_; rotate_left; · (intro w2; go_simp; try with_reducible rfl)) | (refine Ord.e_u (by rfl) ?_)); (try simp only [Act.put, List.setIfInBounds_toArray, List.set_cons_zero, List.set_cons_succ])
        refine Ord.e_loadS Tryz.underlying2 rfl (fun w' hS => ((show Below _ w w' from hS).cell (p := ⟨gf, off + k * 4 + 2, none⟩) hgw).trans h3) hb rfl (by rfl) ?_
        (try simp only [Act.put, List.setIfInBounds_toArray, List.set_cons_zero, List.set_cons_succ])
        repeat (first | (refine Ord.e_p (v := ?_) rfl (by rfl) ?_ ?_; rotate_left; · (intro w2; go_simp; try with_reducible rfl)) | (refine Ord.e_u (by rfl) ?_)); (try simp only [Act.put, List.setIfInBounds_toArray, List.set_cons_zero, List.set_cons_succ])
        refine Ord.e_loadS Tryz.underlying2 rfl (fun w' hS => ((show Below _ w w' from hS).cell haw).trans hcv) hb rfl (by rfl) ?_
        (try simp only [Act.put, List.setIfInBounds_toArray, List.set_cons_zero, List.set_cons_succ])
        repeat (first | (refine Ord.e_p (v := ?_) rfl (by rfl) ?_ ?_; rotate_left; · (intro w2; go_simp; try with_reducible rfl)) | (refine Ord.e_u (by rfl) ?_)); (try simp only [Act.put, List.setIfInBounds_toArray, List.set_cons_zero, List.set_cons_succ])
        refine Ord.e_loadS Tryz.underlying2 rfl (fun w' hS => ((show Below _ w w' from hS).cell (p := ⟨gf, off + k * 4 + 3, none⟩) hgw).trans h4) hb rfl (by rfl) ?_
        (try simp only [Act.put, List.setIfInBounds_toArray, List.set_cons_zero, List.set_cons_succ])
        repeat (first | (refine Ord.e_p (v := ?_) rfl (by rfl) ?_ ?_; rotate_left; · (intro w2; go_simp; try with_reducible rfl)) | (refine Ord.e_u (by rfl) ?_)); (try simp only [Act.put, List.setIfInBounds_toArray, List.set_cons_zero, List.set_cons_succ])
        refine Ord.e_nil ?_
        go_wp2
        go_ret2
        exact ⟨none, 0, 0, rfl, World.ownsRow_nil _ _ _ _, hb⟩
      · have d1 : decide (x < lo) = false := decide_eq_false g1
        have d2 : decide (hi < x) = false := decide_eq_false g2
        have HIN : Hid (inF ⟨(sz : Int), sg, lo, hi⟩ x = true) := Lib.hid (decide_eq_true (by simp only; omega))
        clear Hbad
        go_wp2_with fail
        refine Ord.region_ (fun w' => Below w.heap.size w w') false [] (by kernel_rfl) (by kernel_rfl) hb.drew ?_
        replace hb := hb.drew
        replace hown := hown.drew
        generalize wr.drew = w3 at *
        repeat (first | (refine Ord.e_p (v := ?_) rfl (by rfl) ?_ ?_; rotate_left; · (intro w2; go_simp; try with_reducible rfl)) | (refine Ord.e_u (by rfl) ?_)); (try simp only [Act.put, List.setIfInBounds_toArray, List.set_cons_zero, List.set_cons_succ])
        refine Ord.e_loadS Tryz.underlying2 rfl (fun w' hS => ((show Below _ w w' from hS).cell haw).trans hcv) hb rfl (by rfl) ?_
        (try simp only [Act.put, List.setIfInBounds_toArray, List.set_cons_zero, List.set_cons_succ])
        repeat (first | (refine Ord.e_p (v := ?_) rfl (by rfl) ?_ ?_; rotate_left; · (intro w2; go_simp; try with_reducible rfl)) | (refine Ord.e_u (by rfl) ?_)); (try simp only [Act.put, List.setIfInBounds_toArray, List.set_cons_zero, List.set_cons_succ])
        refine Ord.e_loadS Tryz.underlying2 rfl (fun w' hS => ((show Below _ w w' from hS).cell (p := ⟨gf, off + k * 4 + 2, none⟩) hgw).trans h3) hb rfl (by rfl) ?_
        (try simp only [Act.put, List.setIfInBounds_toArray, List.set_cons_zero, List.set_cons_succ])
        repeat (first | (refine Ord.e_p (v := ?_) rfl (by rfl) ?_ ?_; rotate_left; · (intro w2; go_simp; try with_reducible rfl)) | (refine Ord.e_u (by rfl) ?_)); (try simp only [Act.put, List.setIfInBounds_toArray, List.set_cons_zero, List.set_cons_succ])
        refine Ord.e_loadS Tryz.underlying2 rfl (fun w' hS => ((show Below _ w w' from hS).cell haw).trans hcv) hb rfl (by rfl) ?_
        (try simp only [Act.put, List.setIfInBounds_toArray, List.set_cons_zero, List.set_cons_succ])
        repeat (first | (refine Ord.e_p (v := ?_) rfl (by rfl) ?_ ?_; rotate_left; · (intro w2; go_simp; try with_reducible rfl)) | (refine Ord.e_u (by rfl) ?_)); (try simp only [Act.put, List.setIfInBounds_toArray, List.set_cons_zero, List.set_cons_succ])
        refine Ord.e_loadS Tryz.underlying2 rfl (fun w' hS => ((show Below _ w w' from hS).cell (p := ⟨gf, off + k * 4 + 3, none⟩) hgw).trans h4) hb rfl (by rfl) ?_
        (try simp only [Act.put, List.setIfInBounds_toArray, List.set_cons_zero, List.set_cons_succ])
        repeat (first | (refine Ord.e_p (v := ?_) rfl (by rfl) ?_ ?_; rotate_left; · (intro w2; go_simp; try with_reducible rfl)) | (refine Ord.e_u (by rfl) ?_)); (try simp only [Act.put, List.setIfInBounds_toArray, List.set_cons_zero, List.set_cons_succ])
        refine Ord.e_nil ?_
        have hun := un_wrap x
        have hul := un_lt x
        obtain ⟨u, hu⟩ : ∃ u, u = un x := ⟨_, rfl⟩
        rw [← hu] at hun hul
        have HU := Lib.hid hu
        clear hu
        go_wp2_with fail
        refine Ord.region_ (fun w' => Below w.heap.size w w') false [] (by kernel_rfl) (by kernel_rfl) hb.drew ?_
        replace hb := hb.drew
        replace hown := hown.drew
        generalize w3.drew = w4 at *
        repeat (first | (refine Ord.e_p (v := ?_) rfl (by rfl) ?_ ?_; rotate_left; · (intro w2; go_simp; try with_reducible rfl)) | (refine Ord.e_u (by rfl) ?_)); (try simp only [Act.put, List.setIfInBounds_toArray, List.set_cons_zero, List.set_cons_succ])
        refine Ord.e_loadS Tryz.underlying3 rfl (fun w' hS => ((show Below _ w w' from hS).cell (p := ⟨gf, off + k * 4, none⟩) hgw).trans h1) hb rfl (by rfl) ?_
        (try simp only [Act.put, List.setIfInBounds_toArray, List.set_cons_zero, List.set_cons_succ])
        repeat (first | (refine Ord.e_p (v := ?_) rfl (by rfl) ?_ ?_; rotate_left; · (intro w2; go_simp; try with_reducible rfl)) | (refine Ord.e_u (by rfl) ?_)); (try simp only [Act.put, List.setIfInBounds_toArray, List.set_cons_zero, List.set_cons_succ])
        refine Ord.e_loadS Tryz.underlying2 rfl (fun w' hS => ((show Below _ w w' from hS).cell haw).trans hcv) hb rfl (by rfl) ?_
        (try simp only [Act.put, List.setIfInBounds_toArray, List.set_cons_zero, List.set_cons_succ])
        repeat (first | (refine Ord.e_p (v := ?_) rfl (by rfl) ?_ ?_; rotate_left; · (intro w2; go_simp; try with_reducible rfl)) | (refine Ord.e_u (by rfl) ?_)); (try simp only [Act.put, List.setIfInBounds_toArray, List.set_cons_zero, List.set_cons_succ])
        refine Ord.e_x rfl (by rfl) ?_
        go_wp2_with fail
        go_fit (qBytes_any sz u w4 (by omega) hul)
        rintro e w5 ⟨A5, c5, n5, rfl, hown5, hb45⟩
        have hn5 := own_len hown5
        rw [bytesN_len] at hn5
        have hb5 := bnx hb hb45
        have hown45 := own_up hown hb45 (Nat.le_refl _)
        go_wp2_with fail
        refine Ord.Seg.go hb5 (fun h => by cases h) ?_
        (try simp only [Act.put, List.setIfInBounds_toArray, List.set_cons_zero, List.set_cons_succ])
        repeat (first | (refine Ord.e_p (v := ?_) rfl (by rfl) ?_ ?_; rotate_left; · (intro w2; go_simp; try with_reducible rfl)) | (refine Ord.e_u (by rfl) ?_)); (try simp only [Act.put, List.setIfInBounds_toArray, List.set_cons_zero, List.set_cons_succ])
        refine Ord.e_x rfl (by rfl) ?_
        refine wpList_app Tryz.underlying38 Hi.out rfl (by omega) hown45 rfl (Rd.own hown5) rfl (bv_one _) (k := m + n5) rfl (bv_app _ _).symm (by unfold maxLen; omega) (by omega) hb5.size ?_
        intro A7 c7 w7 hown7 hB7
        have hb7 := hB7 hb5 hb5.size (Nat.le_refl _)
        clear hB7 hown45 hown5 hown hb45 hb
        go_wp2_with fail
        refine Ord.Seg.go hb7 (fun h => by cases h) ?_
        (try simp only [Act.put, List.setIfInBounds_toArray, List.set_cons_zero, List.set_cons_succ])
        repeat (first | (refine Ord.e_p (v := ?_) rfl (by rfl) ?_ ?_; rotate_left; · (intro w2; go_simp; try with_reducible rfl)) | (refine Ord.e_u (by rfl) ?_)); (try simp only [Act.put, List.setIfInBounds_toArray, List.set_cons_zero, List.set_cons_succ])
        refine Ord.e_nil ?_
        go_wp2
        go_roundw
        case rel =>
          refine ⟨k + 1, A7, m + n5, c7, _, by omega, by go_num, rfl, hown7, hb7, by omega, Lib.hid ?_, Lib.hid ?_⟩
          · rw [Hs.out, List.flatMap_append, ← hlB.out, HU.out]; simp
          · rw [Hs.out, List.all_append, hall.out]; simp [HIN.out]
        case measure => simp [intOf]; omega
    · obtain rfl : k = n := by omega
      have ht : (l.zip vs).take k = l.zip vs := List.take_of_length_le (by rw [List.length_zip, Hl.out, Hlv.out]; omega)
      rw [ht] at hall hlB
      have hall2 : inAll l vs = true := hall.out
      obtain rfl : oE = 0 := by rw [HoE.out, HE.out, if_pos hall2]
      obtain rfl : oP = lw := by rw [HoP.out, hlB.out]; unfold shP; rw [if_pos HoE.out.symm]; rfl
      clear ht hall2
      go_wp2
      go_ret2
      exact ⟨A6, m, c6, rfl, hown, hb⟩
set_option maxHeartbeats 1000000 in
theorem qPut14_any (A : Option Addr) (n c B : Nat) (l : List FieldV) (A' : Option Addr) (n' c' B' : Nat) (vs : List Int) (w : World) (h : RdF w B A n c l) (hB : B ≤ w.heap.size) (h' : Rd w B' 1 A' n' c' (vs.map (Value.int .i64))) (hB' : B' ≤ w.heap.size) (hn : n ≤ 100000) :
    Calls Tryz.prog 40 #[.slice A n c, .slice A' n' c'] w (RetPS w (shP l vs) (shE l vs)) := by
  have hlv : vs.length = n' := by have := h'.len; simpa using this
  have hright := qRight_any A n c B l w h hB
  cases hr : rightL l with
  | false =>
    have e1 : shE l vs = 1 := by unfold shE; rw [if_neg (by rw [hr]; simp)]
    rw [show shP l vs = [] by unfold shP; rw [e1]; rfl, e1]
    rw [hr] at hright
    clear hr e1 hlv
    go_enter Tryz.func40, Tryz.ntmps40
    go_wp2_with fail
    go_fit hright
    rintro e w1 ⟨rfl, hb1⟩
    go_wp2
    go_ret2
    exact ⟨none, 0, 0, rfl, World.ownsRow_nil _ _ _ _, hb1⟩
  | true =>
    by_cases hnn : n' = n
    · subst hnn
      exact qPut14_go A n' c B l A' c' B' vs w h hB h' hB' hn hr
    · have e1 : shE l vs = 1 := by unfold shE; rw [if_neg (by rw [hlv, h.1]; intro hh; exact hnn hh.2)]
      rw [show shP l vs = [] by unfold shP; rw [e1]; rfl, e1]
      rw [hr] at hright
      have hnn' : ¬ (n' : Int) = (n : Int) := by omega
      clear hr e1 hlv hnn
      go_enter Tryz.func40, Tryz.ntmps40
      go_wp2_with fail
      go_fit hright
      rintro e w1 ⟨rfl, hb1⟩
      go_wp2
      go_ret2
      exact ⟨none, 0, 0, rfl, World.ownsRow_nil _ _ _ _, hb1⟩

end Go.Proofs.YtmkidihcdljkiaaGreat
