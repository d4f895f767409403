/-
  The document's answer for layer 4 (landfallref04), its writer.
-/
import Derived.Test.YtplgcfjcdjlnbaaOctWr2
import Derived.Test.YtplgcfjcdjlnbaaOctRef
set_option linter.unusedSimpArgs false
set_option linter.unusedVariables false
namespace Go.Proofs.Ytplgcfjcdjlnbaa
open Go.RowKit NumLaw

theorem ret_bool {a b : Bool} (h : a = b) : Ending.returned (.bool a) = .returned (.bool b) := by rw [h]

/- Bytes -/
set_option maxHeartbeats 400000 in
theorem qBytes_any (n u : Nat) (w : World) (hn : n ≤ 8) (hu : u < 18446744073709551616) :
    Calls Try.prog 71 #[.int .i64 n, .int .u64 u] w (RetB w (bytesN n u)) := by
  obtain ⟨i0, hi⟩ := info_parts u8_info
  have Hi := Lib.hid hi
  clear hi
  go_enter Try.func71, Try.ntmps71
  go_wp2
  go_loopw [1, 5, 6] (fun v s i wr => ∃ (k : Nat) (A : Option Addr) (c : Nat), k ≤ n ∧ i = .int .i64 k ∧ v = .int .u64 ((u / 256 ^ k : Nat) : Int) ∧ s = .slice A k c ∧ wr.ownsRow w.heap.size 5 1 (.slice A k c) k (bv ((bytesN n u).take k)) ∧ Below w.heap.size w wr) (fun _ _ i _ => n - (intOf i).toNat)
  case atStart => exact ⟨0, none, 0, by omega, rfl, by simp, rfl, World.ownsRow_nil _ _ _ _, Below.refl _ _⟩
  case round =>
    obtain ⟨k, A, c, hk, rfl, rfl, rfl, hown, hb⟩ := hrel
    by_cases hlt : k < n
    · have ht := bytesN_take (u := u) hlt
      have hv : u / 256 ^ (k + 1) = u / 256 ^ k / 256 := by rw [Nat.pow_succ, ← Nat.div_div_eq_div_mul]
      have hvl : u / 256 ^ k < 18446744073709551616 := Nat.lt_of_le_of_lt (Nat.div_le_self _ _) hu
      have Ht := Lib.hid (And.intro ht hv)
      clear ht hv
      generalize u / 256 ^ k = v at *
      have hnew : Rd (wr.alloc (.cells #[.int .u8 ((v : Int) % 256)] 5)) (wr.heap.size + 1) 1 (some ⟨wr.heap.size, 0, none⟩) 1 1 (bv [UInt8.ofNat (v % 256)]) := by
        have := rd_const wr 5 [UInt8.ofNat (v % 256)] (0, 0) (by simp [maxLen])
        have e1 : (UInt8.ofNat (v % 256)).toNat = v % 256 := by rw [UInt8.toNat_ofNat']; omega
        simpa [bv, e1] using this
      have hown2 := hown.alloc (.cells #[.int .u8 ((v : Int) % 256)] 5)
      have hsz := hb.size
      go_wp2_with (at_builtin; refine stop_ ?_)
      refine go_ (wpList_app (base := w.heap.size) Try.underlying26 Hi.out rfl (by omega) hown2 rfl hnew rfl (bv_one _) (k := k + 1) rfl (bv_app _ _).symm (by unfold maxLen; omega) (by omega) (by simp; omega) ?_)
      intro A3 c3 w3 hown3 hup3
      have hb3 : Below w.heap.size w w3 := hup3 (hb.alloc hb.size _) (by simp; omega) (Nat.le_refl _)
      rw [← Ht.out.1] at hown3
      clear hup3 hb hown hown2 hnew
      go_wp2
      go_roundw
      case rel => exact ⟨k + 1, A3, c3, by omega, by go_num, by rw [Ht.out.2]; exact val_int (by omega), rfl, hown3, hb3⟩
      case measure => simp [intOf]; omega
    · obtain rfl : k = n := by omega
      have ht : (bytesN k u).take k = bytesN k u := List.take_of_length_le (by rw [bytesN_len]; exact Nat.le_refl _)
      rw [ht] at hown
      go_wp2
      go_ret
      exact ⟨A, c, k, rfl, hown, hb⟩

/- FitsU -/
theorem half_two (n : Nat) (h : 1 ≤ n) : 2 * (128 * 256 ^ (n - 1)) = 256 ^ n := by
  obtain ⟨j, rfl⟩ : ∃ j, n = j + 1 := ⟨n - 1, by omega⟩
  simp only [Nat.add_sub_cancel, Nat.pow_succ]; omega
/- FitsI -/
/-- A writer as a plain value: its bytes in new memory (or none). -/
def RetP (w : World) (l : List UInt8) (bad : Bool) (e : Ending) (w' : World) : Prop :=
  ∃ A n c, e = .returned (.agg #[.slice A n c, .bool bad]) ∧ w'.ownsRow w.heap.size 5 1 (.slice A n c) n (bv l) ∧ (bad = true → A = none ∧ n = 0 ∧ c = 0) ∧ Below w.heap.size w w'
/- PutRaw -/
/- PutU -/
/- PutI -/
end Go.Proofs.Ytplgcfjcdjlnbaa
