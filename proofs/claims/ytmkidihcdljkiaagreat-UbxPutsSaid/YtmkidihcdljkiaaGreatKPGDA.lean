/-
  Several texts in one: Dop1 Ack1.
-/
import Derived.Test.YtmkidihcdljkiaaGreatKPGE
import Derived.Test.YtmkidihcdljkiaaGreatKPGM
/-
  dop's fields, and the document's.
-/
set_option linter.unusedSimpArgs false
set_option linter.unusedVariables false
namespace Go.Proofs.YtmkidihcdljkiaaGreat
open Go.RowKit NumLaw

def dopF : List FieldV := ⟨4, false, 0, 604799999⟩ :: List.replicate 7 ⟨2, false, 0, 65535⟩
theorem dopF_b : FB dopF := by intro f hf; simp [dopF] at hf; rcases hf with rfl | rfl <;> simp
def dopK (k : Nat) : List FieldV := ⟨4, false, 0, 604799999⟩ :: List.replicate k ⟨2, false, 0, 65535⟩
theorem dopK_succ (k : Nat) : dopK (k + 1) = dopK k ++ [⟨2, false, 0, 65535⟩] := by
  simp [dopK, List.replicate_succ']
theorem any2_ : anyF 2 false = ⟨2, false, 0, 65535⟩ := by simp [anyF, fitsF]
set_option maxRecDepth 10000 in
set_option maxHeartbeats 1000000 in
theorem dopfields_any (w : World) : Calls Tryz.prog 157 #[] w (RetF dopF w) := by
  obtain ⟨i0, hi⟩ := info_parts field_info
  have Hi := Lib.hid hi
  clear hi
  have hu := fun w => shU_any 4 604799999 w
  have ha := fun w => shAny_any 2 false w
  rw [any2_] at ha
  rw [if_pos (by decide)] at hu
  have Ha := Lib.hid ha
  clear ha
  go_enter Tryz.func157, Tryz.ntmps157
  go_wp2_with fail
  go_fit (hu _)
  rintro e w1 ⟨rfl, hb1⟩
  unfold fv
  clear hu
  go_wp2_with fail
  have hown := own_litF w1 w.heap.size 130 (dopK 0) #[.int .i64 4, .bool false, .int .i64 0, .int .i64 604799999] rfl hb1.size (by simp [dopK, maxLen])
  have hb2 := hb1.alloc hb1.size (.cells #[.int .i64 4, .bool false, .int .i64 0, .int .i64 604799999] 130)
  rw [show (dopK 0).length = 1 from rfl] at hown
  generalize (w1.alloc (.cells #[.int .i64 4, .bool false, .int .i64 0, .int .i64 604799999] 130)) = w2 at *
  generalize w1.heap.size = g1 at *
  go_loopw [1, 4] (fun s i wr => ∃ (k : Nat) (A : Option Addr) (c : Nat), k ≤ 7 ∧ i = .int .i64 k ∧ s = .slice A (k + 1) c ∧ wr.ownsRow w.heap.size 130 4 (.slice A (k + 1) c) (k + 1) (fcs (dopK k)) ∧ Below w.heap.size w wr) (fun _ i _ => 7 - (intOf i).toNat)
  case atStart => exact ⟨0, _, 1, by omega, rfl, rfl, hown, hb2⟩
  case round =>
    clear hown hb2 hb1 w1
    obtain ⟨k, A, c, hk, rfl, rfl, hown, hb⟩ := hrel
    by_cases hlt : k < 7
    · go_wp2_with fail
      go_fit (Ha.out _)
      rintro e w3 ⟨rfl, hb3⟩
      unfold fv
      have hbn := bnx hb hb3
      have hnew := (rd_litF w3 130 [⟨2, false, 0, 65535⟩] #[.int .i64 2, .bool false, .int .i64 0, .int .i64 65535] rfl (by simp [maxLen]))
      have hown2 := own_up hown (hb3.alloc hb3.size (.cells #[.int .i64 2, .bool false, .int .i64 0, .int .i64 65535] 130)) (Nat.le_refl _)
      have hbl := hbn.alloc hbn.size (.cells #[.int .i64 2, .bool false, .int .i64 0, .int .i64 65535] 130)
      have Hd := Lib.hid (dopK_succ k)
      go_wp2_with (at_builtin; refine stop_ ?_)
      refine go_ (wpList_app (base := w.heap.size) Tryz.underlying94 Hi.out rfl (by omega) hown2 rfl hnew rfl (fcs_one _) (k := k + 1 + 1) (ys := fcs (dopK (k + 1))) rfl (by rw [Hd.out, fcs_app]) (by unfold maxLen; omega) (by omega) hbl.size ?_)
      intro A3 c3 w4 hown3 hup3
      have hb4 := hup3 hbl hbl.size (Nat.le_refl _)
      clear hup3 hown hown2 hnew Hd hbl hbn hb hb3
      go_wp2
      go_roundw
      case rel => exact ⟨k + 1, A3, c3, by omega, by go_num, rfl, hown3, hb4⟩
      case measure => simp [intOf]; omega
    · obtain rfl : k = 7 := by omega
      have hrd := rdF_own (l := dopF) hown dopF_b
      go_wp2
      go_ret
      exact ⟨_, _, _, rfl, by omega, hrd, hb⟩
set_option maxRecDepth 10000 in
set_option maxHeartbeats 1000000 in
theorem qdopShape_any (w : World) : Calls Tryz.prog 45 #[] w (RetF dopF w) := by
  obtain ⟨i0, hi⟩ := info_parts field_info
  have Hi := Lib.hid hi
  clear hi
  go_enter Tryz.func45, Tryz.ntmps45
  go_wp2_with fail
  have hown := own_litF w w.heap.size 130 (dopK 0) #[.int .i64 4, .bool false, .int .i64 0, .int .i64 604799999] rfl (Nat.le_refl _) (by simp [dopK, maxLen])
  have hb2 := (Below.refl w.heap.size w).alloc (Nat.le_refl _) (.cells #[.int .i64 4, .bool false, .int .i64 0, .int .i64 604799999] 130)
  rw [show (dopK 0).length = 1 from rfl] at hown
  go_loopw [1, 2] (fun s i wr => ∃ (k : Nat) (A : Option Addr) (c : Nat), k ≤ 7 ∧ i = .int .i64 k ∧ s = .slice A (k + 1) c ∧ wr.ownsRow w.heap.size 130 4 (.slice A (k + 1) c) (k + 1) (fcs (dopK k)) ∧ Below w.heap.size w wr) (fun _ i _ => 7 - (intOf i).toNat)
  case atStart => exact ⟨0, _, 1, by omega, rfl, rfl, hown, hb2⟩
  case round =>
    clear hown hb2
    obtain ⟨k, A, c, hk, rfl, rfl, hown, hb⟩ := hrel
    by_cases hlt : k < 7
    · have hnew := (rd_litF wr 130 [⟨2, false, 0, 65535⟩] #[.int .i64 2, .bool false, .int .i64 0, .int .i64 65535] rfl (by simp [maxLen]))
      have hown2 := own_up hown ((Below.refl wr.heap.size wr).alloc (Nat.le_refl _) (.cells #[.int .i64 2, .bool false, .int .i64 0, .int .i64 65535] 130)) (Nat.le_refl _)
      have hbl := hb.alloc hb.size (.cells #[.int .i64 2, .bool false, .int .i64 0, .int .i64 65535] 130)
      have Hd := Lib.hid (dopK_succ k)
      go_wp2_with (at_builtin; refine stop_ ?_)
      refine go_ (wpList_app (base := w.heap.size) Tryz.underlying94 Hi.out rfl (by omega) hown2 rfl hnew rfl (fcs_one _) (k := k + 1 + 1) (ys := fcs (dopK (k + 1))) rfl (by rw [Hd.out, fcs_app]) (by unfold maxLen; omega) (by omega) hbl.size ?_)
      intro A3 c3 w4 hown3 hup3
      have hb4 := hup3 hbl hbl.size (Nat.le_refl _)
      clear hup3 hown hown2 hnew Hd hbl hb
      go_wp2
      go_roundw
      case rel => exact ⟨k + 1, A3, c3, by omega, by go_num, rfl, hown3, hb4⟩
      case measure => simp [intOf]; omega
    · obtain rfl : k = 7 := by omega
      have hrd := rdF_own (l := dopF) hown dopF_b
      go_wp2
      go_ret
      exact ⟨_, _, _, rfl, by omega, hrd, hb⟩

end Go.Proofs.YtmkidihcdljkiaaGreat

/-
  ack's fields, and the document's.
-/
set_option linter.unusedSimpArgs false
set_option linter.unusedVariables false
namespace Go.Proofs.YtmkidihcdljkiaaGreat
open Go.RowKit NumLaw

def ackF : List FieldV := [⟨1, false, 0, 255⟩, ⟨1, false, 0, 255⟩]
theorem ackF_b : FB ackF := by intro f hf; simp [ackF] at hf; subst hf; simp
theorem any1_ : anyF 1 false = ⟨1, false, 0, 255⟩ := by simp [anyF, fitsF]
set_option maxRecDepth 10000 in
set_option maxHeartbeats 1000000 in
theorem ackfields_any (w : World) : Calls Tryz.prog 164 #[] w (RetF ackF w) := by
  have ha := fun w => shAny_any 1 false w
  rw [any1_] at ha
  have Ha := Lib.hid ha
  clear ha
  go_enter Tryz.func164, Tryz.ntmps164
  go_wp2_with fail
  go_fit (Ha.out _)
  rintro e w1 ⟨rfl, hb1⟩
  unfold fv
  go_wp2_with fail
  go_fit (Ha.out _)
  rintro e w2 ⟨rfl, hb2⟩
  unfold fv
  have hb := bnx hb1 hb2
  go_wp2
  go_ret
  exact ⟨_, 2, 2, rfl, by omega, by rw [World.size_alloc]; exact rdF_lit w2 130 ackF _ rfl (by simp [ackF, maxLen]) ackF_b, hb.alloc hb.size _⟩
set_option maxRecDepth 10000 in
set_option maxHeartbeats 1000000 in
theorem qackShape_any (w : World) : Calls Tryz.prog 46 #[] w (RetF ackF w) := by
  go_enter Tryz.func46, Tryz.ntmps46
  go_wp2
  go_ret
  exact ⟨_, 2, 2, rfl, by omega, by rw [World.size_alloc]; exact rdF_lit w 130 ackF _ rfl (by simp [ackF, maxLen]) ackF_b, (Below.refl _ _).alloc (Nat.le_refl _) _⟩

end Go.Proofs.YtmkidihcdljkiaaGreat
