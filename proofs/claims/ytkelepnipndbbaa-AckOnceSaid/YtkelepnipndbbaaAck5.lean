/-
  ack's book: what it is in memory; New, there, Counts, Open walked.
-/
import Derived.Test.YtkelepnipndbbaaAck4
import Derived.Test.YtkelepnipndbbaaOctWrite
set_option linter.unusedSimpArgs false
set_option linter.unusedVariables false
namespace Go.Proofs.Ytkelepnipndbbaa
open Go.RowKit NumLaw
attribute [local go_sem] Addr.add_mid

/-- What a book's calls may turn. -/
def Ft (g : Nat) (A : Option Addr) (k : Nat) : Prop := k = g ∨ ∃ a, A = some a ∧ a.block = k
/-- A book that New made. -/
structure Bk (w : World) (g : Nat) (A : Option Addr) (n c : Nat) (l : List (Int × Int)) (y no od : Nat) : Prop where
  hp : w.heap[g]? = some (.cells #[.bool true, .slice A n c, .int .i64 y, .int .i64 no, .int .i64 od] 45)
  rd : RdA w w.heap.size A n c l
  own : w.ownsRow (g + 1) 30 3 (.slice A n c) n (acs l) ∨ n = c
  ne : ∀ a, A = some a → g < a.block ∧ a.block < w.heap.size
theorem Bk.keep {w w' : World} {g : Nat} {A : Option Addr} {n c : Nat} {l : List (Int × Int)} {y no od : Nat} {U : Nat → Prop} (h : Bk w g A n c l y no od) (ha : Aw U w w') (hu : ∀ k, Ft g A k → ¬ U k) : Bk w' g A n c l y no od := by
  have hblk : ∀ a, A = some a → w'.heap[a.block]? = w.heap[a.block]? := fun a e => ha.block _ (h.ne a e).2 (hu _ (.inr ⟨a, e, rfl⟩))
  refine ⟨(ha.block g (blk_lt h.hp) (hu g (.inl rfl))).trans h.hp, h.rd.keep fun g' off e hlt => ⟨Nat.lt_of_lt_of_le hlt ha.size, fun j => ?_⟩, ?_, fun a e => ⟨(h.ne a e).1, Nat.lt_of_lt_of_le (h.ne a e).2 ha.size⟩⟩
  · have := hblk _ e
    rw [World.cell?, World.cell?, show (⟨g', j, none⟩ : Addr).block = g' from rfl, this]
  · rcases h.own with h1 | h1
    · left
      refine ⟨h1.1, ?_⟩
      rcases h1.2 with h2 | ⟨k, cap, cur, hv, hk, hh, r⟩
      · exact .inl h2
      · injection hv with e1 e2 e3
        exact .inr ⟨k, cap, cur, by rw [e1, e3], hk, (hblk _ e1).trans hh, r⟩
    · exact .inr h1
theorem Bk.up {w w' : World} {g : Nat} {A : Option Addr} {n c : Nat} {l : List (Int × Int)} {y no od : Nat} (h : Bk w g A n c l y no od) (hb : Below w.heap.size w w') : Bk w' g A n c l y no od :=
  h.keep (U := fun _ => False) ⟨hb.os, hb.tape, hb.output, hb.size, fun k hk _ => hb.block k hk⟩ (fun _ _ h => h)
theorem there_nil (w : World) : Calls Try.prog 86 #[.pointer none] w fun e w' => e = .returned (.bool false) ∧ w = w' := by
  go_enter Try.func86, Try.ntmps86
  go_wp2
  go_ret
  exact ⟨rfl, rfl⟩
theorem there_any (g : Nat) (m : Bool) (w : World) (h : w.cell? ⟨g, 0, none⟩ = some (.bool m)) : Calls Try.prog 86 #[.pointer (some ⟨g, 0, none⟩)] w fun e w' => e = .returned (.bool m) ∧ w = w' := by
  go_enter Try.func86, Try.ntmps86
  go_wp2
  go_ret
  exact ⟨rfl, rfl⟩
theorem ackNew_any (w : World) : Calls Try.prog 21 #[] w fun e w' => e = .returned (.pointer (some ⟨w.heap.size, 0, none⟩)) ∧ Bk w' w.heap.size none 0 0 [] 0 0 0 ∧ Below w.heap.size w w' := by
  go_enter Try.func21, Try.ntmps21
  go_wp2
  go_ret
  exact ⟨rfl, ⟨heap_alloc_new w _, ⟨rfl, Nat.le_refl _, Nat.zero_le _, fun h => absurd h (Nat.lt_irrefl _)⟩, .inl (World.ownsRow_nil _ _ _ _), fun a e => by cases e⟩, (Below.refl _ _).alloc (Nat.le_refl _) _⟩
theorem counts_nil (w : World) : Calls Try.prog 26 #[.pointer none] w fun e w' => e = .returned (.tuple #[.int .i64 0, .int .i64 0, .int .i64 0]) ∧ w = w' := by
  go_enter Try.func26, Try.ntmps26
  go_wp2_with fail
  go_fit (there_nil _)
  rintro e w1 ⟨rfl, rfl⟩
  go_wp2
  go_ret3
  exact ⟨rfl, rfl⟩
theorem counts_un (g : Nat) (w : World) (h : w.cell? ⟨g, 0, none⟩ = some (.bool false)) : Calls Try.prog 26 #[.pointer (some ⟨g, 0, none⟩)] w fun e w' => e = .returned (.tuple #[.int .i64 0, .int .i64 0, .int .i64 0]) ∧ w = w' := by
  go_enter Try.func26, Try.ntmps26
  go_wp2_with fail
  go_fit (there_any g false _ h)
  rintro e w1 ⟨rfl, rfl⟩
  go_wp2
  go_ret3
  exact ⟨rfl, rfl⟩
set_option maxHeartbeats 400000 in
theorem counts_any (g : Nat) (A : Option Addr) (n c : Nat) (l : List (Int × Int)) (y no od : Nat) (w : World) (h : Bk w g A n c l y no od) :
    Calls Try.prog 26 #[.pointer (some ⟨g, 0, none⟩)] w fun e w' => e = .returned (.tuple #[.int .i64 y, .int .i64 no, .int .i64 od]) ∧ Below w.heap.size w w' := by
  have hp := h.hp
  have c0 : w.cell? ⟨g, 0, none⟩ = some (.bool true) := blk_cell hp rfl
  have c2 : w.cell? ⟨g, 2, none⟩ = some (.int .i64 y) := blk_cell hp rfl
  have c3 : w.cell? ⟨g, 3, none⟩ = some (.int .i64 no) := blk_cell hp rfl
  have c4 : w.cell? ⟨g, 4, none⟩ = some (.int .i64 od) := blk_cell hp rfl
  have hlt := blk_lt hp
  clear h hp
  go_enter Try.func26, Try.ntmps26
  go_wp2_with fail
  go_fit (there_any g true _ c0)
  rintro e w1 ⟨rfl, rfl⟩
  go_wp2_with fail
  refine Ord.region_ (fun w' => Below w.heap.size w w') false [] (by kernel_rfl) (by kernel_rfl) ((Below.refl _ _).drew) ?_
  have h2 : Below w.heap.size w w.drew := (Below.refl _ _).drew
  generalize w.drew = w2 at *
  ((with_reducible refine Ord.e_p (v := ?_) ?_ ?_ ?_ ?_); rotate_left; (· exact rfl); (· kernel_rfl); (· intro w2; go_simp; try with_reducible rfl))
  ((with_reducible refine Ord.e_p (v := ?_) ?_ ?_ ?_ ?_); rotate_left; (· exact rfl); (· kernel_rfl); (· intro w2; go_simp; try with_reducible rfl))
  ((with_reducible refine Ord.e_p (v := ?_) ?_ ?_ ?_ ?_); rotate_left; (· exact rfl); (· kernel_rfl); (· intro w2; go_simp; try with_reducible rfl))
  (try simp only [Act.put, List.setIfInBounds_toArray, List.set_cons_zero, List.set_cons_succ])
  refine Ord.e_loadS Try.underlying3 rfl (fun w' hS => ((show Below _ w w' from hS).cell (p := ⟨g, 2, none⟩) hlt).trans c2) h2 rfl (by kernel_rfl) ?_
  ((with_reducible refine Ord.e_p (v := ?_) ?_ ?_ ?_ ?_); rotate_left; (· exact rfl); (· kernel_rfl); (· intro w2; go_simp; try with_reducible rfl))
  ((with_reducible refine Ord.e_p (v := ?_) ?_ ?_ ?_ ?_); rotate_left; (· exact rfl); (· kernel_rfl); (· intro w2; go_simp; try with_reducible rfl))
  ((with_reducible refine Ord.e_p (v := ?_) ?_ ?_ ?_ ?_); rotate_left; (· exact rfl); (· kernel_rfl); (· intro w2; go_simp; try with_reducible rfl))
  (try simp only [Act.put, List.setIfInBounds_toArray, List.set_cons_zero, List.set_cons_succ])
  refine Ord.e_loadS Try.underlying3 rfl (fun w' hS => ((show Below _ w w' from hS).cell (p := ⟨g, 3, none⟩) hlt).trans c3) h2 rfl (by kernel_rfl) ?_
  ((with_reducible refine Ord.e_p (v := ?_) ?_ ?_ ?_ ?_); rotate_left; (· exact rfl); (· kernel_rfl); (· intro w2; go_simp; try with_reducible rfl))
  ((with_reducible refine Ord.e_p (v := ?_) ?_ ?_ ?_ ?_); rotate_left; (· exact rfl); (· kernel_rfl); (· intro w2; go_simp; try with_reducible rfl))
  ((with_reducible refine Ord.e_p (v := ?_) ?_ ?_ ?_ ?_); rotate_left; (· exact rfl); (· kernel_rfl); (· intro w2; go_simp; try with_reducible rfl))
  (try simp only [Act.put, List.setIfInBounds_toArray, List.set_cons_zero, List.set_cons_succ])
  refine Ord.e_loadS Try.underlying3 rfl (fun w' hS => ((show Below _ w w' from hS).cell (p := ⟨g, 4, none⟩) hlt).trans c4) h2 rfl (by kernel_rfl) ?_
  ((with_reducible refine Ord.e_p (v := ?_) ?_ ?_ ?_ ?_); rotate_left; (· exact rfl); (· kernel_rfl); (· intro w2; go_simp; try with_reducible rfl))
  ((with_reducible refine Ord.e_p (v := ?_) ?_ ?_ ?_ ?_); rotate_left; (· exact rfl); (· kernel_rfl); (· intro w2; go_simp; try with_reducible rfl))
  ((with_reducible refine Ord.e_p (v := ?_) ?_ ?_ ?_ ?_); rotate_left; (· exact rfl); (· kernel_rfl); (· intro w2; go_simp; try with_reducible rfl))
  (try simp only [Act.put, List.setIfInBounds_toArray, List.set_cons_zero, List.set_cons_succ])
  refine Ord.e_nil ?_
  go_wp2
  go_ret3
  exact ⟨rfl, h2⟩
theorem open_nil (w : World) : Calls Try.prog 28 #[.pointer none] w fun e w' => e = .returned (.slice none 0 0) ∧ w = w' := by
  go_enter Try.func28, Try.ntmps28
  go_wp2_with fail
  go_fit (there_nil _)
  rintro e w1 ⟨rfl, rfl⟩
  go_wp2
  go_ret
  exact ⟨rfl, rfl⟩
theorem open_un (g : Nat) (w : World) (h : w.cell? ⟨g, 0, none⟩ = some (.bool false)) : Calls Try.prog 28 #[.pointer (some ⟨g, 0, none⟩)] w fun e w' => e = .returned (.slice none 0 0) ∧ w = w' := by
  go_enter Try.func28, Try.ntmps28
  go_wp2_with fail
  go_fit (there_any g false _ h)
  rintro e w1 ⟨rfl, rfl⟩
  go_wp2
  go_ret
  exact ⟨rfl, rfl⟩
theorem openA_any (g : Nat) (A : Option Addr) (n c : Nat) (l : List (Int × Int)) (y no od : Nat) (w : World) (h : Bk w g A n c l y no od) (hn : n ≤ 1000) :
    Calls Try.prog 28 #[.pointer (some ⟨g, 0, none⟩)] w (RetA w l) := by
  have hp := h.hp
  have hrd := h.rd
  have c0 : w.cell? ⟨g, 0, none⟩ = some (.bool true) := blk_cell hp rfl
  have c1 : w.cell? ⟨g, 1, none⟩ = some (.slice A n c) := blk_cell hp rfl
  clear h hp
  go_enter Try.func28, Try.ntmps28
  go_wp2_with fail
  go_fit (there_any g true _ c0)
  rintro e w1 ⟨rfl, rfl⟩
  go_wp2_with fail
  go_fit (cloneA_any A n c w.heap.size l w hrd (Nat.le_refl _) hn)
  rintro e w2 ⟨A2, n2, c2, rfl, hown, hb⟩
  go_wp2
  go_ret
  exact ⟨A2, n2, c2, rfl, hown, hb⟩

end Go.Proofs.Ytkelepnipndbbaa
