/-
  Equality of arrays of numbers, and of records.
-/
import Derived.ChangeKeysEq
import Derived.Laws.StructEq
import Derived.Test.YtplgcfjcdjlnbaaRecOpen
set_option linter.unusedSimpArgs false
set_option linter.unusedVariables false
namespace Go.Proofs.Ytplgcfjcdjlnbaa
open Go.RowKit

theorem all_range_ints : ∀ (xs ys : List Int), xs.length = ys.length → ((List.range xs.length).all fun i => xs.getD i 0 == ys.getD i 0) = decide (xs = ys)
  | [], [], _ => rfl
  | x :: xs, y :: ys, h => by
    have ih := all_range_ints xs ys (by simpa using h)
    rw [List.length_cons, List.range_succ_eq_map, List.all_cons, List.all_map]
    simp only [List.getD_cons_zero, Function.comp_def, List.getD_cons_succ, ih]
    by_cases h1 : x = y <;> by_cases h2 : xs = ys <;> simp [h1, h2]
  | [], _ :: _, h => by simp at h
  | _ :: _, [], h => by simp at h
theorem eqItems_ints {P : Program} {e : TypeId} {k : IntKind} (he : P.underlying e = some (.int k)) (d : Nat) (xs ys : List Int) (w : World) :
    ∀ is : List Nat, (∀ i ∈ is, i < xs.length ∧ i < ys.length) → (Op.eqItems (d + 1) e 1 (xs.map (Value.int k)).toArray (ys.map (Value.int k)).toArray is).run P w = .ok (is.all fun i => xs.getD i 0 == ys.getD i 0) w
  | [], _ => by simp [Op.eqItems]
  | i :: is, h => by
    have ih := eqItems_ints he d xs ys w is (fun j hj => h j (List.mem_cons_of_mem _ hj))
    obtain ⟨h1, h2⟩ := h i List.mem_cons_self
    have px : (part e (xs.map (Value.int k)).toArray (i * 1)).run P w = .ok (.int k (xs.getD i 0)) w := by
      simp [part, isAgg, run_underlying he, List.getD, List.getElem?_eq_getElem h1]
    have py : (part e (ys.map (Value.int k)).toArray (i * 1)).run P w = .ok (.int k (ys.getD i 0)) w := by
      simp [part, isAgg, run_underlying he, List.getD, List.getElem?_eq_getElem h2]
    simp only [Op.eqItems, Sem.run_bind, px, py, run_equalIn_int w d e k k _ _ he, Result.andThen_ok, List.all_cons]
    cases hb : (xs.getD i 0 == ys.getD i 0)
    · simp
    · simp [ih]
theorem run_eqI_ints {P : Program} {t e : TypeId} {n : Nat} {k : IntKind} {i : TypeInfo} (ht : P.underlying t = some (.array n e)) (hi : P.info? e = some i) (hc : P.cellsOf e = 1) (he : P.underlying e = some (.int k)) (d : Nat) (xs ys : List Int) (hx : xs.length = n) (hy : ys.length = n) (w : World) :
    (Op.equalIn (d + 2) t (.agg (xs.map (Value.int k)).toArray) (.agg (ys.map (Value.int k)).toArray)).run P w = .ok (decide (xs = ys)) w := by
  rw [run_equalIn_array w (d + 1) _ _ ht hi, hc, eqItems_ints he d xs ys w _ (fun i hi => by have := List.mem_range.1 hi; omega), ← all_range_ints xs ys (by omega), hx]
theorem i32_info : (Try.prog.info? 21).map (fun i => (i.zero, i.size, i.bytes)) = some (some (.int .i32 0), 1, 4) := by kernel_rfl
theorem v12_info : (Try.prog.info? 23).map (fun i => (i.zero, i.size, i.bytes)) = some (some (.agg #[.int .i32 0, .int .i32 0, .int .i32 0, .int .i32 0, .int .i32 0, .int .i32 0, .int .i32 0, .int .i32 0, .int .i32 0, .int .i32 0, .int .i32 0, .int .i32 0]), 12, 48) := by kernel_rfl
theorem v12_eql (xs ys : List Int) (hx : xs.length = 12) (hy : ys.length = 12) (w : World) : (binOp .eql 23 (.agg (xs.map (Value.int .i32)).toArray) (.agg (ys.map (Value.int .i32)).toArray)).run Try.prog w = .ok (.bool (decide (xs = ys))) w := by
  obtain ⟨i, hi⟩ := info_parts i32_info
  rw [run_eql_struct, run_eqI_ints Try.underlying23 hi.1 (by kernel_rfl) Try.underlying21 9998 xs ys hx hy]
  rfl
theorem rec_held : Try.prog.stoodInHeld 25 = false := by kernel_rfl
theorem rec_eqI (t t' : Nat) (V V' : List Int) (hx : V.length = 12) (hy : V'.length = 12) (w : World) : (Op.equalIn 10000 25 (.agg (rcC t V).toArray) (.agg (rcC t' V').toArray)).run Try.prog w = .ok (decide (t = t' ∧ V = V')) w := by
  obtain ⟨i, hi⟩ := info_parts i32_info
  have p1 : ∀ (t : Nat) (V : List Int), (part 22 (rcC t V).toArray 0).run Try.prog w = .ok (.int .u32 (t : Int)) w := by
    intro t V
    simp [part, isAgg, run_underlying Try.underlying22, rcC]
  have p2 : ∀ (t : Nat) (V : List Int), V.length = 12 → (part 23 (rcC t V).toArray 1).run Try.prog w = .ok (.agg (V.map (Value.int .i32)).toArray) w := by
    intro t V hV
    obtain ⟨j, hj⟩ := info_parts v12_info
    simp [part, isAgg, run_underlying Try.underlying23, rcC, sizeOf, typeInfo, hj.1, hj.2.2.1]
    exact List.take_of_length_le (by simp [hV])
  have q1 : (Op.equalIn 9999 22 (.int .u32 (t : Int)) (.int .u32 (t' : Int))).run Try.prog w = .ok ((t : Int) == (t' : Int)) w := run_equalIn_int w 9998 _ .u32 .u32 _ _ Try.underlying22
  have q2 : (Op.equalIn 9999 23 (.agg (V.map (Value.int .i32)).toArray) (.agg (V'.map (Value.int .i32)).toArray)).run Try.prog w = .ok (decide (V = V')) w := run_eqI_ints Try.underlying23 hi.1 (by kernel_rfl) Try.underlying21 9997 V V' hx hy w
  rw [run_equalIn_agg w 9999 _ _ _ (by simp only [Program.fieldsOf, Try.underlying25]) rec_held]
  simp only [Program.fieldsOf, Try.underlying25, Op.eqFields]
  rw [if_pos (by decide)]
  simp only [Sem.run_bind, p1, q1, Result.andThen_ok]
  by_cases h1 : t = t'
  · subst h1
    simp only [beq_self_eq_true, Bool.not_true, Bool.false_eq_true, if_false]
    rw [if_pos (by decide)]
    simp only [Sem.run_bind, p2 _ _ hx, p2 _ _ hy, q2, Result.andThen_ok]
    by_cases h2 : V = V' <;> simp [h2]
  · have e : ((t : Int) == (t' : Int)) = false := by simp; omega
    simp [e, h1]
theorem rec_eql (t t' : Nat) (V V' : List Int) (hx : V.length = 12) (hy : V'.length = 12) (w : World) : (binOp .eql 25 (.agg (rcC t V).toArray) (.agg (rcC t' V').toArray)).run Try.prog w = .ok (.bool (decide (t = t' ∧ V = V'))) w := by
  rw [run_eql_struct, rec_eqI t t' V V' hx hy]
  rfl
theorem rec_neq (t t' : Nat) (V V' : List Int) (hx : V.length = 12) (hy : V'.length = 12) (w : World) : (binOp .neq 25 (.agg (rcC t V).toArray) (.agg (rcC t' V').toArray)).run Try.prog w = .ok (.bool (!decide (t = t' ∧ V = V'))) w := by
  rw [run_neq_struct, rec_eqI t t' V V' hx hy]
  rfl

end Go.Proofs.Ytplgcfjcdjlnbaa
