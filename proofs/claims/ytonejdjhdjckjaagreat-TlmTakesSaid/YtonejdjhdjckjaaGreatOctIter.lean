/-
  octet.bytes: the iterator that tells a number's bytes; the writer's put.
-/
import Derived.Test.YtonejdjhdjckjaaGreatOctRow
import Derived.Test.YtonejdjhdjckjaaGreatOrder
import Derived.Test.YtonejdjhdjckjaaGreatRangeFn
import Derived.RangeFuncNested
import Derived.RangeFuncBound
import Derived.Shelf.Abstract
import Derived.Shelf.RegionOpen
import Derived.OwnWalkIn
import Derived.TacticsInMore
import Derived.LoopNIn
import Derived.LoopIn
set_option linter.unusedSimpArgs false
set_option linter.unusedVariables false
namespace Go.Proofs.YtonejdjhdjckjaaGreat
open Go.RowKit Go.Shelf NumLaw
attribute [local go_sem] Oper.semAt_some

/-- In a round, in the order of the text. -/
theorem Ord.regionIn_ {P : Program} {n : Nat} {id l0 : Nat} {l : List Oper} {a : Act} {w : World} {Q : Exit → Act → World → Prop} (S : World → Prop) (G : Bool) (F : List Tmp) (hm : P.follows .mixedOrders = true) (hc : Ord.chk P l.toArray G F (List.range l.length) = true) (hn : noDefer l.toArray = true) (hQ : ¬ LetsOut Q) (hS : S w.drew)
    (h : Ord.wpE P l.toArray ⟨S, G, F⟩ (Q .normal) l a w.drew) : (Code.region id l.toArray true).wpIn (Fence.wide.inRound l0) n P Q a w :=
  wpIn_region_any hm (any_round hn hQ _ _ _ _ (Ord.any_at _ S G F hc (Ord.lst_all l) hS h))

set_option maxHeartbeats 400000 in
theorem bytes_any (n : Int) (u : Nat) (w : World) :
    Calls Tryz.prog 111 #[.int .i64 n, .int .u64 u] w fun x w' => x = .returned (.func (.func 113) #[] #[.pointer (some ⟨w.heap.size, 0, none⟩), .pointer (some ⟨w.heap.size + 1, 0, none⟩)]) ∧
      w' = (w.alloc (.cells #[.int .i64 n] 3)).alloc (.cells #[.int .u64 u] 112) := by
  go_enter Tryz.func111, Tryz.ntmps111
  go_wp2
  go_ret
  exact ⟨rfl, rfl⟩

theorem bytesN_take {n u k : Nat} (h : k < n) : (bytesN n u).take (k + 1) = (bytesN n u).take k ++ [UInt8.ofNat (u / 256 ^ k % 256)] := by
  have : (bytesN n u)[k]? = some (UInt8.ofNat (u / 256 ^ k % 256)) := by
    induction n generalizing u k with
    | zero => omega
    | succ n ih =>
      cases k with
      | zero => simp [bytesN]
      | succ k =>
        simp only [bytesN, List.getElem?_cons_succ]
        rw [ih (by omega), Nat.div_div_eq_div_mul, Nat.pow_succ, Nat.mul_comm 256]
  rw [take_succ this]

set_option maxHeartbeats 400000 in
theorem bytes_seq (n u g1 g2 : Nat) (m : Nat) (hn : n ≤ 8) (hu : u < 18446744073709551616) (hne : g1 ≠ g2) :
    SeqW Tryz.prog m 113 #[.pointer (some ⟨g1, 0, none⟩), .pointer (some ⟨g2, 0, none⟩)] (fun x : UInt8 => #[.int .u8 (x.toNat : Int)]) (fun k => k = g2) (fun k => k = g2) (bytesN n u)
      (fun W => W.heap[g1]? = some (.cells #[.int .i64 n] 3) ∧ W.heap[g2]? = some (.cells #[.int .u64 u] 112)) := by
  rintro l J Jx W ⟨h1, h2⟩ hJ hJx hY h0
  have hro : Fence.wide.round = none := rfl
  have hc1 : W.cell? ⟨g1, 0, none⟩ = some (.int .i64 n) := blk_cell h1 rfl
  refine callsIn_of_wp Tryz.func113 rfl trivial ?_ hro
  simp only [Tryz.ntmps113, List.size_toArray, List.length_cons, List.length_nil, Nat.reduceAdd, Nat.reduceSub, Array.replicate_succ, Array.replicate_zero, List.push_toArray, List.append_toArray, List.nil_append, List.cons_append]
  gi_wp2
  gi_loopw [5] (fun i wr => ∃ k : Nat, k ≤ n ∧ i = .int .i64 k ∧ J ((bytesN n u).take k) wr ∧ wr.heap[g2]? = some (.cells #[.int .u64 ((u / 256 ^ k : Nat) : Int)] 112)) (fun i wr => n - (intOf i).toNat)
  case atStart => exact ⟨0, by omega, rfl, by simpa using h0, by simpa using h2⟩
  case round =>
    obtain ⟨k, hk, rfl, hj, hb⟩ := hrel
    by_cases hlt : k < n
    · have ht := bytesN_take (u := u) hlt
      have hp : (bytesN n u).take k ++ [UInt8.ofNat (u / 256 ^ k % 256)] <+: bytesN n u := by rw [← ht]; exact List.take_prefix _ _
      have hv : u / 256 ^ (k + 1) = u / 256 ^ k / 256 := by rw [Nat.pow_succ, ← Nat.div_div_eq_div_mul]
      have hvl : u / 256 ^ k < 18446744073709551616 := Nat.lt_of_le_of_lt (Nat.div_le_self _ _) hu
      obtain ⟨fn, tmps, assign, body, hy, hR⟩ := hY _ _ _ hj hp
      have hb1 := blk_cell (i := 0) hb rfl
      have hb2 := blk_free (i := 0) hb
      rw [← ht] at hR
      have Ht := Lib.hid (And.intro ht hv)
      clear ht hp hv
      generalize u / 256 ^ k = v at *
      have e1 : (UInt8.ofNat (v % 256)).toNat = v % 256 := by rw [UInt8.toNat_ofNat']; omega
      rw [e1, show ((v % 256 : Nat) : Int) = (v : Int) % 256 by omega] at hy
      gi_wp2
      refine ⟨fun hd => by simp [Fence.wide] at hd, hR.mono ?_⟩
      rintro e W3 (⟨rfl, hJ3, hk3⟩ | ⟨rfl, hJx3⟩)
      · have hb3 := hk3.2 _ _ rfl hb
        have hb31 := blk_cell (i := 0) hb3 rfl
        have hb32 := blk_free (i := 0) hb3
        gi_wp2
        go_roundw
        case rel =>
          refine ⟨k + 1, by omega, by go_num, hJ _ _ _ hJ3 ((Aw.refl _ _).set _ rfl), ?_⟩
          have := blk_set (i := 0) hb3 (.int .u64 ((v : Int) / 256))
          rw [Ht.out.2]
          simpa using this
        case measure => simp [intOf]; omega
      · gi_wp2
        refine bodyPost_ret (results_none rfl _ _ _) rfl ?_
        exact ⟨⟨_, rfl⟩, .inr ⟨_, List.take_prefix _ _, hJx3⟩⟩
    · obtain rfl : k = n := by omega
      have ht : (bytesN k u).take k = bytesN k u := List.take_of_length_le (by rw [bytesN_len]; exact Nat.le_refl _)
      rw [ht] at hj
      gi_wp2
      go_end0
      exact ⟨⟨_, rfl⟩, .inl hj⟩

end Go.Proofs.YtonejdjhdjckjaaGreat
