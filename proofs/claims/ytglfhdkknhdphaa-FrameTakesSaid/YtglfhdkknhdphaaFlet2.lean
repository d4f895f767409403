/-
  fletch's Seal and Open, and the document's Seal, walked.
-/
import Derived.Test.YtglfhdkknhdphaaFlet
import Derived.Test.YtglfhdkknhdphaaOctRef
import Derived.Laws.CopyOwn
import Derived.Deep.OwnRows
import Derived.Laws.StructEq
set_option linter.unusedSimpArgs false
set_option linter.unusedVariables false
namespace Go.Proofs.Ytglfhdkknhdphaa
open Go.RowKit NumLaw

theorem stop_copy {P : Program} {w : World} {ops : Array Oper} {rest : List Oper} {a : Act} {Q : Exit → Act → World → Prop} {d : Option Tmp} {ar : Array Operand} {ts : Array TypeId} {ty : TypeId} {pos : String} {af : Array Edge} {g : Option (Nat × Bool)}
    (h : Stop (wpList P ops Q (⟨d, .call { callee := .builtin .copy, args := ar, argTypes := ts }, ty, pos, af, g⟩ :: rest) a w)) : wpList P ops Q (⟨d, .call { callee := .builtin .copy, args := ar, argTypes := ts }, ty, pos, af, g⟩ :: rest) a w := h
theorem made_rep (z : Value) (n : Nat) : madeCells #[z] n = (List.replicate n z).toArray := by
  apply Array.ext
  · simp [madeCells]
  · intro i h1 h2
    simp [madeCells, Nat.mod_one]
theorem own_blkAll {w : World} {base g : Nat} {e : TypeId} {cs : List Value} (h : w.heap[g]? = some (.cells cs.toArray e)) (hB : base ≤ g) {n : Nat} (hn : cs.length = n) (hm : n ≤ maxLen) : w.ownsRow base e 1 (.slice (some ⟨g, 0, none⟩) n n) n cs :=
  ⟨by omega, .inr ⟨g, n, cs.toArray, rfl, hB, h, Nat.le_refl _, hm, by simp [hn], by simp [← hn]⟩⟩
theorem u8_nat {n : Nat} (h : n < 256) : ((UInt8.ofNat n).toNat : Int) = (n : Int) := by
  rw [UInt8.toNat_ofNat']; congr 1; omega
theorem bv_flB (l : List UInt8) : bv (flB l) = [.int .u8 ((flN (0, 0) l).1 : Int), .int .u8 ((flN (0, 0) l).2 : Int)] := by
  have h := flN_lt (0, 0) l ⟨by decide, by decide⟩
  simp only [flB, bv, List.map_cons, List.map_nil, u8_nat h.1, u8_nat h.2]

set_option maxRecDepth 10000 in
set_option maxHeartbeats 1000000 in
theorem flSeal_any (A : Option Addr) (n c B : Nat) (l : List UInt8) (w : World) (h : Rd w B 1 A n c (bv l)) (hB : B ≤ w.heap.size) (hn : n ≤ 1000000000) :
    Calls Try.prog 102 #[.slice A n c] w (RetB w (sealF l)) := by
  have hll := h.blen
  obtain ⟨i0, hi⟩ := info_parts u8_info
  have hmk := run_make_row' (P := Try.prog) 22 5 (.int .u8 0) 1 Try.underlying22 u8_info rfl .i64 .i64 (n + 2) (by omega) (by omega)
  have ec : ((n + 2 : Nat) : Int) = (n : Int) + 2 := by omega
  rw [ec, made_rep] at hmk
  clear ec
  obtain ⟨a3, ea⟩ : ∃ a3, a3 = (flN (0, 0) l).1 := ⟨_, rfl⟩
  obtain ⟨b3, eb⟩ : ∃ b3, b3 = (flN (0, 0) l).2 := ⟨_, rfl⟩
  have hof := fun w' h' hB' => flOf_any A n c B l w' h' hB' (by omega)
  have es := Lib.hid (bv_flB l)
  rw [← ea, ← eb] at hof es
  have Ho := Lib.hid hof
  clear ea eb hof
  obtain ⟨z, hz⟩ : ∃ z, z = List.replicate (n + 2) (Value.int .u8 0) := ⟨_, rfl⟩
  rw [← hz] at hmk
  have hzl : z.length = n + 2 := by rw [hz]; simp
  have Hz := Lib.hid hz
  have Hl := Lib.hid hll
  clear hz hll
  go_enter Try.func102, Try.ntmps102
  go_wp2_with (with_reducible refine stop_copy ?_)
  have hg1 : (w.alloc (.cells z.toArray 5)).heap[w.heap.size]? = some (.cells z.toArray 5) := heap_alloc_new w _
  have hb1 : Below w.heap.size w (w.alloc (.cells z.toArray 5)) := (Below.refl _ _).alloc (Nat.le_refl _) _
  have hr1 := h.up (hb1.mono hB)
  refine go_ (wpList_copy_splice rfl (.tmp 9) (.tmp 10) 22 22 rfl 5 Try.underlying22 (by rw [hi.1]; exact congrArg some hi.2.2.1) (some ⟨w.heap.size, 0, none⟩) A _ _ n c rfl rfl w.heap.size 0 z 5 hg1 (bv l) (by rw [bv_len, Hl.out]; exact (Nat.min_eq_left (by omega)).symm) (fun hp => ⟨rfl, ?_⟩) (by rw [bv_len, Hl.out]; omega) (bv_one l) w.heap.size w hb1 (Nat.le_refl _) ?_)
  · obtain ⟨ad, e, _, hc⟩ := hr1.at_ (by rw [bv_len, Hl.out] at hp; exact hp)
    exact ⟨ad, e, hc⟩
  intro w2 hg2 hb2
  have hr2 := h.up (hb2.mono hB)
  have hcs : splice z 0 (bv l) = bv l ++ [.int .u8 0, .int .u8 0] := by
    unfold splice
    rw [Hz.out, bv_len, Hl.out, List.take_zero, List.nil_append, List.drop_replicate, show n + 2 - (0 + n) = 2 by omega]
    rfl
  rw [hcs] at hg2
  have hbl : (bv l).length = n := by rw [bv_len, Hl.out]
  have Hg2 := hg2.out
  clear hcs hmk hg1 hb1 hr1 hg2
  go_wp2_with fail
  go_fit (Ho.out w2 hr2 (Nat.le_trans hB hb2.size))
  rintro e w3 ⟨rfl, hb3⟩
  have hgw : w.heap.size < w2.heap.size := blk_lt Hg2
  have hg3 := blk_old Hg2 hb3 hgw
  have c3 : w3.cell? ⟨w.heap.size, n, none⟩ = some (.int .u8 0) := blk_cell hg3 (by simp [← hbl])
  have f3 := blk_free (i := n) hg3
  have hg4 := blk_set (i := n) hg3 (.int .u8 (a3 : Int))
  have c4 : (w3.setCell ⟨w.heap.size, n, none⟩ (.int .u8 (a3 : Int))).cell? ⟨w.heap.size, n + 1, none⟩ = some (.int .u8 0) := blk_cell hg4 (by simp [← hbl])
  have f4 := blk_free (i := n + 1) hg4
  have hg5 := blk_set (i := n + 1) hg4 (.int .u8 (b3 : Int))
  have ecs : ((bv l ++ [Value.int .u8 0, .int .u8 0]).toArray.setIfInBounds n (.int .u8 (a3 : Int))).setIfInBounds (n + 1) (.int .u8 (b3 : Int)) = (bv (sealF l)).toArray := by
    unfold sealF
    rw [bv_app, es.out, ← hbl]
    simp
  rw [ecs] at hg5
  clear hg4 hg3 Hg2 ecs
  have hb5 := ((hb2.trans (hb3.mono hb2.size)).setCell (p := ⟨w.heap.size, n, none⟩) (Nat.le_refl _) (.int .u8 (a3 : Int))).setCell (p := ⟨w.heap.size, n + 1, none⟩) (Nat.le_refl _) (.int .u8 (b3 : Int))
  go_wp2
  go_ret
  exact ⟨_, _, _, rfl, own_blkAll hg5 (Nat.le_refl _) (by rw [bv_len, sealF_len, Hl.out]) (by unfold maxLen; omega), hb5⟩

/- Open -/
/-- What a row is the seal of. -/
def openF (l : List UInt8) : Option (List UInt8) := if l.length < 2 then none else if sealF (l.take (l.length - 2)) = l then some (l.take (l.length - 2)) else none
def RetO (w : World) (o : Option (List UInt8)) (e : Ending) (w' : World) : Prop :=
  match o with
  | none => e = .returned (.tuple #[.slice none 0 0, .bool false]) ∧ Below w.heap.size w w'
  | some l => ∃ A c n, e = .returned (.tuple #[.slice A n c, .bool true]) ∧ w'.ownsRow w.heap.size 5 1 (.slice A n c) n (bv l) ∧ Below w.heap.size w w'
theorem openF_two {l : List UInt8} {k : Nat} {p q : UInt8} (hl : l.length = k + 2) (hp : l[k]? = some p) (hq : l[k + 1]? = some q) : openF l = if (flN (0, 0) (l.take k)).1 = p.toNat ∧ (flN (0, 0) (l.take k)).2 = q.toNat then some (l.take k) else none := by
  unfold openF
  rw [if_neg (by omega), show l.length - 2 = k by omega]
  have e : l = l.take k ++ [p, q] := by
    have h1 := take_succ hp
    have h2 := take_succ hq
    rw [List.take_of_length_le (by omega)] at h2
    have h3 : l = (l.take k ++ [p]) ++ [q] := by rw [← h1]; exact h2
    rwa [List.append_assoc] at h3
  have hb := flN_lt (0, 0) (l.take k) ⟨by decide, by decide⟩
  have hiff : sealF (l.take k) = l ↔ (flN (0, 0) (l.take k)).1 = p.toNat ∧ (flN (0, 0) (l.take k)).2 = q.toNat := by
    have e2 : (sealF (l.take k) = l) = (sealF (l.take k) = l.take k ++ [p, q]) := by rw [← e]
    rw [e2]
    unfold sealF flB
    rw [List.append_cancel_left_eq]
    simp only [List.cons.injEq, and_true]
    constructor
    · rintro ⟨h1, h2⟩
      rw [← h1, ← h2, UInt8.toNat_ofNat', UInt8.toNat_ofNat']
      omega
    · rintro ⟨h1, h2⟩
      rw [h1, h2]
      simp
  by_cases hc : sealF (l.take k) = l
  · rw [if_pos hc, if_pos (hiff.1 hc)]
  · rw [if_neg hc, if_neg (fun h => hc (hiff.2 h))]

theorem sums_held : Try.prog.stoodInHeld 155 = false := by kernel_rfl
theorem sums_guard : Try.prog.eqGuardType Try.prog.depth 155 = false := by kernel_rfl
theorem sums_neq (a b c d : Int) (w : World) : (binOp .neq 155 (.agg #[.int .u8 a, .int .u8 b]) (.agg #[.int .u8 c, .int .u8 d])).run Try.prog w = .ok (.bool (!(a == c && b == d))) w := by
  rw [run_neq_struct, run_equalIn_agg w 9999 _ _ _ (by simp only [Program.fieldsOf, Try.underlying155]) sums_held]
  simp [Program.fieldsOf, Try.underlying155, Op.eqFields, part, run_equalIn_int w _ _ _ _ _ _ Try.underlying5]
  by_cases h1 : a = c <;> by_cases h2 : b = d <;> simp [h1, h2]

set_option maxRecDepth 10000 in
set_option maxHeartbeats 1000000 in
theorem flOpen_any (A : Option Addr) (n c B : Nat) (l : List UInt8) (w : World) (h : Rd w B 1 A n c (bv l)) (hB : B ≤ w.heap.size) (hn : n ≤ 1000000000) :
    Calls Try.prog 105 #[.slice A n c] w (RetO w (openF l)) := by
  have hll := h.blen
  have hle := h.le
  by_cases h2 : n < 2
  · rw [show openF l = none by unfold openF; rw [if_pos (by omega)]]
    clear hll
    go_enter Try.func105, Try.ntmps105
    go_wp2
    go_ret2
    exact ⟨rfl, Below.refl _ _⟩
  · obtain ⟨k, rfl⟩ : ∃ k, n = k + 2 := ⟨n - 2, by omega⟩
    obtain ⟨ad, p, rfl, hp, hcp⟩ := h.byte (k := k) (by omega)
    obtain ⟨ad', q, e, hq, hcq⟩ := h.byte (k := k + 1) (by omega)
    injection e with e
    subst e
    have hbk : ad.block < B := by obtain ⟨ad', e', hb, _⟩ := h.at_ (by omega); injection e' with e'; rw [e']; exact hb
    rw [openF_two hll hp hq]
    have hof := fun w' h' hB' => flOf_any (some ad) k c B (l.take k) w' h' hB' (by omega)
    have hcl := fun w' h' hB' => clone_any (some ad) k c B (l.take k) w' h' hB' (by omega)
    obtain ⟨a3, ea⟩ : ∃ a3, a3 = (flN (0, 0) (l.take k)).1 := ⟨_, rfl⟩
    obtain ⟨b3, eb⟩ : ∃ b3, b3 = (flN (0, 0) (l.take k)).2 := ⟨_, rfl⟩
    have hcut := h.btake (k := k) (by omega)
    rw [← ea, ← eb] at hof ⊢
    obtain ⟨o, ho⟩ : ∃ o, o = (if a3 = p.toNat ∧ b3 = q.toNat then some (l.take k) else none) := ⟨_, rfl⟩
    rw [← ho]
    have HO := Lib.hid ho
    clear ho
    have Ho := Lib.hid hof
    have Hc := Lib.hid hcl
    obtain ⟨i0, hi⟩ := info_parts u8_info
    have hrun := fun w => run_cut_h (P := Try.prog) Try.underlying22 hi.1 (some ad) (k + 2) c k (by omega) w
    clear hof ea eb hp hq hll hcl hi
    go_enter Try.func105, Try.ntmps105
    go_wp2_with fail
    have hb1 : Below w.heap.size w (w.alloc (.cells #[.int .u8 0, .int .u8 0] 155)) := (Below.refl _ _).alloc (Nat.le_refl _) _
    have hs1 := heap_alloc_new w (.cells #[.int .u8 0, .int .u8 0] 155)
    go_fit (Ho.out _ (hcut.up (hb1.mono hB)) (by simp; omega))
    rintro e w2 ⟨rfl, hb12⟩
    have hlt1 := blk_lt hs1
    have hs2 := blk_old hs1 hb12 hlt1
    have hb2 := bnx hb1 hb12
    clear hs1 hb1 hb12
    have c0 : w2.cell? ⟨w.heap.size, 0, none⟩ = some (.int .u8 0) := blk_cell hs2 rfl
    have f0 := blk_free (i := 0) hs2
    have hs3 := blk_set (i := 0) hs2 (.int .u8 (a3 : Int))
    have c1 : (w2.setCell ⟨w.heap.size, 0, none⟩ (.int .u8 (a3 : Int))).cell? ⟨w.heap.size, 1, none⟩ = some (.int .u8 0) := blk_cell hs3 rfl
    have f1 := blk_free (i := 1) hs3
    have hs4 := blk_set (i := 1) hs3 (.int .u8 (b3 : Int))
    have hb4 := ((hb2.setCell (p := ⟨w.heap.size, 0, none⟩) (Nat.le_refl _) (.int .u8 (a3 : Int))).setCell (p := ⟨w.heap.size, 1, none⟩) (Nat.le_refl _) (.int .u8 (b3 : Int))).drew
    clear hs2 hs3 hlt1 hb2
    go_wp2_with fail
    replace hs4 : ((w2.setCell ⟨w.heap.size, 0, none⟩ (.int .u8 (a3 : Int))).setCell ⟨w.heap.size, 1, none⟩ (.int .u8 (b3 : Int))).drew.heap[w.heap.size]? = _ := hs4
    refine Ord.region_ (fun _ => True) true [20, 24, 29] (by kernel_rfl) (by kernel_rfl) trivial ?_
    generalize ((w2.setCell ⟨w.heap.size, 0, none⟩ (.int .u8 (a3 : Int))).setCell ⟨w.heap.size, 1, none⟩ (.int .u8 (b3 : Int))).drew = w3 at *
    clear c0 f0 c1 f1
    have hrow : w3.rangeAt w.heap.size 0 [.int .u8 (a3 : Int), .int .u8 (b3 : Int)] := own_range hs4 0 (fun j v hv => by simpa using hv)
    have hbB := hb4.mono hB
    obtain ⟨bb, hbb⟩ : ∃ bb, bb = !(((a3 : Int) == (p.toNat : Int)) && ((b3 : Int) == (q.toNat : Int))) := ⟨_, rfl⟩
    have hneq : ∀ w, (binOp .neq 155 (.agg #[.int .u8 (a3 : Int), .int .u8 (b3 : Int)]) (.agg #[.int .u8 (p.toNat : Int), .int .u8 (q.toNat : Int)])).run Try.prog w = .ok (.bool bb) w := fun w => by rw [hbb]; exact sums_neq _ _ _ _ w
    have HB := Lib.hid hbb
    clear hbb
    have hgd := sums_guard
    have lt0 : (k : Int) < (k : Int) + 2 := by omega
    have lt1 : (k : Int) + 1 < (k : Int) + 2 := by omega
    have wr1 : IntKind.i64.wrap ((k : Int) + 1) = (k : Int) + 1 := by simp [IntKind.wrap, IntKind.bits, IntKind.signed]; omega
    have nn1 : (0 : Int) ≤ (k : Int) + 1 := by omega
    have tn1 : ((k : Int) + 1).toNat = k + 1 := by omega
    have d0 : w3.cell? (ad.add k) = some (.int .u8 (p.toNat : Int)) := (hbB.cell (by rw [blk_add]; exact hbk)).trans hcp
    have d1 : w3.cell? (ad.add (k + 1)) = some (.int .u8 (q.toNat : Int)) := (hbB.cell (by rw [blk_add]; exact hbk)).trans hcq
    repeat (first | (refine Ord.e_p (v := ?_) rfl (by rfl) ?_ ?_; rotate_left; · (intro w2; go_simp; try with_reducible rfl)) | (refine Ord.e_u (by rfl) ?_)); (try simp only [Act.put, List.setIfInBounds_toArray, List.set_cons_zero, List.set_cons_succ])
    refine Ord.e_row Try.underlying155 rfl (by kernel_rfl) rfl hrow (by rfl) (by rfl) ?_
    (try simp only [Act.put, List.setIfInBounds_toArray, List.set_cons_zero, List.set_cons_succ])
    repeat (first | (refine Ord.e_p (v := ?_) rfl (by rfl) ?_ ?_; rotate_left; · (intro w2; go_simp; try with_reducible rfl)) | (refine Ord.e_u (by rfl) ?_)); (try simp only [Act.put, List.setIfInBounds_toArray, List.set_cons_zero, List.set_cons_succ])
    refine Ord.e_load Try.underlying5 rfl d0 rfl (by rfl) (by rfl) ?_
    (try simp only [Act.put, List.setIfInBounds_toArray, List.set_cons_zero, List.set_cons_succ])
    repeat (first | (refine Ord.e_p (v := ?_) rfl (by rfl) ?_ ?_; rotate_left; · (intro w2; go_simp; try with_reducible rfl)) | (refine Ord.e_u (by rfl) ?_)); (try simp only [Act.put, List.setIfInBounds_toArray, List.set_cons_zero, List.set_cons_succ])
    refine Ord.e_load Try.underlying5 rfl d1 rfl (by rfl) (by rfl) ?_
    (try simp only [Act.put, List.setIfInBounds_toArray, List.set_cons_zero, List.set_cons_succ])
    repeat (first | (refine Ord.e_p (v := ?_) rfl (by rfl) ?_ ?_; rotate_left; · (intro w2; go_simp; try with_reducible rfl)) | (refine Ord.e_u (by rfl) ?_)); (try simp only [Act.put, List.setIfInBounds_toArray, List.set_cons_zero, List.set_cons_succ])
    refine Ord.e_nil ?_
    clear d0 d1 hrow
    cases bb with
    | false =>
      have hab : a3 = p.toNat ∧ b3 = q.toNat := by
        have := HB.out
        simp at this
        omega
      have hO := HO.out
      rw [if_pos hab] at hO
      subst hO
      go_wp2_with fail
      go_fit (Hc.out w3 (hcut.up hbB) (Nat.le_trans hB hb4.size))
      rintro e w4 ⟨A4, c4, n4, rfl, hown4, hb34⟩
      go_wp2
      go_ret2
      exact ⟨A4, c4, n4, rfl, own_mono hown4 hb4.size, bnx hb4 hb34⟩
    | true =>
      have hab : ¬ (a3 = p.toNat ∧ b3 = q.toNat) := by
        rintro ⟨h1, h2⟩
        have := HB.out
        simp [h1, h2] at this
      have hO := HO.out
      rw [if_neg hab] at hO
      subst hO
      go_wp2
      go_ret2
      exact ⟨rfl, hb4⟩

/- the document's Seal -/
set_option maxHeartbeats 1000000 in
theorem flqSeal_any (A : Option Addr) (n c B : Nat) (l : List UInt8) (w : World) (h : Rd w B 1 A n c (bv l)) (hB : B ≤ w.heap.size) (hn : n ≤ 1000000000) :
    Calls Try.prog 103 #[.slice A n c] w (RetB w (sealF l)) := by
  have hll := h.blen
  obtain ⟨i0, hi⟩ := info_parts u8_info
  have Hi := Lib.hid hi
  obtain ⟨a3, ea⟩ : ∃ a3, a3 = (flN (0, 0) l).1 := ⟨_, rfl⟩
  obtain ⟨b3, eb⟩ : ∃ b3, b3 = (flN (0, 0) l).2 := ⟨_, rfl⟩
  have hof := flqOf_any A n c B l w h
  have es := Lib.hid (bv_flB l)
  rw [← ea, ← eb] at hof es
  clear ea eb hi
  have hown1 : (w.alloc (.cells #[] 5)).ownsRow w.heap.size 5 1 (.slice (some ⟨w.heap.size, 0, none⟩) 0 0) 0 [] := own_empty w _ _ (Nat.le_refl _) 1
  have hb1 : Below w.heap.size w (w.alloc (.cells #[] 5)) := (Below.refl _ _).alloc (Nat.le_refl _) _
  go_enter Try.func103, Try.ntmps103
  go_wp2_with fail
  go_fit hof
  rintro e w1 ⟨rfl, rfl⟩
  go_wp2_with (at_builtin; refine stop_ ?_)
  refine go_ (wpList_app Try.underlying22 Hi.out rfl (by omega) hown1 rfl (h.up (hb1.mono hB)) rfl (bv_one _) (k := n) (by omega) (List.nil_append _) (by unfold maxLen; omega) (by omega) (by simp) ?_)
  intro A2 c2 w2 hown2 hB2
  have hb2 := hB2 hb1 (by simp) (Nat.le_refl _)
  clear hB2
  go_wp2_with (at_builtin; refine stop_ ?_)
  have hr3 : Rd (w2.alloc (.cells #[.int .u8 (a3 : Int), .int .u8 (b3 : Int)] 5)) (w2.heap.size + 1) 1 (some ⟨w2.heap.size, 0, none⟩) 2 2 (bv (flB l)) := by
    have := rd_const w2 5 (flB l) (0, 0) (by simp [flB, maxLen])
    rw [es.out] at this ⊢
    exact this
  have hb3 : Below w2.heap.size w2 (w2.alloc (.cells #[.int .u8 (a3 : Int), .int .u8 (b3 : Int)] 5)) := (Below.refl _ _).alloc (Nat.le_refl _) _
  refine go_ (wpList_app Try.underlying22 Hi.out rfl (by omega) (own_up hown2 hb3 (Nat.le_refl _)) rfl hr3 rfl (bv_one _) (k := n + 2) rfl (bv_app _ _).symm (by unfold maxLen; omega) (by omega) (by simp; have := hb2.size; omega) ?_)
  intro A4 c4 w4 hown4 hB4
  have hb4 := hB4 (bnx hb2 hb3) (by simp; have := hb2.size; omega) (Nat.le_refl _)
  clear hB4
  go_wp2
  go_ret
  exact ⟨A4, c4, n + 2, rfl, hown4, hb4⟩

end Go.Proofs.Ytglfhdkknhdphaa
