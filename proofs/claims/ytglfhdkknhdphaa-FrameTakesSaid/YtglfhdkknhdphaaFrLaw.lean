/-
  Plain laws of frames: steady; there and back.
-/
import Derived.Test.YtglfhdkknhdphaaFrTake
set_option linter.unusedSimpArgs false
set_option linter.unusedVariables false
namespace Go.Proofs.Ytglfhdkknhdphaa
open Go.RowKit NumLaw

theorem frBeg_two {x y : UInt8} {l : List UInt8} : frBeg (x :: y :: l) = (decide (x = 181) && decide (y = 98)) := by
  unfold frBeg
  by_cases h1 : x = 181 <;> by_cases h2 : y = 98 <;> simp [h1, h2]
/-- What six bytes and more tell. -/
theorem frTake_six {x0 x1 x2 x3 x4 x5 : UInt8} {rest : List UInt8} (h0 : x0 = 181) (h1 : x1 = 98) : frTake (x0 :: x1 :: x2 :: x3 :: x4 :: x5 :: rest) =
    if 1016 < x4.toNat + 256 * x5.toNat then ⟨0, 0, [], 0, 7⟩ else if rest.length + 6 < x4.toNat + 256 * x5.toNat + 8 then ⟨0, 0, [], 0, 2⟩ else
    match openF (x2 :: x3 :: x4 :: x5 :: rest.take (x4.toNat + 256 * x5.toNat + 2)) with
    | none => ⟨0, 0, [], 0, 4⟩
    | some body => ⟨x2.toNat, x3.toNat, body.drop 4, x4.toNat + 256 * x5.toNat + 8, 0⟩ := by
  unfold frTake
  rw [if_neg (by rw [frBeg_two]; simp [h0, h1])]
  simp only [List.length_cons]
  rfl
theorem frTake_short {b : List UInt8} (h : b.length < 6) (hb : frBeg b = true) : frTake b = ⟨0, 0, [], 0, 2⟩ := by
  unfold frTake; rw [if_neg (by rw [hb]; simp)]
  match b, h with
  | [], _ => rfl
  | [_], _ => rfl
  | [_, _], _ => rfl
  | [_, _, _], _ => rfl
  | [_, _, _, _], _ => rfl
  | [_, _, _, _, _], _ => rfl
  | _ :: _ :: _ :: _ :: _ :: _ :: _, h => simp at h; omega
theorem frBeg_more {b more : List UInt8} (h : frBeg b = false) : frBeg (b ++ more) = false := by
  match b, h with
  | [], h => simp [frBeg] at h
  | [x], h =>
    have hx : ¬ x = 181 := by rintro rfl; simp [frBeg] at h
    cases more with
    | nil => simpa using h
    | cons y l => show frBeg (x :: y :: l) = false; rw [frBeg_two]; simp [hx]
  | x :: y :: l, h =>
    show frBeg (x :: y :: (l ++ more)) = false
    rw [frBeg_two] at h ⊢
    exact h
/-- P1505. -/
theorem frTake_steady (b more : List UInt8) (h : (frTake b).err ≠ 2) : frTake (b ++ more) = frTake b := by
  cases hb : frBeg b with
  | false =>
    have e1 : frTake b = ⟨0, 0, [], 0, 3⟩ := by unfold frTake; rw [if_pos hb]
    rw [e1]; unfold frTake; rw [if_pos (frBeg_more hb)]
  | true =>
    by_cases h6 : b.length < 6
    · rw [frTake_short h6 hb] at h; exact absurd rfl h
    · match b, h6 with
      | x0 :: x1 :: x2 :: x3 :: x4 :: x5 :: rest, _ =>
        rw [frBeg_two] at hb
        simp only [Bool.and_eq_true, decide_eq_true_eq] at hb
        simp only [List.cons_append]
        rw [frTake_six hb.1 hb.2] at h ⊢
        rw [frTake_six hb.1 hb.2]
        generalize x4.toNat + 256 * x5.toNat = N at *
        by_cases hN : 1016 < N
        · rw [if_pos hN, if_pos hN]
        · rw [if_neg hN] at h
          rw [if_neg hN, if_neg hN]
          by_cases hl : rest.length + 6 < N + 8
          · rw [if_pos hl] at h; exact absurd rfl h
          · rw [if_neg hl, if_neg (by rw [List.length_append]; omega), List.take_append_of_le_length (by omega)]
      | [], h6 => simp at h6
      | [_], h6 => simp at h6
      | [_, _], h6 => simp at h6
      | [_, _, _], h6 => simp at h6
      | [_, _, _, _], h6 => simp at h6
      | [_, _, _, _, _], h6 => simp at h6
theorem openF_seal (l : List UInt8) : openF (sealF l) = some l := by
  unfold openF
  rw [if_neg (by rw [sealF_len]; omega), sealF_len, show l.length + 2 - 2 = l.length by omega]
  have : (sealF l).take l.length = l := by unfold sealF; simp
  rw [this, if_pos rfl]
theorem openF_some {l b : List UInt8} (h : openF l = some b) : sealF b = l := by
  unfold openF at h
  split at h
  · cases h
  · split at h
    · rename_i h2; injection h with h; rw [← h]; exact h2
    · cases h
theorem bytesN_two (n : Nat) : bytesN 2 n = [UInt8.ofNat (n % 256), UInt8.ofNat (n / 256 % 256)] := rfl
theorem ofNat_toNat (x : UInt8) : UInt8.ofNat (x.toNat % 256) = x := by
  apply UInt8.toNat_inj.1
  rw [UInt8.toNat_ofNat']
  have := x.toNat_lt
  omega
/-- P1504, there. -/
theorem frTake_put (c i : Int) (p more : List UInt8) (h : putE c i p.length = 0) : frTake (putB c i p ++ more) = ⟨c.toNat, i.toNat, p, (putB c i p).length, 0⟩ := by
  have hp : putB c i p = frB c i p := by unfold putB; rw [if_pos h]
  have hn : p.length ≤ 1016 := by
    unfold putE at h
    split at h
    · cases h
    · split at h
      · cases h
      · omega
  have hci : noB c = false ∧ noB i = false := by
    unfold putE at h
    split at h
    · cases h
    · rename_i ha; unfold anyNo at ha; simpa using ha
  obtain ⟨c, rfl, hc⟩ := noB_not hci.1
  obtain ⟨i, rfl, hi⟩ := noB_not hci.2
  rw [hp, frB_len]
  simp only [Int.toNat_natCast]
  obtain ⟨n, hn'⟩ : ∃ n, n = p.length := ⟨_, rfl⟩
  have e : frB (c : Int) (i : Int) p = 181 :: 98 :: UInt8.ofNat (c % 256) :: UInt8.ofNat (i % 256) :: UInt8.ofNat (n % 256) :: UInt8.ofNat (n / 256 % 256) :: (p ++ flB (frBody c i p)) := by
    unfold frB sealF
    rw [hn']
    rfl
  rw [e]
  simp only [List.cons_append]
  rw [frTake_six rfl rfl]
  have t1 : (UInt8.ofNat (n % 256)).toNat + 256 * (UInt8.ofNat (n / 256 % 256)).toNat = n := by
    rw [UInt8.toNat_ofNat', UInt8.toNat_ofNat']
    omega
  rw [t1, if_neg (by omega), if_neg (by simp [flB]; omega)]
  have t2 : (p ++ flB (frBody c i p) ++ more).take (n + 2) = p ++ flB (frBody c i p) := by
    rw [List.take_append_of_le_length (by simp [flB]; omega), List.take_of_length_le (by simp [flB]; omega)]
  rw [t2]
  have t3 : UInt8.ofNat (c % 256) :: UInt8.ofNat (i % 256) :: UInt8.ofNat (n % 256) :: UInt8.ofNat (n / 256 % 256) :: (p ++ flB (frBody c i p)) = sealF (frBody c i p) := by
    unfold sealF
    rw [hn']
    rfl
  rw [t3, openF_seal]
  have t4 : (UInt8.ofNat (c % 256)).toNat = c := by rw [UInt8.toNat_ofNat']; omega
  have t5 : (UInt8.ofNat (i % 256)).toNat = i := by rw [UInt8.toNat_ofNat']; omega
  have t6 : (frBody c i p).drop 4 = p := rfl
  simp only [t4, t5, t6, ← hn']
/-- P1504, back. -/
theorem frTake_back (more : List UInt8) (h : (frTake more).err = 0) :
    putE ((frTake more).c : Int) ((frTake more).i : Int) (frTake more).p.length = 0 ∧ (frTake more).size ≤ more.length ∧ 8 ≤ (frTake more).size ∧ putB ((frTake more).c : Int) ((frTake more).i : Int) (frTake more).p = more.take (frTake more).size := by
  cases hb : frBeg more with
  | false =>
    have e1 : frTake more = ⟨0, 0, [], 0, 3⟩ := by unfold frTake; rw [if_pos hb]
    rw [e1] at h; cases h
  | true =>
    by_cases h6 : more.length < 6
    · rw [frTake_short h6 hb] at h; cases h
    · match more, h6 with
      | x0 :: x1 :: x2 :: x3 :: x4 :: x5 :: rest, _ =>
        rw [frBeg_two] at hb
        simp only [Bool.and_eq_true, decide_eq_true_eq] at hb
        obtain ⟨rfl, rfl⟩ := hb
        rw [frTake_six rfl rfl] at h ⊢
        have l2 := x2.toNat_lt
        have l3 := x3.toNat_lt
        have l4 := x4.toNat_lt
        have l5 := x5.toNat_lt
        obtain ⟨N, hN⟩ : ∃ N, N = x4.toNat + 256 * x5.toNat := ⟨_, rfl⟩
        rw [← hN] at h ⊢
        by_cases h1 : 1016 < N
        · rw [if_pos h1] at h; cases h
        · rw [if_neg h1] at h ⊢
          by_cases h2 : rest.length + 6 < N + 8
          · rw [if_pos h2] at h; cases h
          · rw [if_neg h2] at h ⊢
            cases ho : openF (x2 :: x3 :: x4 :: x5 :: rest.take (N + 2)) with
            | none => rw [ho] at h; cases h
            | some body =>
              have hs := openF_some ho
              have hl := openF_len ho
              simp only [List.length_cons, List.length_take] at hl
              have hbl : body.length = N + 4 := by omega
              match body, hbl with
              | y2 :: y3 :: y4 :: y5 :: p, hbl =>
                have hpl : p.length = N := by simpa using hbl
                unfold sealF at hs
                simp only [List.cons_append, List.cons.injEq] at hs
                obtain ⟨rfl, rfl, rfl, rfl, hs⟩ := hs
                have hE : putE (y2.toNat : Int) (y3.toNat : Int) p.length = 0 := by
                  unfold putE
                  rw [if_neg (by unfold anyNo noB; simp; omega), if_neg (by omega)]
                refine ⟨hE, by simp; omega, by simp, ?_⟩
                show putB (y2.toNat : Int) (y3.toNat : Int) p = _
                unfold putB
                rw [if_pos hE]
                have hbody : frBody y2.toNat y3.toNat p = y2 :: y3 :: y4 :: y5 :: p := by
                  have e1 : bytesN 1 y2.toNat = [y2] := by show [UInt8.ofNat (y2.toNat % 256)] = _; rw [ofNat_toNat]
                  have e2 : bytesN 1 y3.toNat = [y3] := by show [UInt8.ofNat (y3.toNat % 256)] = _; rw [ofNat_toNat]
                  have e3 : bytesN 2 p.length = [y4, y5] := by
                    rw [hpl, hN, bytesN_two]
                    have a1 : (y4.toNat + 256 * y5.toNat) % 256 = y4.toNat % 256 := by omega
                    have a2 : (y4.toNat + 256 * y5.toNat) / 256 % 256 = y5.toNat % 256 := by omega
                    rw [a1, a2, ofNat_toNat, ofNat_toNat]
                  unfold frBody
                  rw [e1, e2, e3]
                  rfl
                unfold frB sealF
                simp only [Int.toNat_natCast]
                rw [hbody]
                simp only [List.cons_append, List.nil_append, hs]
                rfl
              | [], hbl => simp at hbl
              | [_], hbl => simp at hbl
              | [_, _], hbl => simp at hbl
              | [_, _, _], hbl => simp at hbl
      | [], h6 => simp at h6
      | [_], h6 => simp at h6
      | [_, _], h6 => simp at h6
      | [_, _, _], h6 => simp at h6
      | [_, _, _, _], h6 => simp at h6
      | [_, _, _, _, _], h6 => simp at h6
theorem frTake_none (b : List UInt8) (h : (frTake b).err ≠ 0) : (frTake b).c = 0 ∧ (frTake b).i = 0 ∧ (frTake b).p = [] ∧ (frTake b).size = 0 := by
  unfold frTake at h ⊢
  split
  · exact ⟨rfl, rfl, rfl, rfl⟩
  · rename_i hb
    rw [if_neg hb] at h
    split
    · split
      · exact ⟨rfl, rfl, rfl, rfl⟩
      · rename_i h1
        split
        · exact ⟨rfl, rfl, rfl, rfl⟩
        · rename_i h2
          split
          · exact ⟨rfl, rfl, rfl, rfl⟩
          · rename_i h3
            simp only [if_neg h1, if_neg h2, h3] at h
            exact absurd rfl h
    · exact ⟨rfl, rfl, rfl, rfl⟩

end Go.Proofs.Ytglfhdkknhdphaa
