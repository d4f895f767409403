/-
  The plain law of layer 36: the blocks that are told hold just the records that were added.
-/
import Derived.Test.YtplgcfjcdjlnbaaKGS
set_option linter.unusedSimpArgs false
set_option linter.unusedVariables false
namespace Go.Proofs.Ytplgcfjcdjlnbaa
open Go.RowKit NumLaw CrcLaw

def recE (x : En) : Nat × List Int := (x.t, x.V)
def keyOK (ev s : Nat) (L : List En) : Prop := ∀ i x, L[i]? = some x → x.key = (i == 0 || (s + i) % ev == 0)
def BsOK (ev : Nat) : Nat → List (List En) → Prop
  | _, [] => True
  | s, L :: Bs => LogQ L ∧ L ≠ [] ∧ keyOK ev s L ∧ BsOK ev (s + L.length) Bs
def catB : Nat → List (List En) → List UInt8
  | _, [] => []
  | i, L :: Bs => putB i L ++ catB (i + 1) Bs
theorem catB_snoc : ∀ (Bs : List (List En)) (i : Nat) (L : List En), catB i (Bs ++ [L]) = catB i Bs ++ putB (i + Bs.length) L
  | [], i, L => by show putB i L ++ [] = [] ++ putB (i + 0) L; simp
  | B :: Bs, i, L => by
    show putB i B ++ catB (i + 1) (Bs ++ [L]) = (putB i B ++ catB (i + 1) Bs) ++ _
    rw [catB_snoc Bs (i + 1) L, List.append_assoc, List.length_cons, show i + 1 + Bs.length = i + (Bs.length + 1) by omega]
theorem BsOK_snoc {ev : Nat} : ∀ (Bs : List (List En)) (s : Nat) (L : List En), BsOK ev s Bs → LogQ L → L ≠ [] → keyOK ev (s + Bs.flatten.length) L → BsOK ev s (Bs ++ [L])
  | [], s, L, _, h1, h2, h3 => ⟨h1, h2, by simpa using h3, trivial⟩
  | B :: Bs, s, L, h, h1, h2, h3 => ⟨h.1, h.2.1, h.2.2.1, BsOK_snoc Bs (s + B.length) L h.2.2.2 h1 h2 (by
    rw [List.flatten_cons, List.length_append] at h3
    rwa [Nat.add_assoc])⟩
theorem catB_len {ev : Nat} : ∀ (Bs : List (List En)) (s i : Nat), BsOK ev s Bs → i + Bs.length < 4294967296 → (catB i Bs).length = 256 * Bs.length
  | [], _, _, _, _ => rfl
  | B :: Bs, s, i, h, hi => by
    rw [List.length_cons] at hi
    show (putB i B ++ catB (i + 1) Bs).length = _
    rw [List.length_append, catB_len Bs _ (i + 1) h.2.2.2 (by omega), (blk_there (show i < 4294967296 by omega) h.1.1 (logQ_put h.1 h.2.1)).2.2.2, List.length_cons]
    omega
theorem BsOK_at {ev : Nat} : ∀ (Bs : List (List En)) (s i : Nat) (L : List En), BsOK ev s Bs → Bs[i]? = some L → LogQ L ∧ L ≠ [] ∧ keyOK ev (s + (Bs.take i).flatten.length) L
  | [], _, i, L, _, h => by simp at h
  | B :: Bs, s, 0, L, h, hx => by
    simp at hx
    subst hx
    exact ⟨h.1, h.2.1, by simpa using h.2.2.1⟩
  | B :: Bs, s, i + 1, L, h, hx => by
    obtain ⟨a, b, c⟩ := BsOK_at Bs (s + B.length) i L h.2.2.2 (by simpa using hx)
    refine ⟨a, b, ?_⟩
    rw [List.take_succ_cons, List.flatten_cons, List.length_append, ← Nat.add_assoc]
    exact c
theorem catB_at {ev : Nat} : ∀ (Bs : List (List En)) (s i j : Nat) (L : List En), BsOK ev s Bs → j + Bs.length < 4294967296 → Bs[i]? = some L → ((catB j Bs).drop (256 * i)).take 256 = putB (j + i) L
  | [], _, _, _, _, _, _, h => by simp at h
  | B :: Bs, s, 0, j, L, h, hj, hx => by
    simp at hx
    subst hx
    rw [List.length_cons] at hj
    have hl := (blk_there (show j < 4294967296 by omega) h.1.1 (logQ_put h.1 h.2.1)).2.2.2
    show List.take 256 (putB j B ++ catB (j + 1) Bs) = _
    rw [List.take_append_of_le_length (by omega), List.take_of_length_le (by omega)]
    rfl
  | B :: Bs, s, i + 1, j, L, h, hj, hx => by
    rw [List.length_cons] at hj
    have hl := (blk_there (show j < 4294967296 by omega) h.1.1 (logQ_put h.1 h.2.1)).2.2.2
    have ih := catB_at Bs (s + B.length) i (j + 1) L h.2.2.2 (by omega) (by simpa using hx)
    show List.take 256 ((putB j B ++ catB (j + 1) Bs).drop (256 * (i + 1))) = _
    rw [show 256 * (i + 1) = (putB j B).length + 256 * i by omega, List.drop_append, List.drop_eq_nil_of_le (by omega), List.nil_append, Nat.add_sub_cancel_left, ih, show j + 1 + i = j + (i + 1) by omega]
theorem flat_get : ∀ (Bs : List (List En)) (i k : Nat) (L : List En) (x : En), Bs[i]? = some L → L[k]? = some x → Bs.flatten[(Bs.take i).flatten.length + k]? = some x
  | [], i, k, L, x, h, _ => by simp at h
  | B :: Bs, 0, k, L, x, h, hx => by
    simp at h
    subst h
    rw [List.flatten_cons, List.take_zero, List.flatten_nil, List.length_nil, Nat.zero_add, List.getElem?_append_left (List.getElem?_eq_some_iff.1 hx).1, hx]
  | B :: Bs, i + 1, k, L, x, h, hx => by
    have ih := flat_get Bs i k L x (by simpa using h) hx
    rw [List.take_succ_cons, List.flatten_cons, List.flatten_cons, List.length_append, List.getElem?_append_right (by omega), ← ih]
    congr 1
    omega
theorem flat_snocL {Bs : List (List En)} {i : Nat} {L : List En} (h : Bs[i]? = some L) : (Bs.take (i + 1)).flatten.length = (Bs.take i).flatten.length + L.length := by
  rw [take_succ h]; simp
/-- What the blocks hold, behind so many records. -/
theorem wr_inv {ev : Nat} {R : List (Nat × List Int)} (hR : ∀ p ∈ R, RcQ p) : ∀ k, k ≤ R.length → k ≤ 1000000 → ∃ Bs : List (List En), (stW ev R k).2.2 = catB 0 Bs ∧ Bs.length = (stW ev R k).2.1 ∧ BsOK ev 0 Bs ∧ (Bs.flatten ++ (stW ev R k).1).map recE = R.take k ∧ keyOK ev Bs.flatten.length (stW ev R k).1
  | 0, _, _ => ⟨[], rfl, rfl, trivial, rfl, fun i x h => by simp [stW] at h⟩
  | k + 1, h, hk => by
    obtain ⟨Bs, e1, e2, e3, e4, e5⟩ := wr_inv (ev := ev) hR k (by omega) (by omega)
    obtain ⟨q1, _, _⟩ := stW_ok (ev := ev) hR k (by omega) (by omega)
    have hx : R[k]? = some R[k] := List.getElem?_eq_getElem (by omega)
    obtain ⟨p1, p2, p3⟩ := hR _ (List.mem_of_getElem? hx)
    have hlen : Bs.flatten.length + (stW ev R k).1.length = k := by
      have := congrArg List.length e4
      rw [List.length_map, List.length_append, List.length_take] at this
      omega
    have htk : R.take (k + 1) = R.take k ++ [R[k]] := take_succ hx
    rw [stW_at hx, htk]
    generalize stW ev R k = s at *
    unfold stepW
    by_cases hf : adF ev s.1 k R[k].1 R[k].2 = true
    · have hne := adF_ne p2 hf
      refine ⟨Bs ++ [s.1], ?_, ?_, BsOK_snoc Bs 0 s.1 e3 q1 hne (by rw [Nat.zero_add]; exact e5), ?_, ?_⟩
      · show s.2.2 ++ adO _ _ _ _ _ _ = _
        unfold adO
        rw [if_pos hf, catB_snoc, ← e1, e2, Nat.zero_add]
      · show _ = adB _ _ _ _ _ _
        unfold adB
        rw [if_pos hf, List.length_append, e2]; rfl
      · show ((Bs ++ [s.1]).flatten ++ adL _ _ _ _ _).map recE = _
        unfold adL
        rw [if_pos hf, List.map_append, List.flatten_append, ← e4]
        simp [recE]
      · show keyOK ev _ (adL _ _ _ _ _)
        unfold adL
        rw [if_pos hf]
        intro i x hi
        match i, hi with
        | 0, hi => simp at hi; subst hi; rfl
    · refine ⟨Bs, ?_, ?_, e3, ?_, ?_⟩
      · show s.2.2 ++ adO _ _ _ _ _ _ = _
        unfold adO
        rw [if_neg hf, List.append_nil, e1]
      · show _ = adB _ _ _ _ _ _
        unfold adB
        rw [if_neg hf, e2]
      · show (Bs.flatten ++ adL _ _ _ _ _).map recE = _
        unfold adL
        rw [if_neg hf, ← List.append_assoc, List.map_append, e4]
        rfl
      · show keyOK ev _ (adL _ _ _ _ _)
        unfold adL
        rw [if_neg hf]
        intro i x hi
        by_cases hil : i < s.1.length
        · rw [List.getElem?_append_left hil] at hi
          exact e5 i x hi
        · have hi2 : i = s.1.length := by
            have := (List.getElem?_eq_some_iff.1 hi).1
            rw [List.length_append] at this
            simp at this
            omega
          subst hi2
          rw [List.getElem?_append_right (Nat.le_refl _), Nat.sub_self] at hi
          simp at hi
          subst hi
          show adK ev s.1 k = _
          unfold adK
          rw [hlen]
/-- What Write tells: blocks, numbered, of just those records. -/
theorem wr_blocks {ev : Nat} {R : List (Nat × List Int)} (hR : ∀ p ∈ R, RcQ p) (hn : R.length ≤ 1000000) : ∃ Bs : List (List En), wrO ev R = catB 0 Bs ∧ BsOK ev 0 Bs ∧ Bs.flatten.map recE = R ∧ Bs.length ≤ R.length + 1 := by
  obtain ⟨Bs, e1, e2, e3, e4, e5⟩ := wr_inv (ev := ev) hR R.length (Nat.le_refl _) hn
  obtain ⟨q1, q2, _⟩ := stW_ok (ev := ev) hR R.length (Nat.le_refl _) hn
  rw [List.take_of_length_le (Nat.le_refl _)] at e4
  unfold wrO flO
  by_cases hL : (stW ev R R.length).1 = []
  · rw [if_pos hL, List.append_nil]
    rw [hL, List.append_nil] at e4
    exact ⟨Bs, e1, e3, e4, by omega⟩
  · rw [if_neg hL]
    refine ⟨Bs ++ [(stW ev R R.length).1], by rw [catB_snoc, e1, e2, Nat.zero_add], BsOK_snoc Bs 0 _ e3 q1 hL (by rw [Nat.zero_add]; exact e5), (by
      have e : (Bs ++ [(stW ev R R.length).1]).flatten = Bs.flatten ++ (stW ev R R.length).1 := by simp
      rw [e]; exact e4), by rw [List.length_append]; simp; omega⟩

end Go.Proofs.Ytplgcfjcdjlnbaa
