/-
  The plain law of schema: parts, slots, what is put and taken.
-/
import Derived.Test.YtonejdjhdjckjaaGreatStb
import Derived.Test.YtonejdjhdjckjaaGreatShapeLaw
set_option linter.unusedSimpArgs false
set_option linter.unusedVariables false
namespace Go.Proofs.YtonejdjhdjckjaaGreat
open Go.RowKit NumLaw

structure PtT where
  nm : ByteArray
  sz : Int
  sg : Bool
  mn : Int
def ptC (p : PtT) : List Value := [.string p.nm, .int .i64 p.sz, .bool p.sg, .int .i64 p.mn]
def mx1 (n : Int) : Nat := if n < 1 then 1 else n.toNat
/-- A size that a field may have. -/
def szQ (n : Int) : Prop := n = 8 ∨ n = 4 ∨ n = 2 ∨ n = 1
def PtQ (l : List PtT) : Prop := ∀ p ∈ l, szQ p.sz
/-- Each part, and where its numbers begin. -/
def offs : Nat → List PtT → List (PtT × Nat)
  | _, [] => []
  | n, p :: l => (p, n) :: offs (n + mx1 p.mn) l
def cntS (l : List PtT) : Nat := (l.map fun p => mx1 p.mn).foldl (· + ·) 0
def wdS (l : List PtT) : Nat := (l.map fun p => p.sz.toNat * mx1 p.mn).foldl (· + ·) 0
abbrev SlT := Int × Bool × Nat
def slP (p : PtT × Nat) : List SlT := (List.range (mx1 p.1.mn)).map fun j => (p.1.sz, p.1.sg, p.2 + j)
def sltL (l : List PtT) : List SlT := (offs 0 l).flatMap slP
def slZ (s : SlT) : Int := s.1
def wireS (l : List PtT) : List SlT := stb slZ (sltL l)
def fldOf (s : SlT) : FieldV := anyF s.1 s.2.1
def valOf (v : List Int) (s : SlT) : Int := v.getD s.2.2 0
/-- The parts in the order of the wire, each with where its numbers begin. -/
def wireP (l : List PtT) : List (PtT × Nat) := stb (fun p => p.1.sz) (offs 0 l)
theorem offs_mem : ∀ (l : List PtT) (n : Nat) (p : PtT × Nat), p ∈ offs n l → p.1 ∈ l
  | [], _, _, h => by cases h
  | q :: l, n, p, h => by
    rcases List.mem_cons.1 h with rfl | h
    · exact List.mem_cons_self
    · exact List.mem_cons_of_mem _ (offs_mem l _ p h)
theorem foldl_add0 (l : List Nat) (a : Nat) : l.foldl (· + ·) a = a + l.foldl (· + ·) 0 := by
  induction l generalizing a with
  | nil => rfl
  | cons x l ih => rw [List.foldl_cons, List.foldl_cons, ih (a + x), ih (0 + x)]; omega
theorem cntS_cons (p : PtT) (l : List PtT) : cntS (p :: l) = mx1 p.mn + cntS l := by
  unfold cntS
  rw [List.map_cons, List.foldl_cons, foldl_add0]; omega
theorem cntS_snoc (p : PtT) (l : List PtT) : cntS (l ++ [p]) = cntS l + mx1 p.mn := by
  unfold cntS
  rw [List.map_append, List.foldl_append]; rfl
theorem wdS_cons (p : PtT) (l : List PtT) : wdS (p :: l) = p.sz.toNat * mx1 p.mn + wdS l := by
  unfold wdS
  rw [List.map_cons, List.foldl_cons, foldl_add0]; omega
theorem wdS_snoc (p : PtT) (l : List PtT) : wdS (l ++ [p]) = wdS l + p.sz.toNat * mx1 p.mn := by
  unfold wdS
  rw [List.map_append, List.foldl_append]; rfl
theorem slt_at : ∀ (l : List PtT) (n : Nat), ((offs n l).flatMap slP).map (fun s => s.2.2) = List.range' n (cntS l)
  | [], n => rfl
  | p :: l, n => by
    show ((slP (p, n)) ++ (offs (n + mx1 p.mn) l).flatMap slP).map _ = _
    rw [List.map_append, slt_at l, cntS_cons, ← List.range'_append_1]
    congr 1
    unfold slP
    rw [List.map_map, List.range'_eq_map_range]
    rfl
theorem slt_len (l : List PtT) : (sltL l).length = cntS l := by
  have := congrArg List.length (slt_at l 0)
  rwa [List.length_map, List.length_range'] at this
theorem insB_perm {α : Type} (sz : α → Int) (x : α) : ∀ r : List α, (insB sz x r).Perm (x :: r)
  | [] => List.Perm.refl _
  | y :: r => by
    unfold insB
    split
    · exact ((insB_perm sz x r).cons y).trans (List.Perm.swap x y r)
    · exact List.Perm.refl _
theorem stb_perm {α : Type} (sz : α → Int) : ∀ l : List α, (stb sz l).Perm l := snoc_ind (p := fun l => (stb sz l).Perm l) (List.Perm.refl _) fun l x ih => by
  rw [stb_snoc]
  refine (List.reverse_perm _).trans ((insB_perm sz x _).trans ?_)
  refine (((List.reverse_perm _).trans ih).cons x).trans ?_
  exact (List.perm_append_singleton x l).symm
theorem wire_at (l : List PtT) : ((wireS l).map (fun s => s.2.2)).Perm (List.range (cntS l)) := by
  have h := (stb_perm slZ (sltL l)).map (fun s : SlT => s.2.2)
  unfold sltL at h
  rw [slt_at, ← List.range_eq_range'] at h
  exact h
theorem wire_len (l : List PtT) : (wireS l).length = cntS l := by unfold wireS; rw [stb_len, slt_len]
theorem slP_sz (p : PtT × Nat) : ∀ s ∈ slP p, slZ s = p.1.sz := fun s hs => by
  obtain ⟨j, _, rfl⟩ := List.mem_map.1 hs
  rfl
theorem slt_q {l : List PtT} (h : PtQ l) : ∀ s ∈ sltL l, szQ s.1 := fun s hs => by
  obtain ⟨p, hp, hs⟩ := List.mem_flatMap.1 hs
  have e : s.1 = p.1.sz := slP_sz p s hs
  rw [e]
  exact h _ (offs_mem l 0 p hp)
theorem wire_q {l : List PtT} (h : PtQ l) : ∀ s ∈ wireS l, szQ s.1 := fun s hs => slt_q h s ((stb_mem slZ _).1 hs)
/-- The slots of the parts, ordered: the slots, ordered. -/
theorem wire_flat {l : List PtT} (h : PtQ l) : wireS l = (wireP l).flatMap slP :=
  stb_flat (fun p : PtT × Nat => p.1.sz) slZ slP (offs 0 l) (fun p hp => h _ (offs_mem l 0 p hp)) (fun p _ s hs => slP_sz p s hs)
theorem any_right {n : Int} (h : szQ n) (sg : Bool) : rightF (anyF n sg) = true ∧ (anyF n sg).size = n := by
  rcases h with rfl | rfl | rfl | rfl <;> cases sg <;> decide
theorem rightL_map {L : List SlT} (h : ∀ s ∈ L, szQ s.1) : rightL (L.map fldOf) = true := by
  unfold rightL
  rw [List.all_eq_true]
  intro f hf
  obtain ⟨s, hs, rfl⟩ := List.mem_map.1 hf
  exact (any_right (h s hs) _).1
theorem sumL_map {L : List SlT} (h : ∀ s ∈ L, szQ s.1) : (sumL (L.map fldOf) : Nat) = (L.map fun s => s.1.toNat).foldl (· + ·) 0 := by
  unfold sumL
  rw [List.map_map]
  congr 1
  refine List.map_congr_left fun s hs => ?_
  show (anyF s.1 s.2.1).size.toNat = _
  rw [(any_right (h s hs) _).2]
theorem foldl_perm {l l' : List Nat} (h : l.Perm l') : l.foldl (· + ·) 0 = l'.foldl (· + ·) 0 := by
  induction h with
  | nil => rfl
  | cons x _ ih => rw [List.foldl_cons, List.foldl_cons, foldl_add0, foldl_add0 _ (0 + x), ih]
  | swap x y l => rw [List.foldl_cons, List.foldl_cons, List.foldl_cons, List.foldl_cons]; congr 1; omega
  | trans _ _ h1 h2 => rw [h1, h2]
theorem slP_wd (p : PtT × Nat) : ((slP p).map fun s => s.1.toNat).foldl (· + ·) 0 = p.1.sz.toNat * mx1 p.1.mn := by
  unfold slP
  rw [List.map_map]
  generalize mx1 p.1.mn = n
  induction n with
  | zero => rfl
  | succ n ih =>
    rw [List.range_succ, List.map_append, List.foldl_append, ih, Nat.mul_succ]
    rfl
theorem slt_wd : ∀ (l : List PtT) (n : Nat), (((offs n l).flatMap slP).map fun s => s.1.toNat).foldl (· + ·) 0 = wdS l
  | [], _ => rfl
  | p :: l, n => by
    show ((slP (p, n) ++ (offs (n + mx1 p.mn) l).flatMap slP).map _).foldl _ _ = _
    rw [List.map_append, List.foldl_append, foldl_add0, slt_wd l, slP_wd, wdS_cons]
/-- The fields are as wide as the parts. -/
theorem wire_wd {l : List PtT} (h : PtQ l) : sumL ((wireS l).map fldOf) = wdS l := by
  rw [sumL_map (wire_q h)]
  unfold wireS
  rw [foldl_perm ((stb_perm slZ (sltL l)).map (fun s : SlT => s.1.toNat))]
  exact slt_wd l 0

/-! ### put -/
def putSE (l : List PtT) (v : List Int) : Nat := if v.length = cntS l then shE ((wireS l).map fldOf) ((wireS l).map (valOf v)) else 1
def putSB (l : List PtT) (v : List Int) : List UInt8 := if v.length = cntS l then shP ((wireS l).map fldOf) ((wireS l).map (valOf v)) else []
theorem inAll_app {A B : List FieldV} {a b : List Int} (h : A.length = a.length) : inAll (A ++ B) (a ++ b) = (inAll A a && inAll B b) := by
  unfold inAll
  rw [List.zip_append h, List.all_append]
theorem shB_app {A B : List FieldV} {a b : List Int} (h : A.length = a.length) : shB (A ++ B) (a ++ b) = shB A a ++ shB B b := by
  unfold shB
  rw [List.zip_append h, List.flatMap_append]
theorem rightL_app (A B : List FieldV) : rightL (A ++ B) = (rightL A && rightL B) := by unfold rightL; rw [List.all_append]
/-- Part by part, as the document has it. -/
def okP (v : List Int) (p : PtT × Nat) : Bool := inAll ((slP p).map fldOf) ((slP p).map (valOf v))
def byP (v : List Int) (p : PtT × Nat) : List UInt8 := shB ((slP p).map fldOf) ((slP p).map (valOf v))
theorem inAll_flat (v : List Int) : ∀ L : List (PtT × Nat), inAll ((L.flatMap slP).map fldOf) ((L.flatMap slP).map (valOf v)) = L.all (okP v)
  | [] => rfl
  | p :: L => by
    rw [List.flatMap_cons, List.map_append, List.map_append, inAll_app (by simp), inAll_flat v L, List.all_cons]; rfl
theorem shB_flat (v : List Int) : ∀ L : List (PtT × Nat), shB ((L.flatMap slP).map fldOf) ((L.flatMap slP).map (valOf v)) = L.flatMap (byP v)
  | [] => rfl
  | p :: L => by
    rw [List.flatMap_cons, List.map_append, List.map_append, shB_app (by simp), shB_flat v L, List.flatMap_cons]; rfl
theorem putSE_flat {l : List PtT} {v : List Int} (h : PtQ l) (hv : v.length = cntS l) : putSE l v = if (wireP l).all (okP v) = true then 0 else 5 := by
  unfold putSE shE
  rw [if_pos hv, if_pos ⟨rightL_map (wire_q h), by simp⟩, wire_flat h, inAll_flat]
theorem putSB_flat {l : List PtT} {v : List Int} (h : PtQ l) (hv : v.length = cntS l) : putSB l v = if (wireP l).all (okP v) = true then (wireP l).flatMap (byP v) else [] := by
  have he := putSE_flat h hv
  unfold putSE at he
  rw [if_pos hv] at he
  unfold putSB shP
  rw [if_pos hv, he, wire_flat h, shB_flat]
  by_cases ho : (wireP l).all (okP v) = true
  · rw [if_pos ho, if_pos ho, if_pos rfl]
  · rw [if_neg ho, if_neg ho, if_neg (by omega)]

/-! ### take -/
/-- Numbers laid at their places. -/
def scat (o : List Int) (L : List (Nat × Int)) : List Int := L.foldl (fun o p => o.set p.1 p.2) o
theorem scat_len : ∀ (L : List (Nat × Int)) (o : List Int), (scat o L).length = o.length
  | [], _ => rfl
  | p :: L, o => by
    show (scat (o.set p.1 p.2) L).length = _
    rw [scat_len L, List.length_set]
theorem scat_app (o : List Int) (L L' : List (Nat × Int)) : scat o (L ++ L') = scat (scat o L) L' := by unfold scat; rw [List.foldl_append]
theorem scat_not : ∀ (L : List (Nat × Int)) (o : List Int) (k : Nat), (∀ p ∈ L, p.1 ≠ k) → (scat o L)[k]? = o[k]?
  | [], _, _, _ => rfl
  | p :: L, o, k, h => by
    show (scat (o.set p.1 p.2) L)[k]? = _
    rw [scat_not L _ k (fun q hq => h q (List.mem_cons_of_mem _ hq)), List.getElem?_set_ne (h p List.mem_cons_self)]
theorem scat_at : ∀ (L : List (Nat × Int)) (o : List Int), (L.map Prod.fst).Nodup → ∀ p ∈ L, p.1 < o.length → (scat o L)[p.1]? = some p.2
  | [], _, _, _, h, _ => by cases h
  | q :: L, o, hn, p, hp, hl => by
    rw [List.map_cons, List.nodup_cons] at hn
    show (scat (o.set q.1 q.2) L)[p.1]? = _
    rcases List.mem_cons.1 hp with rfl | hp
    · rw [scat_not L _ _ (fun r hr e => hn.1 (List.mem_map.2 ⟨r, hr, e⟩)), List.getElem?_set_self hl]
    · exact scat_at L _ hn.2 p hp (by rw [List.length_set]; exact hl)
def atsS (l : List PtT) : List Nat := (wireS l).map fun s => s.2.2
def takSE (l : List PtT) (b : List UInt8) : Nat := shTE ((wireS l).map fldOf) b
def takSV (l : List PtT) (b : List UInt8) : List Int := if takSE l b = 0 then scat (List.replicate (cntS l) 0) ((atsS l).zip (takeV ((wireS l).map fldOf) b)) else []
theorem ats_nodup (l : List PtT) : (atsS l).Nodup := (wire_at l).nodup_iff.2 List.nodup_range
theorem ats_mem (l : List PtT) (k : Nat) : k ∈ atsS l ↔ k < cntS l := by unfold atsS; rw [(wire_at l).mem_iff, List.mem_range]
theorem ats_len (l : List PtT) : (atsS l).length = cntS l := by unfold atsS; rw [List.length_map, wire_len]
/-- What is laid at the places of the wire is read there. -/
theorem scat_read (l : List PtT) (V : List Int) (hV : V.length = cntS l) : (atsS l).map (fun k => (scat (List.replicate (cntS l) 0) ((atsS l).zip V)).getD k 0) = V := by
  have hz : ((atsS l).zip V).map Prod.fst = atsS l := by rw [List.map_fst_zip (by rw [ats_len, hV]; exact Nat.le_refl _)]
  refine List.ext_getElem? fun i => ?_
  rw [List.getElem?_map]
  by_cases hi : i < cntS l
  · obtain ⟨a, h1⟩ : ∃ a, (atsS l)[i]? = some a := ⟨_, List.getElem?_eq_getElem (by rw [ats_len]; exact hi)⟩
    obtain ⟨x, h2⟩ : ∃ x, V[i]? = some x := ⟨_, List.getElem?_eq_getElem (by omega)⟩
    have hm : (a, x) ∈ (atsS l).zip V := by
      refine List.mem_of_getElem? (i := i) ?_
      rw [List.getElem?_zip_eq_some]
      exact ⟨h1, h2⟩
    have h3 := scat_at ((atsS l).zip V) (List.replicate (cntS l) 0) (by rw [hz]; exact ats_nodup l) _ hm (by rw [List.length_replicate]; exact (ats_mem l _).1 (List.mem_of_getElem? h1))
    show _ = _
    rw [h1, h2, Option.map_some, List.getD_eq_getElem?_getD, h3]
    rfl
  · rw [List.getElem?_eq_none (by rw [ats_len]; omega), List.getElem?_eq_none (by omega)]; rfl
/-- What is read at the places and laid there is as it was. -/
theorem scat_back (l : List PtT) (v : List Int) (hv : v.length = cntS l) : scat (List.replicate (cntS l) 0) ((atsS l).zip ((atsS l).map fun k => v.getD k 0)) = v := by
  refine List.ext_getElem? fun k => ?_
  by_cases hk : k < cntS l
  · have hm := (ats_mem l k).2 hk
    obtain ⟨i, hi⟩ := List.getElem?_of_mem hm
    have hz : ((atsS l).zip ((atsS l).map fun k => v.getD k 0)).map Prod.fst = atsS l := by rw [List.map_fst_zip (by rw [List.length_map]; exact Nat.le_refl _)]
    have hmm : (k, v.getD k 0) ∈ (atsS l).zip ((atsS l).map fun k => v.getD k 0) := by
      refine List.mem_of_getElem? (i := i) ?_
      rw [List.getElem?_zip_eq_some]
      exact ⟨hi, by rw [List.getElem?_map, hi]; rfl⟩
    have h3 := scat_at _ (List.replicate (cntS l) 0) (by rw [hz]; exact ats_nodup l) _ hmm (by rw [List.length_replicate]; exact hk)
    rw [h3, List.getElem?_eq_getElem (by omega), List.getD_eq_getElem?_getD, List.getElem?_eq_getElem (by omega)]
    rfl
  · rw [List.getElem?_eq_none (by rw [scat_len, List.length_replicate]; omega), List.getElem?_eq_none (by omega)]
theorem val_ats (l : List PtT) (v : List Int) : (wireS l).map (valOf v) = (atsS l).map fun k => v.getD k 0 := by unfold atsS; rw [List.map_map]; rfl
/-- There and back. -/
theorem sch_there {l : List PtT} {v : List Int} (hq : PtQ l) (h : putSE l v = 0) : takSE l (putSB l v) = 0 ∧ takSV l (putSB l v) = v ∧ (putSB l v).length = wdS l ∧ v.length = cntS l := by
  unfold putSE at h
  by_cases hv : v.length = cntS l
  · rw [if_pos hv] at h
    obtain ⟨h1, h2, h3⟩ := shape_there h
    have hb : putSB l v = shP ((wireS l).map fldOf) ((wireS l).map (valOf v)) := by unfold putSB; rw [if_pos hv]
    have h4 : takSE l (putSB l v) = 0 := by rw [hb]; exact h1
    refine ⟨h4, ?_, ?_, hv⟩
    · unfold takSV
      rw [if_pos h4, hb]
      unfold shT at h2
      rw [if_pos h1] at h2
      rw [h2, val_ats, scat_back l v hv]
    · rw [hb, h3]
      unfold widthL
      rw [if_pos (rightL_map (wire_q hq)), wire_wd hq]
  · rw [if_neg hv] at h; cases h
theorem sch_back {l : List PtT} {b : List UInt8} (h : takSE l b = 0) : putSE l (takSV l b) = 0 ∧ putSB l (takSV l b) = b ∧ (takSV l b).length = cntS l := by
  have hl : (takSV l b).length = cntS l := by unfold takSV; rw [if_pos h, scat_len, List.length_replicate]
  obtain ⟨h1, h2, h3⟩ := shape_back h
  have hw : (wireS l).map (valOf (takSV l b)) = shT ((wireS l).map fldOf) b := by
    rw [val_ats]
    unfold takSV
    rw [if_pos h]
    have e : shT ((wireS l).map fldOf) b = takeV ((wireS l).map fldOf) b := by unfold shT; exact if_pos h
    rw [e]
    exact scat_read l _ (by rw [takeV_len, List.length_map, wire_len])
  refine ⟨?_, ?_, hl⟩
  · unfold putSE; rw [if_pos hl, hw]; exact h1
  · unfold putSB; rw [if_pos hl, hw]; exact h2

end Go.Proofs.YtonejdjhdjckjaaGreat
