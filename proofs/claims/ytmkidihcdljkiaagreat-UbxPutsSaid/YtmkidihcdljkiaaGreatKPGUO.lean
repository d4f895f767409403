/-
  Several texts in one: SatsOpen ValOpen UbxOpen.
-/
import Derived.Test.YtmkidihcdljkiaaGreatKPGE
import Derived.Test.YtmkidihcdljkiaaGreatKPGSU
import Derived.Test.YtmkidihcdljkiaaGreatKPVal2
import Derived.Test.YtmkidihcdljkiaaGreatKPGA
import Derived.Test.YtmkidihcdljkiaaGreatKPGUA
/-
  A message of layer 17 that came in, opened (printed by gen_satsopen.py).
-/
set_option linter.unusedSimpArgs false
set_option linter.unusedVariables false
namespace Go.Proofs.YtmkidihcdljkiaaGreat
open Go.RowKit Go.ChangeShapes Go.WideShapes Go.ChangeAt

section
variable {H : Type} {enc : TypeId × Value → H} {W : World}
/-- A satellite's numbers. -/
def satQ (s : List Int) : Prop := s.length = 7 ∧ ∀ z ∈ s, -9223372036854775808 ≤ z ∧ z ≤ 9223372036854775807
set_option maxRecDepth 10000 in
theorem sat_of (m : Nat) (cs : List Value) (y : DataW H × List MemPlace) (hl : cs.length = 7) (h : DataW.trod enc Tryz.prog W 0 (fun _ => true) true m 99 cs = some y) :
    ∃ s : List Int, satQ s ∧ cs = saC s := by
  match cs, hl with
  | [v0, v1, v2, v3, v4, v5, v6], _ =>
    obtain ⟨xs, k, _, _, _, hxl, hfs⟩ := DataW.trod_struct Tryz.underlying99 h
    have hxl : xs.length = 7 := hxl
    have t0 := hfs 0 _ rfl
    rw [List.getElem?_eq_getElem (by omega)] at t0
    have t0 : DataW.trod enc Tryz.prog W 0 (fun _ => true) true k 2 [v0] = some xs[0] := t0
    obtain ⟨z0, e0, _, w0⟩ := DataW.trod_int Tryz.underlying2 t0
    injection e0 with e0
    subst e0
    have t1 := hfs 1 _ rfl
    rw [List.getElem?_eq_getElem (by omega)] at t1
    have t1 : DataW.trod enc Tryz.prog W 0 (fun _ => true) true k 2 [v1] = some xs[1] := t1
    obtain ⟨z1, e1, _, w1⟩ := DataW.trod_int Tryz.underlying2 t1
    injection e1 with e1
    subst e1
    have t2 := hfs 2 _ rfl
    rw [List.getElem?_eq_getElem (by omega)] at t2
    have t2 : DataW.trod enc Tryz.prog W 0 (fun _ => true) true k 2 [v2] = some xs[2] := t2
    obtain ⟨z2, e2, _, w2⟩ := DataW.trod_int Tryz.underlying2 t2
    injection e2 with e2
    subst e2
    have t3 := hfs 3 _ rfl
    rw [List.getElem?_eq_getElem (by omega)] at t3
    have t3 : DataW.trod enc Tryz.prog W 0 (fun _ => true) true k 2 [v3] = some xs[3] := t3
    obtain ⟨z3, e3, _, w3⟩ := DataW.trod_int Tryz.underlying2 t3
    injection e3 with e3
    subst e3
    have t4 := hfs 4 _ rfl
    rw [List.getElem?_eq_getElem (by omega)] at t4
    have t4 : DataW.trod enc Tryz.prog W 0 (fun _ => true) true k 2 [v4] = some xs[4] := t4
    obtain ⟨z4, e4, _, w4⟩ := DataW.trod_int Tryz.underlying2 t4
    injection e4 with e4
    subst e4
    have t5 := hfs 5 _ rfl
    rw [List.getElem?_eq_getElem (by omega)] at t5
    have t5 : DataW.trod enc Tryz.prog W 0 (fun _ => true) true k 2 [v5] = some xs[5] := t5
    obtain ⟨z5, e5, _, w5⟩ := DataW.trod_int Tryz.underlying2 t5
    injection e5 with e5
    subst e5
    have t6 := hfs 6 _ rfl
    rw [List.getElem?_eq_getElem (by omega)] at t6
    have t6 : DataW.trod enc Tryz.prog W 0 (fun _ => true) true k 2 [v6] = some xs[6] := t6
    obtain ⟨z6, e6, _, w6⟩ := DataW.trod_int Tryz.underlying2 t6
    injection e6 with e6
    subst e6
    refine ⟨[z0, z1, z2, z3, z4, z5, z6], ⟨rfl, fun z hz => ?_⟩, rfl⟩
    simp only [List.mem_cons, List.not_mem_nil, or_false] at hz
    rcases hz with rfl | rfl | rfl | rfl | rfl | rfl | rfl
    · exact bounds_i64 w0
    · exact bounds_i64 w1
    · exact bounds_i64 w2
    · exact bounds_i64 w3
    · exact bounds_i64 w4
    · exact bounds_i64 w5
    · exact bounds_i64 w6
end

end Go.Proofs.YtmkidihcdljkiaaGreat

/-
  A message of layer 20 that came in, opened (printed by gen_val5.py).
-/
set_option linter.unusedSimpArgs false
set_option linter.unusedVariables false
namespace Go.Proofs.YtmkidihcdljkiaaGreat
open Go.RowKit Go.ChangeShapes Go.WideShapes Go.ChangeAt

section
variable {H : Type} {enc : TypeId × Value → H} {W : World}
/-- A pair's numbers. -/
def prQ (p : Int × Int) : Prop := (-9223372036854775808 ≤ p.1 ∧ p.1 ≤ 9223372036854775807) ∧ -9223372036854775808 ≤ p.2 ∧ p.2 ≤ 9223372036854775807
set_option maxRecDepth 10000 in
theorem pr_of (m : Nat) (cs : List Value) (y : DataW H × List MemPlace) (hl : cs.length = 2) (h : DataW.trod enc Tryz.prog W 0 (fun _ => true) true m 103 cs = some y) :
    ∃ s : Int × Int, prQ s ∧ cs = prC s := by
  match cs, hl with
  | [v0, v1], _ =>
    obtain ⟨xs, k, _, _, _, hxl, hfs⟩ := DataW.trod_struct Tryz.underlying103 h
    have hxl : xs.length = 2 := hxl
    have t0 := hfs 0 _ rfl
    rw [List.getElem?_eq_getElem (by omega)] at t0
    have t0 : DataW.trod enc Tryz.prog W 0 (fun _ => true) true k 2 [v0] = some xs[0] := t0
    obtain ⟨z0, e0, _, w0⟩ := DataW.trod_int Tryz.underlying2 t0
    injection e0 with e0
    subst e0
    have t1 := hfs 1 _ rfl
    rw [List.getElem?_eq_getElem (by omega)] at t1
    have t1 : DataW.trod enc Tryz.prog W 0 (fun _ => true) true k 2 [v1] = some xs[1] := t1
    obtain ⟨z1, e1, _, w1⟩ := DataW.trod_int Tryz.underlying2 t1
    injection e1 with e1
    subst e1
    exact ⟨(z0, z1), ⟨bounds_i64 w0, bounds_i64 w1⟩, rfl⟩
end

end Go.Proofs.YtmkidihcdljkiaaGreat

/-
  A message of the first protocol that came in, opened (printed by gen_ubxopen.py).
-/
set_option linter.unusedSimpArgs false
set_option linter.unusedVariables false
namespace Go.Proofs.YtmkidihcdljkiaaGreat
open Go.RowKit Go.ChangeShapes Go.WideShapes Go.ChangeAt

theorem list_ints {Q : Int → Prop} : ∀ (cs : List Value), (∀ v ∈ cs, ∃ z, v = .int .i64 z ∧ Q z) → ∃ xs : List Int, cs = i64s xs ∧ ∀ z ∈ xs, Q z
  | [], _ => ⟨[], rfl, by simp⟩
  | v :: cs, h => by
    obtain ⟨z, rfl, hz⟩ := h v List.mem_cons_self
    obtain ⟨xs, rfl, hx⟩ := list_ints cs (fun u hu => h u (List.mem_cons_of_mem _ hu))
    refine ⟨z :: xs, rfl, fun y hy => ?_⟩
    rcases List.mem_cons.1 hy with rfl | hy
    · exact hz
    · exact hx y hy
section
variable {H : Type} {enc : TypeId × Value → H} {W : World}
theorem ints_of {t : TypeId} {fs : Array Field} (ht : Tryz.prog.underlying t = some (.struct fs)) (hone : Go.Deep.oneCellFields Tryz.prog fs = true) (h64 : fs.toList.all (fun f => f.type == 2) = true)
    {m : Nat} {cs : List Value} {y : DataW H × List MemPlace} (hl : cs.length = fs.size) (h : DataW.trod enc Tryz.prog W 0 (fun _ => true) true m t cs = some y) :
    ∃ xs : List Int, cs = i64s xs ∧ ∀ z ∈ xs, -9223372036854775808 ≤ z ∧ z ≤ 9223372036854775807 := by
  obtain ⟨xs, k, _, _, hcl, hxl, hfs⟩ := DataW.trod_struct ht h
  refine list_ints cs fun v hv => ?_
  obtain ⟨j, hj, rfl⟩ := List.mem_iff_getElem.1 hv
  have hjf : j < fs.size := by omega
  have h1 := hfs j fs[j] (Array.getElem?_eq_getElem hjf)
  rw [List.getElem?_eq_getElem (show j < xs.length by omega)] at h1
  obtain ⟨ho, hc⟩ := Go.Deep.hone_of hone j fs[j] (Array.getElem?_eq_getElem hjf)
  have ht64 : fs[j].type = 2 := by
    have := List.all_eq_true.1 h64 fs[j] (by simp)
    simpa using this
  rw [ho, hc, ht64] at h1
  have e1 : (cs.drop j).take 1 = [cs[j]] := by rw [List.drop_eq_getElem_cons hj]; rfl
  rw [e1] at h1
  obtain ⟨z, e, _, wz⟩ := DataW.trod_int Tryz.underlying2 h1
  injection e with e
  exact ⟨z, e, bounds_i64 wz⟩
set_option maxRecDepth 10000 in
set_option maxHeartbeats 4000000 in
theorem open_ubx {b0 : Nat} {v : Value} {d : DataW H} {p : List MemPlace} (hv : Value.okWide Tryz.prog W .any b0 35 v) (h : DataW.Trod enc Tryz.prog W 0 (fun _ => true) true 35 v d p) :
    ∃ (V : UbV) (a : UbA), v = .agg (ubL V a).toArray ∧ UbOk V ∧ UbR W W.heap.size V a := by
  obtain ⟨cs, rfl, hs, hat⟩ := open_fields Tryz.underlying35 hv h
  have hs48 : cs.size = 48 := hs.trans (by kernel_rfl)
  obtain ⟨l⟩ := cs
  match l, hs48 with
  | ce0 :: ce1 :: ce2 :: ce3 :: ce4 :: ce5 :: ce6 :: ce7 :: ce8 :: ce9 :: ce10 :: ce11 :: ce12 :: ce13 :: ce14 :: ce15 :: ce16 :: ce17 :: ce18 :: ce19 :: ce20 :: ce21 :: ce22 :: ce23 :: ce24 :: ce25 :: ce26 :: ce27 :: ce28 :: ce29 :: ce30 :: ce31 :: ce32 :: ce33 :: ce34 :: ce35 :: ce36 :: ce37 :: ce38 :: ce39 :: ce40 :: ce41 :: ce42 :: ce43 :: ce44 :: ce45 :: ce46 :: ce47 :: [], _ =>
    obtain ⟨m0, y0, t0⟩ := hat 0 _ rfl
    have t0 : DataW.trod enc Tryz.prog W 0 (fun _ => true) true m0 3 [ce0] = some y0 := t0
    obtain ⟨m1, y1, t1⟩ := hat 1 _ rfl
    have t1 : DataW.trod enc Tryz.prog W 0 (fun _ => true) true m1 23 [ce1, ce2, ce3, ce4, ce5, ce6, ce7, ce8, ce9, ce10, ce11, ce12, ce13, ce14, ce15, ce16, ce17, ce18, ce19, ce20, ce21, ce22, ce23, ce24, ce25, ce26, ce27, ce28, ce29, ce30, ce31, ce32] = some y1 := t1
    obtain ⟨m2, y2, t2⟩ := hat 2 _ rfl
    have t2 : DataW.trod enc Tryz.prog W 0 (fun _ => true) true m2 26 [ce33, ce34] = some y2 := t2
    obtain ⟨m3, y3, t3⟩ := hat 3 _ rfl
    have t3 : DataW.trod enc Tryz.prog W 0 (fun _ => true) true m3 28 [ce35, ce36, ce37, ce38, ce39, ce40, ce41, ce42] = some y3 := t3
    obtain ⟨m4, y4, t4⟩ := hat 4 _ rfl
    have t4 : DataW.trod enc Tryz.prog W 0 (fun _ => true) true m4 30 [ce43, ce44, ce45] = some y4 := t4
    obtain ⟨m5, y5, t5⟩ := hat 5 _ rfl
    have t5 : DataW.trod enc Tryz.prog W 0 (fun _ => true) true m5 33 [ce46, ce47] = some y5 := t5
    obtain ⟨z0, e0, _, w0⟩ := DataW.trod_int Tryz.underlying3 t0
    injection e0 with e0
    subst e0
    obtain ⟨ps, hps, pb⟩ := ints_of Tryz.underlying23 (by kernel_rfl) (by kernel_rfl) rfl t1
    obtain ⟨ds, hds, db⟩ := ints_of Tryz.underlying28 (by kernel_rfl) (by kernel_rfl) rfl t3
    obtain ⟨xss, ks, _, _, _, hxls, hfss⟩ := DataW.trod_struct Tryz.underlying26 t2
    have hxls : xss.length = 2 := hxls
    have ss0 := hfss 0 _ rfl
    rw [List.getElem?_eq_getElem (by omega)] at ss0
    have ss0 : DataW.trod enc Tryz.prog W 0 (fun _ => true) true ks 2 [ce33] = some xss[0] := ss0
    have ss1 := hfss 1 _ rfl
    rw [List.getElem?_eq_getElem (by omega)] at ss1
    have ss1 : DataW.trod enc Tryz.prog W 0 (fun _ => true) true ks 24 [ce34] = some xss[1] := ss1
    obtain ⟨zt, et, _, wt⟩ := DataW.trod_int Tryz.underlying2 ss0
    injection et with et
    subst et
    obtain ⟨A, n, c, rfl, hn, hc, hel⟩ := cell_els Tryz.underlying24 Tryz.underlying99 (sz := 7) (by kernel_rfl) (by omega) ss1
    obtain ⟨sl, hr, hq⟩ := rows_of (C := saC) (Q := satQ) (fun x => by
      by_cases hx : satQ x
      · exact .inl (by simp [saC, hx.1])
      · exact .inr hx) hn hc (fun m cs y hl ht => sat_of m cs y hl ht) hel
    obtain ⟨xsa, ka, _, _, _, hxla, hfsa⟩ := DataW.trod_struct Tryz.underlying30 t4
    have hxla : xsa.length = 3 := hxla
    have sa0 := hfsa 0 _ rfl
    rw [List.getElem?_eq_getElem (by omega)] at sa0
    have sa0 : DataW.trod enc Tryz.prog W 0 (fun _ => true) true ka 4 [ce43] = some xsa[0] := sa0
    have sa1 := hfsa 1 _ rfl
    rw [List.getElem?_eq_getElem (by omega)] at sa1
    have sa1 : DataW.trod enc Tryz.prog W 0 (fun _ => true) true ka 2 [ce44] = some xsa[1] := sa1
    have sa2 := hfsa 2 _ rfl
    rw [List.getElem?_eq_getElem (by omega)] at sa2
    have sa2 : DataW.trod enc Tryz.prog W 0 (fun _ => true) true ka 2 [ce45] = some xsa[2] := sa2
    obtain ⟨bk, eb, _⟩ := DataW.trod_bool Tryz.underlying4 sa0
    obtain ⟨za1, ea1, _, wa1⟩ := DataW.trod_int Tryz.underlying2 sa1
    obtain ⟨za2, ea2, _, wa2⟩ := DataW.trod_int Tryz.underlying2 sa2
    injection eb with eb
    injection ea1 with ea1
    injection ea2 with ea2
    subst eb
    subst ea1
    subst ea2
    obtain ⟨xsv, kv, _, _, _, hxlv, hfsv⟩ := DataW.trod_struct Tryz.underlying33 t5
    have hxlv : xsv.length = 2 := hxlv
    have sv0 := hfsv 0 _ rfl
    rw [List.getElem?_eq_getElem (by omega)] at sv0
    have sv0 : DataW.trod enc Tryz.prog W 0 (fun _ => true) true kv 2 [ce46] = some xsv[0] := sv0
    have sv1 := hfsv 1 _ rfl
    rw [List.getElem?_eq_getElem (by omega)] at sv1
    have sv1 : DataW.trod enc Tryz.prog W 0 (fun _ => true) true kv 31 [ce47] = some xsv[1] := sv1
    obtain ⟨zl, el, _, wl⟩ := DataW.trod_int Tryz.underlying2 sv0
    injection el with el
    subst el
    obtain ⟨A', n', c', rfl, hn', hc', hel'⟩ := cell_els Tryz.underlying31 Tryz.underlying103 (sz := 2) (by kernel_rfl) (by omega) sv1
    obtain ⟨ql, hr', hq'⟩ := rows_of (C := prC) (Q := prQ) (fun x => .inl rfl) hn' hc' (fun m cs y hl ht => pr_of m cs y hl ht) hel'
    have hpl : ps.length = 32 := by rw [← i64s_len, ← hps]; rfl
    have hdl : ds.length = 8 := by rw [← i64s_len, ← hds]; rfl
    refine ⟨⟨z0, ps, zt, sl, ds, bk, za1, za2, zl, ql⟩, ⟨A, n, c, A', n', c'⟩, ?_, ⟨bounds_i64 w0, hpl, pb, bounds_i64 wt, fun s hs => (hq s hs).1, fun s hs => (hq s hs).2, hdl, db, bounds_i64 wa1, bounds_i64 wa2, bounds_i64 wl, fun p hp => hq' p hp⟩, ⟨hr, hr'⟩⟩
    unfold ubL
    simp only
    rw [← hps, ← hds]
    rfl
end

end Go.Proofs.YtmkidihcdljkiaaGreat
