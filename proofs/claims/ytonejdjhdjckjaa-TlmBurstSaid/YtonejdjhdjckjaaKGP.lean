/-
  Several texts in one: Sch13 Sch14.
-/
import Derived.Test.YtonejdjhdjckjaaKGL
import Derived.Test.YtonejdjhdjckjaaKGE
/-
  schema.Extra walked (printed by gen_sch6.py).
-/
set_option linter.unusedSimpArgs false
set_option linter.unusedVariables false
namespace Go.Proofs.Ytonejdjhdjckjaa
open Go.RowKit NumLaw
attribute [local go_sem] Addr.add_mid
attribute [-go_sem] run_eql_struct run_neq_struct

open CrcLaw
set_option maxRecDepth 10000 in
set_option maxHeartbeats 8000000 in
theorem extra_any (id : Int) (w : World) : Calls Try.prog 24 #[.int .i64 id] w fun e w' => e = .returned (.int .u8 (exS (frm id))) ∧ Below w.heap.size w w' := by
  have hf := find_any id w
  have hN := frm_n id
  have hM := frm_nm id
  generalize frm id = p at *
  obtain ⟨nm, L⟩ := p
  have Hf := Lib.hid hf
  have HN := Lib.hid hN
  have HM := Lib.hid hM
  cases hem : nm.toList.isEmpty with
  | true =>
    have hv : exS (nm, L) = 0 := by unfold exS; rw [if_pos hem]
    have Hv := Lib.hid hv
    clear hf hN hM hv
    go_enter Try.func24, Try.ntmps24
    go_wp2_with fail
    go_fit Hf.out
    unfold RetFm
    rintro e w1 ⟨A, n, c, rfl, hr, hb⟩
    have a0 := heap_alloc_new w1 (.cells #[.string nm, .slice A n c] 65)
    have k0 := blk_cell (i := 0) (v := .string nm) a0 rfl
    have hb2 := hb.alloc hb.size (.cells #[.string nm, .slice A n c] 65)
    go_wp2
    go_ret
    exact ⟨by rw [Hv.out]; rfl, hb2⟩
  | false =>
    have hv : exS (nm, L) = (((moreN 65535 (exB (nm, L)) % 256) ^^^ (moreN 65535 (exB (nm, L)) / 256) : Nat) : Int) := by unfold exS; rw [if_neg (by rw [hem]; exact Bool.false_ne_true)]
    have Hv := Lib.hid hv
    have hns : (nm ++ ⟨#[32]⟩).size ≤ 200 := by rw [ByteArray.size_append]; have h9 : nm.size ≤ 100 := HM.out.1; have : (⟨#[32]⟩ : ByteArray).size = 1 := rfl; omega
    have hsz1 : (nm ++ ⟨#[32]⟩ : ByteArray).size = nm.size + 1 := by rw [ByteArray.size_append]; rfl
    have Hsz1 := Lib.hid hsz1
    have Hns := Lib.hid hns
    have hnl : nm.size ≤ 100 := HM.out.1
    have hnl1 : nm.size + 1 ≤ 9223372036854775807 := by omega
    have hnl2 : ¬ 9223372036854775807 < nm.size + 1 := by omega
    have hcv := fun w => Lib.run_convert_string_bytes (P := Try.prog) w 9 36 5 (nm ++ ⟨#[32]⟩) Try.underlying9 Try.underlying36 Try.underlying5
    clear hf hN hM hv hns hsz1
    go_enter Try.func24, Try.ntmps24
    go_wp2_with fail
    go_fit Hf.out
    unfold RetFm
    rintro e w1 ⟨A, n, c, rfl, hr, hb⟩
    have a0 := heap_alloc_new w1 (.cells #[.string nm, .slice A n c] 65)
    have k0 := blk_cell (i := 0) (v := .string nm) a0 rfl
    have k1 := blk_cell (i := 1) (v := .slice A n c) a0 rfl
    have hba : Below w1.heap.size w1 (w1.alloc (.cells #[.string nm, .slice A n c] 65)) := (Below.refl _ _).alloc (Nat.le_refl _) _
    have hb2 := bnx hb hba
    have hlt := blk_lt a0
    have hs2 : (w1.alloc (.cells #[.string nm, .slice A n c] 65)).heap.size = w1.heap.size + 1 := World.size_alloc _ _
    have Hs2 := Lib.hid hs2
    clear hs2
    have hr2 := RdR.more (RdR.up hr hba) hba.size
    clear hr hb hba a0
    go_wp2_with fail
    generalize (w1.alloc (.cells #[.string nm, .slice A n c] 65)) = w2 at *
    have hrd := rd_bytes w2 5 (nm ++ ⟨#[32]⟩) (by have := Hns.out; unfold maxLen; omega)
    rw [Hsz1.out] at hrd
    have hbb := below_bytes w2 5 (nm ++ ⟨#[32]⟩)
    have hbsz : w2.heap.size + 1 ≤ (Lib.bytesWorld w2 5 (nm ++ ⟨#[32]⟩)).heap.size := Nat.le_of_eq (Lib.bytesWorld_size _ _ _).symm
    rw [Hs2.out] at hrd hbsz
    go_fit (more_any 65535 _ _ _ _ _ _ (by omega) hrd hbsz)
    rintro e w3 ⟨rfl, hbx⟩
    have hb23 := bnx hbb hbx
    have hb3 := bnx hb2 hb23
    have q1 := (hb23.cell (p := ⟨w1.heap.size, 1, none⟩) hlt).trans k1
    have hr3 : RdP w3 w3.heap.size A n c L := RdR.more (RdR.up hr2 hb23) hb23.size
    have hn : n ≤ 1000 := by rw [← hr3.len]; have := HN.out.2.1; omega
    clear hrd hbb hbsz hbx hb23 hb2 k0 k1 hr2 hcv
    go_wp2_with fail
    go_fit (wire31_any A n c L w3 hr3 hn)
    rintro e w4 ⟨A4, c4, rfl, hr4, hbx⟩
    have hb4 := bnx hb3 hbx
    have hmx := hr4.2.2.2.1
    have hle := hr4.2.2.1
    unfold maxLen at hmx
    obtain ⟨W, hW⟩ : ∃ W, W = stb PtT.sz L := ⟨_, rfl⟩
    rw [← hW] at hr4
    have hWN : ∀ x ∈ W, szQ x.sz ∧ mx1 x.mn ≤ 100 ∧ x.nm.size ≤ 100 := fun x hx => by
      rw [hW] at hx
      have hx := (stb_mem PtT.sz L).1 hx
      exact ⟨HN.out.1 x hx, HN.out.2.2 x hx, HM.out.2.1 x hx⟩
    have HWN := Lib.hid hWN
    have HW := Lib.hid hW
    have Hll := Lib.hid hr4.len
    have hm0 : moreN 65535 (sbL (nm ++ ⟨#[32]⟩)) < 65536 := moreN_lt _ (by omega)
    obtain ⟨d0, hd0⟩ : ∃ d, d = moreN 65535 (sbL (nm ++ ⟨#[32]⟩)) := ⟨_, rfl⟩
    rw [← hd0] at hm0 ⊢
    have Hd0 := Lib.hid hd0
    clear hbx hb3 q1 hr3 hlt hW hWN hd0
    go_wp2_with fail
    go_loopw [4, 21] (fun cc i wr => ∃ k d : Nat, k ≤ n ∧ i = .int .i64 k ∧ cc = .int .u16 (d : Int) ∧ d < 65536 ∧ Hid (d = moreN 65535 (sbL (nm ++ ⟨#[32]⟩) ++ (W.take k).flatMap emL)) ∧ Below w4.heap.size w4 wr) (fun _ i _ => n - (intOf i).toNat)
    case atStart => exact ⟨0, d0, by omega, rfl, rfl, hm0, Lib.hid (by rw [Hd0.out]; simp), Below.refl _ _⟩
    case round =>
      obtain ⟨k, d, hk, rfl, rfl, hd, Hd, hb⟩ := hrel
      by_cases hlt : k < n
      · have hlt' : (k : Int) < (n : Int) := by omega
        obtain ⟨g, off, x, rfl, hg, hx, hr⟩ := RdP.at_ hr4 hlt
        have k0 := (hb.cell (p := ⟨g, off + k * 4 + 0, none⟩) hg).trans (hr 0 _ rfl)
        have k1 := (hb.cell (p := ⟨g, off + k * 4 + 1, none⟩) hg).trans (hr 1 _ rfl)
        have k2 := (hb.cell (p := ⟨g, off + k * 4 + 2, none⟩) hg).trans (hr 2 _ rfl)
        have k3 := (hb.cell (p := ⟨g, off + k * 4 + 3, none⟩) hg).trans (hr 3 _ rfl)
        rw [Nat.add_zero] at k0
        obtain ⟨hz, hm, hnl⟩ := HWN.out x (List.mem_of_getElem? hx)
        have hwd := fun w => word_any x hz w
        have hes := emS_le hz hnl
        have hfl : (W.take (k + 1)).flatMap emL = (W.take k).flatMap emL ++ emL x := by rw [take_succ hx, List.flatMap_append]; simp
        have Hfl := Lib.hid hfl
        obtain ⟨s, z, g1, m⟩ := x
        have hem2 : emS ⟨s, z, g1, m⟩ = wordS z g1 ++ ⟨#[32]⟩ ++ s ++ ⟨#[32]⟩ := rfl
        have hel : emL ⟨s, z, g1, m⟩ = sbL (emS ⟨s, z, g1, m⟩) ++ if 0 < m then [UInt8.ofNat m.toNat] else [] := rfl
        dsimp only at k0 k1 k2 k3 hm
        have hwd2 : ∀ w, Calls Try.prog 54 #[.agg (ptC ⟨s, z, g1, m⟩).toArray] w fun e w' => e = .returned (.string (wordS z g1)) ∧ Below w.heap.size w w' := hwd
        have hwl : (wordS z g1).size ≤ 8 := word_le hz g1
        have hsl : s.size ≤ 100 := hnl
        generalize wordS z g1 = wz at *
        have hq1 : wz.size + 1 ≤ 9223372036854775807 := by omega
        have hq2 : wz.size + 1 + s.size ≤ 9223372036854775807 := by omega
        have hq3 : wz.size + 1 + s.size + 1 ≤ 9223372036854775807 := by omega
        have hr1 : ¬ 9223372036854775807 < wz.size + 1 := by omega
        have hr2 : ¬ 9223372036854775807 < wz.size + 1 + s.size := by omega
        have hr3 : ¬ 9223372036854775807 < wz.size + 1 + s.size + 1 := by omega
        have hcv := fun w => Lib.run_convert_string_bytes (P := Try.prog) w 9 36 5 (wz ++ ⟨#[32]⟩ ++ s ++ ⟨#[32]⟩) Try.underlying9 Try.underlying36 Try.underlying5
        rw [hem2] at hes hel
        have Hel := Lib.hid hel
        have Hes := Lib.hid hes
        have Hwd := Lib.hid hwd2
        have Hmx := Lib.hid hm
        have hbn : Below wr.heap.size wr (wr.alloc (.cells #[.string s, .int .i64 z, .bool g1, .int .i64 m] 28)) := (Below.refl _ _).alloc (Nat.le_refl _) _
        have a0 := heap_alloc_new wr (.cells #[.string s, .int .i64 z, .bool g1, .int .i64 m] 28)
        have hb0 : wr.heap.size < (wr.alloc (.cells #[.string s, .int .i64 z, .bool g1, .int .i64 m] 28)).heap.size := blk_lt a0
        have hrow : (wr.alloc (.cells #[.string s, .int .i64 z, .bool g1, .int .i64 m] 28)).rangeAt wr.heap.size 0 (ptC ⟨s, z, g1, m⟩) := fun j v hv => blk_cell (i := 0 + j) a0 (by rw [Nat.zero_add]; simpa [ptC] using hv)
        have hb5 := bnx hb hbn
        clear hb hbn a0 hx hr hwd hwd2 hem2 hel hes hm hfl hz hnl
        go_wp2_with fail
        generalize (wr.alloc (.cells #[.string s, .int .i64 z, .bool g1, .int .i64 m] 28)) = w5 at *
        obtain ⟨b0, hbb⟩ : ∃ b, b = wr.heap.size := ⟨_, rfl⟩
        rw [← hbb] at hb0 hrow ⊢
        have Hrow := Lib.hid (show ∀ w', Below w5.heap.size w5 w' → w'.rangeAt b0 0 (ptC ⟨s, z, g1, m⟩) from fun w' hb' j v hv => (hb'.cell (p := ⟨b0, 0 + j, none⟩) hb0).trans (hrow j v hv))
        have Hnm := Lib.hid (show ∀ w', Below w5.heap.size w5 w' → w'.cell? ⟨b0, 0, none⟩ = some (.string s) from fun w' hb' => Hrow.out w' hb' 0 _ rfl)
        have Hmn := Lib.hid (show ∀ w', Below w5.heap.size w5 w' → w'.cell? ⟨b0, 3, none⟩ = some (.int .i64 m) from fun w' hb' => Hrow.out w' hb' 3 _ rfl)
        clear k0 k1 k2 k3 hrow hbb
        refine Ord.region_ (fun w' => Below w5.heap.size w5 w') false [] (by kernel_rfl) (by kernel_rfl) (Below.refl _ _).drew ?_
        have hS : Below w5.heap.size w5 w5.drew := (Below.refl _ _).drew
        generalize w5.drew = wd at *
        ((with_reducible refine Ord.e_p (v := ?_) ?_ ?_ ?_ ?_); rotate_left; (· exact rfl); (· kernel_rfl); (· intro w2; go_simp; try with_reducible rfl))
        (try simp only [Act.put, List.setIfInBounds_toArray, List.set_cons_zero, List.set_cons_succ])
        refine Ord.e_rowS (cs := ptC ⟨s, z, g1, m⟩) (b := b0) (o := 0) Try.underlying28 rfl (by kernel_rfl) rfl (by simp [ptC]) (fun w' hS => Hrow.out w' hS) hS (by kernel_rfl) ?_
        (try simp only [Act.put, List.setIfInBounds_toArray, List.set_cons_zero, List.set_cons_succ])
        refine Ord.e_x rfl (by kernel_rfl) ?_
        go_wp2_with fail
        go_fit (Hwd.out wd)
        rintro e w6 ⟨rfl, hbx⟩
        replace hS := bnx hS hbx
        go_wp2_with fail
        refine Ord.Seg.go hS (fun h => by cases h) ?_
        (try simp only [Act.put, List.setIfInBounds_toArray, List.set_cons_zero, List.set_cons_succ])
        clear hbx
        ((with_reducible refine Ord.e_p (v := ?_) ?_ ?_ ?_ ?_); rotate_left; (· exact rfl); (· kernel_rfl); (· intro w2; go_simp; try with_reducible rfl))
        (try simp only [Act.put, List.setIfInBounds_toArray, List.set_cons_zero, List.set_cons_succ])
        ((with_reducible refine Ord.e_p (v := ?_) ?_ ?_ ?_ ?_); rotate_left; (· exact rfl); (· kernel_rfl); (· intro w2; go_simp; try with_reducible rfl))
        (try simp only [Act.put, List.setIfInBounds_toArray, List.set_cons_zero, List.set_cons_succ])
        refine Ord.e_loadS (ad := ⟨b0, 0, none⟩) Try.underlying9 rfl (fun w' hS => Hnm.out w' hS) hS rfl (by kernel_rfl) ?_
        (try simp only [Act.put, List.setIfInBounds_toArray, List.set_cons_zero, List.set_cons_succ])
        ((with_reducible refine Ord.e_p (v := ?_) ?_ ?_ ?_ ?_); rotate_left; (· exact rfl); (· kernel_rfl); (· intro w2; go_simp; try with_reducible rfl))
        (try simp only [Act.put, List.setIfInBounds_toArray, List.set_cons_zero, List.set_cons_succ])
        ((with_reducible refine Ord.e_p (v := ?_) ?_ ?_ ?_ ?_); rotate_left; (· exact rfl); (· kernel_rfl); (· intro w2; go_simp; try with_reducible rfl))
        (try simp only [Act.put, List.setIfInBounds_toArray, List.set_cons_zero, List.set_cons_succ])
        refine Ord.e_x (by kernel_rfl) (by kernel_rfl) ?_
        go_wp2_with fail
        refine Ord.Seg.go (bnx hS (below_bytes _ _ _)) (fun h => by cases h) ?_
        (try simp only [Act.put, List.setIfInBounds_toArray, List.set_cons_zero, List.set_cons_succ])
        have hrd := rd_bytes w6 5 (wz ++ ⟨#[32]⟩ ++ s ++ ⟨#[32]⟩) (by have := Hes.out; unfold maxLen; omega)
        have hsz : (wz ++ ⟨#[32]⟩ ++ s ++ ⟨#[32]⟩ : ByteArray).size = wz.size + 1 + s.size + 1 := by rw [ByteArray.size_append, ByteArray.size_append, ByteArray.size_append]; rfl
        rw [hsz] at hrd
        replace hS := bnx hS (below_bytes w6 5 (wz ++ ⟨#[32]⟩ ++ s ++ ⟨#[32]⟩))
        have hbsz : w6.heap.size + 1 ≤ (Lib.bytesWorld w6 5 (wz ++ ⟨#[32]⟩ ++ s ++ ⟨#[32]⟩)).heap.size := Nat.le_of_eq (Lib.bytesWorld_size _ _ _).symm
        refine Ord.e_x rfl (by kernel_rfl) ?_
        go_wp2_with fail
        go_fit (more_any d _ _ _ _ _ _ hd hrd hbsz)
        rintro e w7 ⟨rfl, hbx⟩
        replace hS := bnx hS hbx
        go_wp2_with fail
        refine Ord.Seg.go hS (fun h => by cases h) ?_
        (try simp only [Act.put, List.setIfInBounds_toArray, List.set_cons_zero, List.set_cons_succ])
        ((with_reducible refine Ord.e_p (v := ?_) ?_ ?_ ?_ ?_); rotate_left; (· exact rfl); (· kernel_rfl); (· intro w2; go_simp; try with_reducible rfl))
        (try simp only [Act.put, List.setIfInBounds_toArray, List.set_cons_zero, List.set_cons_succ])
        refine Ord.e_nil ?_
        have hb7 := bnx hb5 hS
        have hmn := Hmn.out w7 hS
        have hmx := Hmx.out
        obtain ⟨d1, hd1e⟩ : ∃ d1, d1 = moreN d (sbL (wz ++ ⟨#[32]⟩ ++ s ++ ⟨#[32]⟩)) := ⟨_, rfl⟩
        have hd1 : d1 < 65536 := by rw [hd1e]; exact moreN_lt _ hd
        rw [← hd1e]
        have Hd1 := Lib.hid hd1e
        clear hd1e hS hb5
        by_cases hm0 : 0 < m
        · obtain ⟨mm, rfl⟩ : ∃ mm : Nat, m = (mm : Int) := ⟨m.toNat, by omega⟩
          have hmm : mm < 256 := by unfold mx1 at hmx; split at hmx <;> omega
          have hw8 : IntKind.u8.wrap (mm : Int) = (mm : Int) := by rw [IntKind.wrap_u8']; omega
          have HN2 := Lib.hid (show moreN 65535 (sbL (nm ++ ⟨#[32]⟩) ++ (W.take (k + 1)).flatMap emL) = stepN d1 mm from by
            rw [Hfl.out, Hel.out, if_pos hm0, ← List.append_assoc, ← List.append_assoc, moreN_snoc, moreN_append, ← Hd.out, ← Hd1.out]
            have e1 : (UInt8.ofNat (mm : Int).toNat).toNat = mm := by rw [Int.toNat_natCast, UInt8.toNat_ofNat']; omega
            rw [e1])
          have hd2 : stepN d1 mm < 65536 := stepN_lt hd1 hmm
          go_wp2_with fail
          go_fit (step_any d1 mm w7 hd1 hmm)
          rintro e w8 ⟨rfl, rfl⟩
          go_wp2_with fail
          go_roundw
          case rel => exact ⟨k + 1, _, by omega, rfl, rfl, hd2, Lib.hid HN2.out.symm, hb7⟩
          case measure => simp [intOf]; omega
        · have HN2 := Lib.hid (show moreN 65535 (sbL (nm ++ ⟨#[32]⟩) ++ (W.take (k + 1)).flatMap emL) = d1 from by
            rw [Hfl.out, Hel.out, if_neg hm0, List.append_nil, ← List.append_assoc, moreN_append, ← Hd.out, ← Hd1.out])
          go_wp2_with fail
          go_roundw
          case rel => exact ⟨k + 1, _, by omega, rfl, rfl, hd1, Lib.hid HN2.out.symm, hb7⟩
          case measure => simp [intOf]; omega
      · obtain rfl : k = n := by omega
        have hWt : W.take k = W := List.take_of_length_le (by rw [Hll.out]; exact Nat.le_refl _)
        have hda : d = moreN 65535 (exB (nm, L)) := by
          rw [Hd.out, hWt]; show _ = moreN 65535 (sbL (nm ++ ⟨#[32]⟩) ++ (stb PtT.sz L).flatMap emL); rw [← HW.out]
        have hv := Hv.out
        rw [← hda] at hv
        have Hv2 := Lib.hid hv
        have hx := u8_xor_nat (d % 256) (d / 256) (by omega) (by omega)
        clear hda hv hWt
        go_wp2
        go_ret
        refine ⟨?_, bnx hb4 hb⟩
        rw [Hv2.out, ← hx]
        rfl

end Go.Proofs.Ytonejdjhdjckjaa

/-
  the document's Extra walked (printed by gen_sch6.py).
-/
set_option linter.unusedSimpArgs false
set_option linter.unusedVariables false
namespace Go.Proofs.Ytonejdjhdjckjaa
open Go.RowKit NumLaw
attribute [local go_sem] Addr.add_mid
attribute [-go_sem] run_eql_struct run_neq_struct

open CrcLaw
set_option maxRecDepth 10000 in
set_option maxHeartbeats 8000000 in
theorem qextra_any (id : Int) (w : World) : Calls Try.prog 25 #[.int .i64 id] w fun e w' => e = .returned (.int .u8 (exS (frm id))) ∧ Below w.heap.size w w' := by
  obtain ⟨i1, hi1⟩ := info_parts u8_info
  have Hi1 := Lib.hid hi1
  have hp := qparts_any id w
  have hnm := fun w => qname_any id w
  have hN := frm_n id
  have hM := frm_nm id
  generalize frm id = p at *
  obtain ⟨nm, L⟩ := p
  have Hp := Lib.hid hp
  have Hnn := Lib.hid hnm
  have HN := Lib.hid hN
  have HM := Lib.hid hM
  clear hi1 hp hnm
  cases hem : nm.toList.isEmpty with
  | true =>
    have hv : exS (nm, L) = 0 := by unfold exS; rw [if_pos hem]
    have Hv := Lib.hid hv
    have hL : L = [] := by have h := HM.out.2.2; rw [show (nm, L).1 = nm from rfl, hem] at h; exact List.isEmpty_iff.1 h.symm
    have HL := Lib.hid hL
    clear hN hM hv hL
    go_enter Try.func25, Try.ntmps25
    go_wp2_with fail
    go_fit Hp.out
    rintro e w1 ⟨A, n, c, rfl, hr, hb⟩
    have hn : n ≤ 100 := by rw [← hr.len]; exact HN.out.2.1
    have hll := hr.len
    have hmx0 := hr.2.2.2.1
    have hle0 := hr.2.2.1
    unfold maxLen at hmx0
    go_wp2_with fail
    go_fit (qwire31_any A n c L w1 hr (by omega))
    rintro e w2 ⟨A4, c4, rfl, hr4, hbx⟩
    have hb2 := bnx hb hbx
    have hmx := hr4.2.2.2.1
    have hle := hr4.2.2.1
    unfold maxLen at hmx
    clear hbx hb hr
    obtain rfl : n = 0 := by rw [← hll, HL.out]; rfl
    go_wp2
    go_ret
    exact ⟨by rw [Hv.out]; rfl, hb2⟩
  | false =>
    have hv : exS (nm, L) = (((moreN 65535 (exB (nm, L)) % 256) ^^^ (moreN 65535 (exB (nm, L)) / 256) : Nat) : Int) := by unfold exS; rw [if_neg (by rw [hem]; exact Bool.false_ne_true)]
    have Hv := Lib.hid hv
    have hL : 0 < L.length := by
      have h := HM.out.2.2
      rw [show (nm, L).1 = nm from rfl, hem] at h
      cases L with
      | nil => cases h
      | cons a b => exact Nat.succ_pos _
    have HL := Lib.hid hL
    have hns : (nm ++ ⟨#[32]⟩).size ≤ 200 := by rw [ByteArray.size_append]; have h9 : nm.size ≤ 100 := HM.out.1; have : (⟨#[32]⟩ : ByteArray).size = 1 := rfl; omega
    have hsz1 : (nm ++ ⟨#[32]⟩ : ByteArray).size = nm.size + 1 := by rw [ByteArray.size_append]; rfl
    have Hsz1 := Lib.hid hsz1
    have Hns := Lib.hid hns
    have hnl : nm.size ≤ 100 := HM.out.1
    have hnl1 : nm.size + 1 ≤ 9223372036854775807 := by omega
    have hnl2 : ¬ 9223372036854775807 < nm.size + 1 := by omega
    have hcv := fun w => Lib.run_convert_string_bytes (P := Try.prog) w 9 36 5 (nm ++ ⟨#[32]⟩) Try.underlying9 Try.underlying36 Try.underlying5
    clear hN hM hv hns hsz1 hL
    go_enter Try.func25, Try.ntmps25
    go_wp2_with fail
    go_fit Hp.out
    rintro e w1 ⟨A, n, c, rfl, hr, hb⟩
    have hn : n ≤ 100 := by rw [← hr.len]; exact HN.out.2.1
    have hll := hr.len
    have hmx0 := hr.2.2.2.1
    have hle0 := hr.2.2.1
    unfold maxLen at hmx0
    go_wp2_with fail
    go_fit (qwire31_any A n c L w1 hr (by omega))
    rintro e w2 ⟨A4, c4, rfl, hr4, hbx⟩
    have hb2 := bnx hb hbx
    have hmx := hr4.2.2.2.1
    have hle := hr4.2.2.1
    unfold maxLen at hmx
    clear hbx hb hr
    have hn0 : 0 < n := by rw [← hll]; exact HL.out
    have hnz : ((n : Int) == 0) = false := by rw [beq_eq_false_iff_ne]; omega
    clear hll
    go_wp2_with fail
    go_fit (Hnn.out w2)
    rintro e w3 ⟨rfl, rfl⟩
    obtain ⟨W, hW⟩ : ∃ W, W = stb PtT.sz L := ⟨_, rfl⟩
    rw [← hW] at hr4
    have hWN : ∀ x ∈ W, szQ x.sz ∧ mx1 x.mn ≤ 100 ∧ x.nm.size ≤ 100 := fun x hx => by
      rw [hW] at hx
      have hx := (stb_mem PtT.sz L).1 hx
      exact ⟨HN.out.1 x hx, HN.out.2.2 x hx, HM.out.2.1 x hx⟩
    have HWN := Lib.hid hWN
    have HW := Lib.hid hW
    have Hll := Lib.hid hr4.len
    have hown := OwB.bytes w2 5 (nm ++ ⟨#[32]⟩) w2.heap.size (Nat.le_refl _) (by have := Hns.out; unfold maxLen; omega)
    have hbb := below_bytes w2 5 (nm ++ ⟨#[32]⟩)
    rw [Hsz1.out] at hown
    clear hW hWN
    go_wp2_with fail
    try rw [Hsz1.out]
    generalize hcap : grownCap w2 (nm.size + 1) 0 5 = cp at *
    generalize (Lib.bytesWorld w2 5 (nm ++ ⟨#[32]⟩)) = w4 at *
    have Hown := Lib.hid (show OwB w4 w2.heap.size 5 (some ⟨w2.heap.size, 0, none⟩) (nm.size + 1) cp (bv (sbL (nm ++ ⟨#[32]⟩) ++ (W.take 0).flatMap emL)) from by simpa [bv, sbL] using hown)
    obtain ⟨n1, hn1⟩ : ∃ n1, n1 = nm.size + 1 := ⟨_, rfl⟩
    have hn1b : n1 ≤ 101 := by omega
    rw [← hn1] at Hown ⊢
    obtain ⟨A1, hA1⟩ : ∃ A1, A1 = some (⟨w2.heap.size, 0, none⟩ : Addr) := ⟨_, rfl⟩
    rw [← hA1] at Hown ⊢
    clear hcv hown hn1 hA1 hcap hnl hnl1 hnl2 Hsz1
    go_loopw [4, 5] (fun b i wr => ∃ (k n3 c3 : Nat) (A3 : Option Addr), k ≤ n ∧ i = .int .i64 k ∧ b = .slice A3 n3 c3 ∧ n3 ≤ 101 + 300 * k ∧ Below w2.heap.size w2 wr ∧ Hid (OwB wr w2.heap.size 5 A3 n3 c3 (bv (sbL (nm ++ ⟨#[32]⟩) ++ (W.take k).flatMap emL)))) (fun _ i _ => n - (intOf i).toNat)
    case atStart => exact ⟨0, n1, cp, A1, by omega, rfl, rfl, by omega, hbb, Hown⟩
    case round =>
      clear Hown hbb
      obtain ⟨k, n3, c3, A3, hk, rfl, rfl, hn3, hb, Hown⟩ := hrel
      by_cases hlt : k < n
      · have hlt' : (k : Int) < (n : Int) := by omega
        obtain ⟨g, off, x, rfl, hg, hx, hr⟩ := RdP.at_ hr4 hlt
        have Hrow := Lib.hid (show ∀ wq, Below w2.heap.size w2 wq → wq.rangeAt g (off + k * 4) (ptC x) from fun wq hbq j v hv => (hbq.cell (p := ⟨g, off + k * 4 + j, none⟩) hg).trans (hr j v hv))
        obtain ⟨hz, hm, hnl⟩ := HWN.out x (List.mem_of_getElem? hx)
        have hwd := fun w => qword_any x hz w
        have hes := emS_le hz hnl
        have hfl : (W.take (k + 1)).flatMap emL = (W.take k).flatMap emL ++ emL x := by rw [take_succ hx, List.flatMap_append]; simp
        have Hfl := Lib.hid hfl
        obtain ⟨s, z, g1, m⟩ := x
        have Hnm := Lib.hid (show ∀ wq, Below w2.heap.size w2 wq → wq.cell? ⟨g, off + k * 4, none⟩ = some (.string s) from fun wq hbq => Hrow.out wq hbq 0 _ rfl)
        have Hmn := Lib.hid (show ∀ wq, Below w2.heap.size w2 wq → wq.cell? ⟨g, off + k * 4 + 3, none⟩ = some (.int .i64 m) from fun wq hbq => Hrow.out wq hbq 3 _ rfl)
        have hem2 : emS ⟨s, z, g1, m⟩ = wordS z g1 ++ ⟨#[32]⟩ ++ s ++ ⟨#[32]⟩ := rfl
        have hel : emL ⟨s, z, g1, m⟩ = sbL (emS ⟨s, z, g1, m⟩) ++ if 0 < m then [UInt8.ofNat m.toNat] else [] := rfl
        dsimp only at hm
        have hwd2 : ∀ w, Calls Try.prog 56 #[.agg (ptC ⟨s, z, g1, m⟩).toArray] w fun e w' => e = .returned (.string (wordS z g1)) ∧ Below w.heap.size w w' := hwd
        have hwl : (wordS z g1).size ≤ 8 := word_le hz g1
        have hsl : s.size ≤ 100 := hnl
        generalize wordS z g1 = wz at *
        have hq1 : wz.size + 1 ≤ 9223372036854775807 := by omega
        have hq2 : wz.size + 1 + s.size ≤ 9223372036854775807 := by omega
        have hq3 : wz.size + 1 + s.size + 1 ≤ 9223372036854775807 := by omega
        have hr1 : ¬ 9223372036854775807 < wz.size + 1 := by omega
        have hr2 : ¬ 9223372036854775807 < wz.size + 1 + s.size := by omega
        have hr3 : ¬ 9223372036854775807 < wz.size + 1 + s.size + 1 := by omega
        have hcv := fun w => Lib.run_convert_string_bytes (P := Try.prog) w 9 36 5 (wz ++ ⟨#[32]⟩ ++ s ++ ⟨#[32]⟩) Try.underlying9 Try.underlying36 Try.underlying5
        rw [hem2] at hes hel
        have Hel := Lib.hid hel
        have Hes := Lib.hid hes
        have Hwd := Lib.hid hwd2
        have Hmx := Lib.hid hm
        clear hx hr hwd hwd2 hem2 hel hes hm hfl hz hnl
        go_wp2_with fail
        refine Ord.region_ (fun w' => Below w2.heap.size w2 w') false [] (by kernel_rfl) (by kernel_rfl) hb.drew ?_
        have hS : Below w2.heap.size w2 wr.drew := hb.drew
        have hB : w2.heap.size ≤ wr.drew.heap.size := hS.size
        replace Hown := Lib.hid (OwB.drew Hown.out)
        clear hb
        generalize wr.drew = wd at *
        ((with_reducible refine Ord.e_p (v := ?_) ?_ ?_ ?_ ?_); rotate_left; (· exact rfl); (· kernel_rfl); (· intro w2; go_simp; try with_reducible rfl))
        (try simp only [Act.put, List.setIfInBounds_toArray, List.set_cons_zero, List.set_cons_succ])
        ((with_reducible refine Ord.e_p (v := ?_) ?_ ?_ ?_ ?_); rotate_left; (· exact rfl); (· kernel_rfl); (· intro w2; go_simp; try with_reducible rfl))
        (try simp only [Act.put, List.setIfInBounds_toArray, List.set_cons_zero, List.set_cons_succ])
        ((with_reducible refine Ord.e_p (v := ?_) ?_ ?_ ?_ ?_); rotate_left; (· exact rfl); (· kernel_rfl); (· intro w2; go_simp; try with_reducible rfl))
        (try simp only [Act.put, List.setIfInBounds_toArray, List.set_cons_zero, List.set_cons_succ])
        ((with_reducible refine Ord.e_p (v := ?_) ?_ ?_ ?_ ?_); rotate_left; (· exact rfl); (· kernel_rfl); (· intro w2; go_simp; try with_reducible rfl))
        (try simp only [Act.put, List.setIfInBounds_toArray, List.set_cons_zero, List.set_cons_succ])
        refine Ord.e_rowS (cs := ptC ⟨s, z, g1, m⟩) (b := g) (o := off + k * 4) Try.underlying28 rfl (by kernel_rfl) rfl (by simp [ptC]) (fun w' hS => Hrow.out w' hS) hS (by kernel_rfl) ?_
        (try simp only [Act.put, List.setIfInBounds_toArray, List.set_cons_zero, List.set_cons_succ])
        refine Ord.e_x rfl (by kernel_rfl) ?_
        go_wp2_with fail
        go_fit (Hwd.out wd)
        rintro e w6 ⟨rfl, hbx⟩
        replace hS := bnx hS hbx
        replace Hown := Lib.hid (Hown.out.up hbx)
        go_wp2_with fail
        refine Ord.Seg.go hS (fun h => by cases h) ?_
        (try simp only [Act.put, List.setIfInBounds_toArray, List.set_cons_zero, List.set_cons_succ])
        clear hbx
        ((with_reducible refine Ord.e_p (v := ?_) ?_ ?_ ?_ ?_); rotate_left; (· exact rfl); (· kernel_rfl); (· intro w2; go_simp; try with_reducible rfl))
        (try simp only [Act.put, List.setIfInBounds_toArray, List.set_cons_zero, List.set_cons_succ])
        ((with_reducible refine Ord.e_p (v := ?_) ?_ ?_ ?_ ?_); rotate_left; (· exact rfl); (· kernel_rfl); (· intro w2; go_simp; try with_reducible rfl))
        (try simp only [Act.put, List.setIfInBounds_toArray, List.set_cons_zero, List.set_cons_succ])
        ((with_reducible refine Ord.e_p (v := ?_) ?_ ?_ ?_ ?_); rotate_left; (· exact rfl); (· kernel_rfl); (· intro w2; go_simp; try with_reducible rfl))
        (try simp only [Act.put, List.setIfInBounds_toArray, List.set_cons_zero, List.set_cons_succ])
        ((with_reducible refine Ord.e_p (v := ?_) ?_ ?_ ?_ ?_); rotate_left; (· exact rfl); (· kernel_rfl); (· intro w2; go_simp; try with_reducible rfl))
        (try simp only [Act.put, List.setIfInBounds_toArray, List.set_cons_zero, List.set_cons_succ])
        ((with_reducible refine Ord.e_p (v := ?_) ?_ ?_ ?_ ?_); rotate_left; (· exact rfl); (· kernel_rfl); (· intro w2; go_simp; try with_reducible rfl))
        (try simp only [Act.put, List.setIfInBounds_toArray, List.set_cons_zero, List.set_cons_succ])
        refine Ord.e_loadS (ad := ⟨g, off + k * 4, none⟩) Try.underlying9 rfl (fun w' hS => Hnm.out w' hS) hS rfl (by kernel_rfl) ?_
        (try simp only [Act.put, List.setIfInBounds_toArray, List.set_cons_zero, List.set_cons_succ])
        ((with_reducible refine Ord.e_p (v := ?_) ?_ ?_ ?_ ?_); rotate_left; (· exact rfl); (· kernel_rfl); (· intro w2; go_simp; try with_reducible rfl))
        (try simp only [Act.put, List.setIfInBounds_toArray, List.set_cons_zero, List.set_cons_succ])
        ((with_reducible refine Ord.e_p (v := ?_) ?_ ?_ ?_ ?_); rotate_left; (· exact rfl); (· kernel_rfl); (· intro w2; go_simp; try with_reducible rfl))
        (try simp only [Act.put, List.setIfInBounds_toArray, List.set_cons_zero, List.set_cons_succ])
        refine Ord.e_x (by kernel_rfl) (by kernel_rfl) ?_
        go_wp2_with fail
        refine Ord.Seg.go (bnx hS (below_bytes _ _ _)) (fun h => by cases h) ?_
        (try simp only [Act.put, List.setIfInBounds_toArray, List.set_cons_zero, List.set_cons_succ])
        have hrd := rd_bytes w6 5 (wz ++ ⟨#[32]⟩ ++ s ++ ⟨#[32]⟩) (by have := Hes.out; unfold maxLen; omega)
        have hsz : (wz ++ ⟨#[32]⟩ ++ s ++ ⟨#[32]⟩ : ByteArray).size = wz.size + 1 + s.size + 1 := by rw [ByteArray.size_append, ByteArray.size_append, ByteArray.size_append]; rfl
        rw [hsz] at hrd
        have hbb := below_bytes w6 5 (wz ++ ⟨#[32]⟩ ++ s ++ ⟨#[32]⟩)
        replace hS := bnx hS hbb
        replace Hown := Lib.hid (Hown.out.up hbb)
        refine Ord.e_x rfl (by kernel_rfl) ?_
        refine wpList_appB (base := w2.heap.size) (n := n3) Try.underlying36 Hi1.out rfl Hown.out rfl hrd (by omega) rfl (bv_one _) (k := n3 + (wz.size + 1 + s.size + 1)) rfl (bv_app _ _).symm (by unfold maxLen; omega) (by omega) hS.size ?_
        intro A7 c7 w7 own7 hbl hsz7
        replace hS := hbl hS (Nat.le_refl _)
        go_wp2_with fail
        refine Ord.Seg.go hS (fun h => by cases h) ?_
        (try simp only [Act.put, List.setIfInBounds_toArray, List.set_cons_zero, List.set_cons_succ])
        clear hbl hsz7 hrd hbb Hown hsz
        ((with_reducible refine Ord.e_p (v := ?_) ?_ ?_ ?_ ?_); rotate_left; (· exact rfl); (· kernel_rfl); (· intro w2; go_simp; try with_reducible rfl))
        (try simp only [Act.put, List.setIfInBounds_toArray, List.set_cons_zero, List.set_cons_succ])
        refine Ord.e_nil ?_
        have hmn := Hmn.out w7 hS
        have hmx2 := Hmx.out
        have hnb : w2.heap.size ≤ w7.heap.size := hS.size
        obtain ⟨n4, hn4⟩ : ∃ n4, n4 = n3 + (wz.size + 1 + s.size + 1) := ⟨_, rfl⟩
        have hn4b : n4 ≤ 101 + 300 * k + 150 := by omega
        rw [← hn4] at own7 ⊢
        clear hn4 hn3 hq1 hq2 hq3 hr1 hr2 hr3 hcv Hwd Hrow Hnm Hmn hwl hsl hB Hes
        by_cases hm0 : 0 < m
        · obtain ⟨mm, rfl⟩ : ∃ mm : Nat, m = (mm : Int) := ⟨m.toNat, by omega⟩
          have hmm : mm < 256 := by unfold mx1 at hmx2; split at hmx2 <;> omega
          have hw8 : IntKind.u8.wrap (mm : Int) = (mm : Int) := by rw [IntKind.wrap_u8']; omega
          have hrd : Rd (w7.alloc (.cells #[.int .u8 (mm : Int)] 5)) (w7.heap.size + 1) 1 (some ⟨w7.heap.size, 0, none⟩) 1 1 (bv [UInt8.ofNat mm]) := by
            have h := rd_const w7 5 [UInt8.ofNat mm] (0, 0) (by simp [maxLen])
            have e1 : (UInt8.ofNat mm).toNat = mm := by rw [UInt8.toNat_ofNat']; omega
            simpa [bv, e1] using h
          have hbn : Below w7.heap.size w7 (w7.alloc (.cells #[.int .u8 (mm : Int)] 5)) := (Below.refl _ _).alloc (Nat.le_refl _) _
          have own8 := OwB.up own7 hbn
          have hb8 := bnx hS hbn
          have HX := Lib.hid (show (sbL (nm ++ ⟨#[32]⟩) ++ (W.take k).flatMap emL) ++ sbL (wz ++ ⟨#[32]⟩ ++ s ++ ⟨#[32]⟩) ++ [UInt8.ofNat mm] = sbL (nm ++ ⟨#[32]⟩) ++ (W.take (k + 1)).flatMap emL from by
            rw [Hfl.out, Hel.out, if_pos hm0]
            simp)
          clear own7 hbn hS
          go_wp2_with (at_builtin; refine stop_ ?_)
          generalize (w7.alloc (.cells #[.int .u8 (mm : Int)] 5)) = w8 at *
          refine go_ (wpList_appB (base := w2.heap.size) (n := n4) Try.underlying36 Hi1.out rfl own8 rfl hrd (by omega) rfl (bv_one _) (k := n4 + 1) rfl (by rw [← bv_app, HX.out]) (by unfold maxLen; omega) (by omega) hb8.size ?_)
          intro A9 c9 w9 own9 hbl hsz9
          have hb9 := hbl hb8 (Nat.le_refl _)
          clear own8 hrd hb8 hbl
          go_wp2
          go_roundw
          case rel => exact ⟨k + 1, n4 + 1, c9, A9, by omega, by go_num, rfl, by omega, hb9, Lib.hid own9⟩
          case measure => simp [intOf]; omega
        · have HX := Lib.hid (show (sbL (nm ++ ⟨#[32]⟩) ++ (W.take k).flatMap emL) ++ sbL (wz ++ ⟨#[32]⟩ ++ s ++ ⟨#[32]⟩) = sbL (nm ++ ⟨#[32]⟩) ++ (W.take (k + 1)).flatMap emL from by
            rw [Hfl.out, Hel.out, if_neg hm0]
            simp)
          rw [HX.out] at own7
          go_wp2
          go_roundw
          case rel => exact ⟨k + 1, n4, c7, A7, by omega, by go_num, rfl, by omega, hS, Lib.hid own7⟩
          case measure => simp [intOf]; omega
      · obtain rfl : k = n := by omega
        have hWt : W.take k = W := List.take_of_length_le (by rw [Hll.out]; exact Nat.le_refl _)
        have hrd := Hown.out.rd
        rw [hWt] at hrd
        have hex : sbL (nm ++ ⟨#[32]⟩) ++ W.flatMap emL = exB (nm, L) := by show _ = sbL (nm ++ ⟨#[32]⟩) ++ (stb PtT.sz L).flatMap emL; rw [← HW.out]
        rw [hex] at hrd
        have hdl : moreN 65535 (exB (nm, L)) < 65536 := moreN_lt _ (by omega)
        have hbf := bnx hb2 hb
        have hv := Hv.out
        clear hex hWt Hown
        generalize exB (nm, L) = X at *
        go_wp2_with fail
        go_fit (rof_any A3 n3 c3 _ X wr hrd)
        rintro e w9 ⟨rfl, rfl⟩
        generalize moreN 65535 X = d at *
        have hx := u8_xor_nat (d % 256) (d / 256) (by omega) (by omega)
        have Hv2 := Lib.hid hv
        clear hv hrd
        go_wp2
        go_ret
        refine ⟨?_, hbf⟩
        rw [Hv2.out, ← hx]
        rfl

end Go.Proofs.Ytonejdjhdjckjaa
