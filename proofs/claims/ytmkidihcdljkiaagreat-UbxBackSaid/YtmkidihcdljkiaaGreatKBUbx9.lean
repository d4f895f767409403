/-
  Encode and Decode, the program's and the document's, walked (printed by gen_ubx9.py).
-/
import Derived.Test.YtmkidihcdljkiaaGreatKBUbx7
import Derived.Test.YtmkidihcdljkiaaGreatKBGSU
import Derived.Test.YtmkidihcdljkiaaGreatKBVal6
import Derived.Test.YtmkidihcdljkiaaGreatKBUbx3
import Derived.Test.YtmkidihcdljkiaaGreatKBGFB
import Derived.Test.YtmkidihcdljkiaaGreatKBFrPut
import Derived.Test.YtmkidihcdljkiaaGreatKBGA
set_option linter.unusedSimpArgs false
set_option linter.unusedVariables false
namespace Go.Proofs.YtmkidihcdljkiaaGreat
open Go.RowKit NumLaw
attribute [local go_sem] Addr.add_mid

set_option maxRecDepth 10000 in
set_option maxHeartbeats 4000000 in
theorem ubEncode_any (V : UbV) (a : UbA) (h : UbOk V) (w : World) (hr : UbR w w.heap.size V a) :
    Calls Tryz.prog 10 #[.agg (ubL V a).toArray] w (RetPS w (ubEP V) (ubEE V)) := by
  obtain ⟨oE, hoE⟩ : ∃ oE, oE = ubE V := ⟨_, rfl⟩
  obtain ⟨FC, hFC⟩ : ∃ FC, FC = ubFC V := ⟨_, rfl⟩
  obtain ⟨FI, hFI⟩ : ∃ FI, FI = ubFI V := ⟨_, rfl⟩
  obtain ⟨FB, hFB⟩ : ∃ FB, FB = ubFB V := ⟨_, rfl⟩
  obtain ⟨EP, hEP⟩ : ∃ EP, EP = ubEP V := ⟨_, rfl⟩
  obtain ⟨EE, hEE⟩ : ∃ EE, EE = ubEE V := ⟨_, rfl⟩
  have H0 : Hid (oE = 0 → putB FC FI FB = EP ∧ putE FC FI FB.length = EE) := Lib.hid (fun h0 => by
    rw [hoE] at h0
    rw [hFC, hFI, hFB, hEP, hEE]
    unfold ubFC ubFI ubFB ubEP ubEE
    rw [if_pos h0, if_pos h0, if_pos h0, if_pos h0, if_pos h0]
    exact ⟨rfl, rfl⟩)
  have H1 : Hid (oE ≠ 0 → EP = [] ∧ EE = oE) := Lib.hid (fun h0 => by
    rw [hEP, hEE, hoE]
    rw [hoE] at h0
    unfold ubEP ubEE
    rw [if_neg h0, if_neg h0]
    exact ⟨rfl, rfl⟩)
  have Hput := Lib.hid (fun w hr => ubPut_any V a h w hr)
  rw [← hoE, ← hFC, ← hFI, ← hFB] at Hput
  rw [← hEP, ← hEE]
  have hb := (Below.refl w.heap.size w).alloc (Nat.le_refl _) (.cells (ubL V a).toArray 35)
  have hx : UbB (w.alloc (.cells (ubL V a).toArray 35)) w.heap.size V a := heap_alloc_new _ _
  have Hsz := Lib.hid (ub_size V a h.pl h.dl)
  have hr1 := (hr.up hb).more hb.size
  clear hoE hFC hFI hFB hEP hEE hr h
  go_enter Tryz.func10, Tryz.ntmps10
  go_wp2_with (first | (with_reducible refine stop_loadT 35 ?_) | (with_reducible refine stop_storeT 35 ?_) | (with_reducible refine stop_loadG 35 ?_))
  generalize (w.alloc (.cells (ubL V a).toArray 35)) = w1 at *
  refine go_ (wpList_load_row rfl _ _ rfl w.heap.size rfl _ _ _ _ hx Tryz.underlying35 rfl Hsz.out ?_)
  go_wp2_with fail
  go_fit (Hput.out w1 hr1)
  rintro e w2 ⟨A2, n2, c2, rfl, hr2, hb2⟩
  replace hb := bnx hb hb2
  have hb3 := (Below.refl w2.heap.size w2).alloc (Nat.le_refl _) (.cells #[.int .i64 FC, .int .i64 FI, .slice A2 n2 c2] 40)
  have hr3 := hr2.up hb3
  have hbf := bnx hb hb3
  have hs3 := hb3.size
  clear hb2 hx hr1 hr2 hb3 hb
  by_cases he : oE = 0
  · have he' : (oE : Int) = 0 := by omega
    obtain ⟨k1, k2⟩ := H0.out he
    have K1 := Lib.hid k1
    have K2 := Lib.hid k2
    clear k1 k2
    go_wp2_with fail
    generalize (w2.alloc (.cells #[.int .i64 FC, .int .i64 FI, .slice A2 n2 c2] 40)) = w3 at *
    go_fit (frPut_any FC FI A2 n2 c2 w2.heap.size FB w3 hr3 hs3)
    rintro e w4 ⟨A4, n4, c4, rfl, hown, hb4⟩
    rw [K1.out] at hown
    rw [K2.out]
    replace hown := own_mono hown hbf.size
    have hbz := bnx hbf hb4
    clear hb4 hbf hr3 hs3
    go_wp2
    go_ret2
    exact ⟨A4, n4, c4, rfl, hown, hbz⟩
  · have he' : ¬ (oE : Int) = 0 := by omega
    obtain ⟨rfl, rfl⟩ := H1.out he
    go_wp2
    go_ret2
    exact ⟨none, 0, 0, rfl, World.ownsRow_nil _ _ _ _, hbf⟩

/-- A message, how many bytes it has, and an error; its rows are read. -/
def RetUD (w : World) (V : UbV) (n err : Nat) (e : Ending) (w' : World) : Prop :=
  ∃ a, e = .returned (.tuple #[.agg (ubL V a).toArray, .int .i64 (n : Int), .int .i64 (err : Int)]) ∧ UbR w' w'.heap.size V a ∧ Below w.heap.size w w'
theorem results_cellU3 {P : Program} {fn : Func} {p q r : Tmp} {ty : TypeId} (h : fn.results = #[.cell p ty, .tmp q, .tmp r]) (tmps : Array Value) (w : World) (g : Nat) (t : TypeId) (cs : Array Value) (fr : Nat × Nat) (d : TypeDesc)
    (hp : tmps.getD p undef = .pointer (some ⟨g, 0, none⟩)) (hg : w.heap[g]? = some (.cells cs t fr))
    (hu : P.underlying ty = some d) (hd : (match d with | .struct _ | .array _ _ => true | _ => false) = true) (hi : (P.info? ty).map (·.size) = some cs.size) :
    (results fn tmps).run P w = .ok (.tuple #[.agg cs, tmps.getD q undef, tmps.getD r undef]) w := by
  have hp' : tmps[p]?.getD undef = .pointer (some ⟨g, 0, none⟩) := by simpa using hp
  simp [results, h, hp', asAddr, run_loadVar_row w g t ty cs fr d hg hu hd hi]
theorem ubT_lens (c i : Int) (b : List UInt8) : (ubT c i b).p.length = 32 ∧ (ubT c i b).d.length = 8 := by
  unfold ubT
  split
  · exact ubTV_lens c i b
  · exact ⟨rfl, rfl⟩
theorem frTake_len (b : List UInt8) : (frTake b).p.length ≤ 1000000 := by
  by_cases h : (frTake b).err = 0
  · have := (frTake_back b h).1
    unfold putE at this
    split at this
    · cases this
    · split at this
      · cases this
      · omega
  · rw [(frTake_none b h).2.2.1]; simp
theorem ubDV_lens (b : List UInt8) : (ubDV b).p.length = 32 ∧ (ubDV b).d.length = 8 := by
  unfold ubDV
  split
  · exact ubT_lens _ _ _
  · exact ⟨rfl, rfl⟩

set_option maxRecDepth 10000 in
set_option maxHeartbeats 8000000 in
theorem ubDecode_any (A : Option Addr) (n c B : Nat) (b : List UInt8) (w : World) (h : Rd w B 1 A n c (bv b)) (hB : B ≤ w.heap.size) (hn : n ≤ 1000000) :
    Calls Tryz.prog 19 #[.slice A n c] w (RetUD w (ubDV b) (ubDN b) (ubDE b)) := by
  have hfr := frTake_len b
  obtain ⟨T, hT⟩ : ∃ T, T = frTake b := ⟨_, rfl⟩
  obtain ⟨DV, hDV⟩ : ∃ DV, DV = ubDV b := ⟨_, rfl⟩
  obtain ⟨DN, hDN⟩ : ∃ DN, DN = ubDN b := ⟨_, rfl⟩
  obtain ⟨DE, hDE⟩ : ∃ DE, DE = ubDE b := ⟨_, rfl⟩
  have HL : Hid (DV.p.length = 32 ∧ DV.d.length = 8) := Lib.hid (by rw [hDV]; exact ubDV_lens b)
  have H0 : Hid (T.err = 0 → ubT T.c T.i T.p = DV ∧ ubTE T.c T.i T.p = DE ∧ T.size = DN) := Lib.hid (fun h0 => by
    rw [hT] at h0 ⊢
    rw [hDV, hDE, hDN]
    unfold ubDV ubDE ubDN
    rw [if_pos h0, if_pos h0, if_pos h0]
    exact ⟨rfl, rfl, rfl⟩)
  have H1 : Hid (T.err ≠ 0 → DV = ub0 ∧ DE = T.err ∧ DN = 0) := Lib.hid (fun h0 => by
    rw [hT] at h0 ⊢
    rw [hDV, hDE, hDN]
    unfold ubDV ubDE ubDN
    rw [if_neg h0, if_neg h0, if_neg h0]
    exact ⟨rfl, rfl, rfl⟩)
  have Hfr : Hid (T.p.length ≤ 1000000) := Lib.hid (by rw [hT]; exact hfr)
  have Htk := Lib.hid (fun w h hB => frTake_any A n c B b w h hB hn)
  rw [← hT] at Htk
  rw [← hDV, ← hDN, ← hDE]
  have x0 := heap_alloc_new w (.cells #[.int .i64 0, .int .i64 0, .int .i64 0, .int .i64 0, .int .i64 0, .int .i64 0, .int .i64 0, .int .i64 0, .int .i64 0, .int .i64 0, .int .i64 0, .int .i64 0, .int .i64 0, .int .i64 0, .int .i64 0, .int .i64 0, .int .i64 0, .int .i64 0, .int .i64 0, .int .i64 0, .int .i64 0, .int .i64 0, .int .i64 0, .int .i64 0, .int .i64 0, .int .i64 0, .int .i64 0, .int .i64 0, .int .i64 0, .int .i64 0, .int .i64 0, .int .i64 0, .int .i64 0, .int .i64 0, .slice none 0 0, .int .i64 0, .int .i64 0, .int .i64 0, .int .i64 0, .int .i64 0, .int .i64 0, .int .i64 0, .int .i64 0, .bool false, .int .i64 0, .int .i64 0, .int .i64 0, .slice none 0 0] 35)
  have hb := (Below.refl w.heap.size w).alloc (Nat.le_refl _) (.cells #[.int .i64 0, .int .i64 0, .int .i64 0, .int .i64 0, .int .i64 0, .int .i64 0, .int .i64 0, .int .i64 0, .int .i64 0, .int .i64 0, .int .i64 0, .int .i64 0, .int .i64 0, .int .i64 0, .int .i64 0, .int .i64 0, .int .i64 0, .int .i64 0, .int .i64 0, .int .i64 0, .int .i64 0, .int .i64 0, .int .i64 0, .int .i64 0, .int .i64 0, .int .i64 0, .int .i64 0, .int .i64 0, .int .i64 0, .int .i64 0, .int .i64 0, .int .i64 0, .int .i64 0, .int .i64 0, .slice none 0 0, .int .i64 0, .int .i64 0, .int .i64 0, .int .i64 0, .int .i64 0, .int .i64 0, .int .i64 0, .int .i64 0, .bool false, .int .i64 0, .int .i64 0, .int .i64 0, .slice none 0 0] 35)
  have hres : UbB (w.alloc (.cells #[.int .i64 0, .int .i64 0, .int .i64 0, .int .i64 0, .int .i64 0, .int .i64 0, .int .i64 0, .int .i64 0, .int .i64 0, .int .i64 0, .int .i64 0, .int .i64 0, .int .i64 0, .int .i64 0, .int .i64 0, .int .i64 0, .int .i64 0, .int .i64 0, .int .i64 0, .int .i64 0, .int .i64 0, .int .i64 0, .int .i64 0, .int .i64 0, .int .i64 0, .int .i64 0, .int .i64 0, .int .i64 0, .int .i64 0, .int .i64 0, .int .i64 0, .int .i64 0, .int .i64 0, .int .i64 0, .slice none 0 0, .int .i64 0, .int .i64 0, .int .i64 0, .int .i64 0, .int .i64 0, .int .i64 0, .int .i64 0, .int .i64 0, .bool false, .int .i64 0, .int .i64 0, .int .i64 0, .slice none 0 0] 35)) w.heap.size ub0 ua0 := x0
  have hr := h.up (hb.mono hB)
  clear hT hDV hDN hDE x0 h hfr
  obtain ⟨tc, ti, tp, ts, te⟩ := T
  simp only at H0 H1 Hfr
  go_enter Tryz.func19, Tryz.ntmps19
  go_wp2_with fail
  generalize (w.alloc (.cells #[.int .i64 0, .int .i64 0, .int .i64 0, .int .i64 0, .int .i64 0, .int .i64 0, .int .i64 0, .int .i64 0, .int .i64 0, .int .i64 0, .int .i64 0, .int .i64 0, .int .i64 0, .int .i64 0, .int .i64 0, .int .i64 0, .int .i64 0, .int .i64 0, .int .i64 0, .int .i64 0, .int .i64 0, .int .i64 0, .int .i64 0, .int .i64 0, .int .i64 0, .int .i64 0, .int .i64 0, .int .i64 0, .int .i64 0, .int .i64 0, .int .i64 0, .int .i64 0, .int .i64 0, .int .i64 0, .slice none 0 0, .int .i64 0, .int .i64 0, .int .i64 0, .int .i64 0, .int .i64 0, .int .i64 0, .int .i64 0, .int .i64 0, .bool false, .int .i64 0, .int .i64 0, .int .i64 0, .slice none 0 0] 35)) = w1 at *
  go_fit (Htk.out w1 hr (Nat.le_trans hB hb.size))
  rintro e w2 ⟨A2, n2, c2, rfl, hr2, hb2⟩
  replace hres := hres.old hb2 (blk_lt hres)
  replace hb := bnx hb hb2
  have hln := hr2.blen
  have hb3 := (Below.refl w2.heap.size w2).alloc (Nat.le_refl _) (.cells #[.int .i64 (tc : Int), .int .i64 (ti : Int), .slice A2 n2 c2] 40)
  have hr3 := hr2.up hb3
  have hres3 := hres.old hb3 (blk_lt hres)
  have hbf := bnx hb hb3
  have hs3 := hb3.size
  clear hb2 hr hb3 hres hr2 hb
  by_cases he : te = 0
  · have he' : (te : Int) = 0 := by omega
    obtain ⟨k1, k2, k3⟩ := H0.out he
    have K1 := Lib.hid k1
    have K2 := Lib.hid k2
    have K3 := Lib.hid k3
    clear k1 k2 k3
    go_wp2_with fail
    generalize (w2.alloc (.cells #[.int .i64 (tc : Int), .int .i64 (ti : Int), .slice A2 n2 c2] 40)) = w3 at *
    go_fit (ubTake_any tc ti A2 n2 c2 w2.heap.size tp w3 hr3 hs3 (by have := Hfr.out; omega))
    rw [K1.out, K2.out]
    rintro e w4 ⟨a4, rfl, hr4, hf4, hb4⟩
    have hg3 := blk_lt hres3
    have hres := hres3.old hb4 hg3
    have hb := bnx hbf hb4
    have y1 := heap_alloc_new w4 (.cells #[.int .i64 0, .int .i64 0, .int .i64 0, .int .i64 0, .int .i64 0, .int .i64 0, .int .i64 0, .int .i64 0, .int .i64 0, .int .i64 0, .int .i64 0, .int .i64 0, .int .i64 0, .int .i64 0, .int .i64 0, .int .i64 0, .int .i64 0, .int .i64 0, .int .i64 0, .int .i64 0, .int .i64 0, .int .i64 0, .int .i64 0, .int .i64 0, .int .i64 0, .int .i64 0, .int .i64 0, .int .i64 0, .int .i64 0, .int .i64 0, .int .i64 0, .int .i64 0, .int .i64 0, .int .i64 0, .slice none 0 0, .int .i64 0, .int .i64 0, .int .i64 0, .int .i64 0, .int .i64 0, .int .i64 0, .int .i64 0, .int .i64 0, .bool false, .int .i64 0, .int .i64 0, .int .i64 0, .slice none 0 0] 35)
    have hb5 := (Below.refl w4.heap.size w4).alloc (Nat.le_refl _) (.cells #[.int .i64 0, .int .i64 0, .int .i64 0, .int .i64 0, .int .i64 0, .int .i64 0, .int .i64 0, .int .i64 0, .int .i64 0, .int .i64 0, .int .i64 0, .int .i64 0, .int .i64 0, .int .i64 0, .int .i64 0, .int .i64 0, .int .i64 0, .int .i64 0, .int .i64 0, .int .i64 0, .int .i64 0, .int .i64 0, .int .i64 0, .int .i64 0, .int .i64 0, .int .i64 0, .int .i64 0, .int .i64 0, .int .i64 0, .int .i64 0, .int .i64 0, .int .i64 0, .int .i64 0, .int .i64 0, .slice none 0 0, .int .i64 0, .int .i64 0, .int .i64 0, .int .i64 0, .int .i64 0, .int .i64 0, .int .i64 0, .int .i64 0, .bool false, .int .i64 0, .int .i64 0, .int .i64 0, .slice none 0 0] 35)
    have hg4 := blk_lt hres
    replace hres := hres.old hb5 hg4
    replace hr4 := hr4.up hb5
    replace hb := bnx hb hb5
    have hf5 : ∀ p, a4.A = some p ∨ a4.A' = some p → p.block ≠ w.heap.size := fun p hp => by have := hf4 p hp; omega
    clear hb4 hbf hr3 hs3 hb5 hres3 hf4
    go_wp2_with (first | (with_reducible refine stop_loadT 35 ?_) | (with_reducible refine stop_storeT 35 ?_) | (with_reducible refine stop_loadG 35 ?_))
    generalize (w4.alloc (.cells #[.int .i64 0, .int .i64 0, .int .i64 0, .int .i64 0, .int .i64 0, .int .i64 0, .int .i64 0, .int .i64 0, .int .i64 0, .int .i64 0, .int .i64 0, .int .i64 0, .int .i64 0, .int .i64 0, .int .i64 0, .int .i64 0, .int .i64 0, .int .i64 0, .int .i64 0, .int .i64 0, .int .i64 0, .int .i64 0, .int .i64 0, .int .i64 0, .int .i64 0, .int .i64 0, .int .i64 0, .int .i64 0, .int .i64 0, .int .i64 0, .int .i64 0, .int .i64 0, .int .i64 0, .int .i64 0, .slice none 0 0, .int .i64 0, .int .i64 0, .int .i64 0, .int .i64 0, .int .i64 0, .int .i64 0, .int .i64 0, .int .i64 0, .bool false, .int .i64 0, .int .i64 0, .int .i64 0, .slice none 0 0] 35)) = w5 at *
    generalize w4.heap.size = g5 at *
    refine go_ (wpList_store_row rfl _ _ _ rfl g5 (ubL DV a4).toArray rfl rfl _ _ y1 (ub_size _ _ HL.out.1 HL.out.2) (ub_sizes (V := ub0) (a := ua0) rfl rfl HL.out.1 HL.out.2) (ub_one _ _) ?_)
    have hm : UbB _ g5 DV a4 := setRow_heap _ _ _ (ubL DV a4).toArray _ _ y1
    have haw : Aw (fun k => k = g5) w5 (w5.setRow g5 (ubL DV a4).toArray) := aw_setRow20 _ _
    replace hres : UbB _ w.heap.size ub0 ua0 := haw.keep hres (by omega)
    replace hr4 := (hr4.up (below_aw20 (Below.refl g5 w5) haw (fun k hk => by rw [hk]; exact Nat.le_refl _) (Nat.le_of_lt (blk_lt y1)))).more (Nat.le_of_lt (blk_lt hm))
    replace hb := below_aw20 hb haw (fun k hk => by rw [hk]; omega) hb.size
    generalize w5.setRow g5 (ubL DV a4).toArray = w6 at *
    clear haw y1
    go_wp2_with (first | (with_reducible refine stop_loadT 35 ?_) | (with_reducible refine stop_storeT 35 ?_) | (with_reducible refine stop_loadG 35 ?_))
    refine go_ (wpList_load_row rfl _ _ rfl g5 rfl _ _ _ _ hm Tryz.underlying35 rfl (ub_size _ _ HL.out.1 HL.out.2) ?_)
    go_wp2_with (first | (with_reducible refine stop_loadT 35 ?_) | (with_reducible refine stop_storeT 35 ?_) | (with_reducible refine stop_loadG 35 ?_))
    refine go_ (wpList_store_row rfl _ _ _ rfl w.heap.size (ubL DV a4).toArray rfl rfl _ _ hres (ub_size _ _ HL.out.1 HL.out.2) (ub_sizes rfl rfl HL.out.1 HL.out.2) (ub_one _ _) ?_)
    have hres2 := setRow_heap _ _ _ (ubL DV a4).toArray _ _ hres
    have haw : Aw (fun k => k = w.heap.size) w6 (w6.setRow w.heap.size (ubL DV a4).toArray) := aw_setRow20 _ _
    have hb6 := below_aw20 hb haw (fun k hk => by rw [hk]; exact Nat.le_refl _) hb.size
    have hr6 := ubr_aw hr4 haw hf5
    generalize w6.setRow w.heap.size (ubL DV a4).toArray = w7 at *
    go_wp2
    exact bodyPost_ret (results_cellU3 rfl _ _ w.heap.size _ _ _ _ rfl hres2 Tryz.underlying35 rfl (ub_size _ _ HL.out.1 HL.out.2)) rfl ⟨a4, by rw [← K3.out]; rfl, hr6, hb6⟩
  · have he' : ¬ (te : Int) = 0 := by omega
    obtain ⟨rfl, rfl, rfl⟩ := H1.out he
    go_wp2_with (first | (with_reducible refine stop_loadT 35 ?_) | (with_reducible refine stop_storeT 35 ?_) | (with_reducible refine stop_loadG 35 ?_))
    generalize (w2.alloc (.cells #[.int .i64 (tc : Int), .int .i64 (ti : Int), .slice A2 n2 c2] 40)) = w3 at *
    refine go_ (wpList_store_row rfl _ _ _ rfl w.heap.size (ubL ub0 ua0).toArray rfl rfl _ _ hres3 (ub_size ub0 ua0 rfl rfl) (ub_sizes rfl rfl rfl rfl) (ub_one ub0 ua0) ?_)
    have hres2 := setRow_heap _ _ _ (ubL ub0 ua0).toArray _ _ hres3
    have haw : Aw (fun k => k = w.heap.size) w3 (w3.setRow w.heap.size (ubL ub0 ua0).toArray) := aw_setRow20 _ _
    have hb6 := below_aw20 hbf haw (fun k hk => by rw [hk]; exact Nat.le_refl _) hbf.size
    generalize w3.setRow w.heap.size (ubL ub0 ua0).toArray = w6 at *
    go_wp2
    exact bodyPost_ret (results_cellU3 rfl _ _ w.heap.size _ _ _ _ rfl hres2 Tryz.underlying35 rfl (ub_size ub0 ua0 rfl rfl)) rfl ⟨ua0, rfl, UbR.nil _ _ _ rfl rfl, hb6⟩

end Go.Proofs.YtmkidihcdljkiaaGreat
