/-
  SchemaTells walked (printed by gen_sch6.py).
-/
import Derived.Test.YtonejdjhdjckjaaKSch13
import Derived.Test.YtonejdjhdjckjaaKSch14
import Derived.Test.YtonejdjhdjckjaaKGI
set_option linter.unusedSimpArgs false
set_option linter.unusedVariables false
namespace Go.Proofs.Ytonejdjhdjckjaa
open Go.RowKit NumLaw
attribute [local go_sem] Addr.add_mid
attribute [-go_sem] run_eql_struct run_neq_struct

set_option maxRecDepth 20000 in
set_option maxHeartbeats 8000000 in
theorem schematells_any (id : Int) (A : Option Addr) (n c : Nat) (L : List PtT) (w : World) (hi : -9223372036854775808 ≤ id ∧ id ≤ 9223372036854775807) (h : RdP w w.heap.size A n c L) (hq : ∀ x ∈ L, PtB x) :
    Calls Try.prog 4 #[.int .i64 id, .slice A n c] w fun e w' => e = .returned (.bool true) ∧ Below w.heap.size w w' := by
  clear hi hq
  have hmx := h.2.2.2.1
  have hle := h.2.2.1
  unfold maxLen at hmx
  by_cases h60 : 60 < n
  · have h60' : (60 : Int) < (n : Int) := by omega
    go_enter Try.func4, Try.ntmps4
    go_wp2_with fail
    go_fit (knows31 _)
    rintro e w1 ⟨rfl, hb⟩
    go_wp2
    go_ret
    exact ⟨rfl, hb⟩
  have h60' : ¬ (60 : Int) < (n : Int) := by omega
  have h1 := fun w => name_any id w
  have h2 := fun w => qname_any id w
  have h3 := fun w => parts31_any id w
  have h4 := fun w => qparts_any id w
  have h5 := fun w => count_any id w
  have h6 := fun w => qcount_any id w
  have h7 := fun w => width_any id w
  have h8 := fun w => qwidth_any id w
  have h9 := fun w => extra_any id w
  have h10 := fun w => qextra_any id w
  generalize frm id = p at *
  have H1 := Lib.hid h1
  have H2 := Lib.hid h2
  have H3 := Lib.hid h3
  have H4 := Lib.hid h4
  have H5 := Lib.hid h5
  have H6 := Lib.hid h6
  have H7 := Lib.hid h7
  have H8 := Lib.hid h8
  have H9 := Lib.hid h9
  have H10 := Lib.hid h10
  clear h1 h2 h3 h4 h5 h6 h7 h8 h9 h10
  obtain ⟨nm, M⟩ := p
  generalize cntS (nm, M).2 = cn at *
  generalize wdS (nm, M).2 = wn at *
  generalize exS (nm, M) = xn at *
  go_enter Try.func4, Try.ntmps4
  go_wp2_with fail
  go_fit (knows31 _)
  rintro e w1 ⟨rfl, hb1⟩
  replace h : RdP w1 w1.heap.size A n c L := RdR.more (RdR.up h hb1) hb1.size
  go_wp2_with fail
  go_fit (H1.out w1)
  rintro e w2 ⟨rfl, hbx⟩
  have hb2 := bnx hb1 hbx
  replace h : RdP w2 w2.heap.size A n c L := RdR.more (RdR.up h hbx) hbx.size
  clear hbx hb1
  go_wp2_with fail
  go_fit (H2.out w2)
  rintro e w3 ⟨rfl, rfl⟩
  go_wp2_with fail
  go_fit (H3.out w2)
  rintro e w3 ⟨A3, n3, c3, rfl, hr3, hbx⟩
  have hb3 := bnx hb2 hbx
  replace h : RdP w3 w3.heap.size A n c L := RdR.more (RdR.up h hbx) hbx.size
  clear hbx hb2
  go_wp2_with fail
  go_fit (H4.out w3)
  rintro e w4 ⟨A4, n4, c4, rfl, hr4, hbx⟩
  have hb4 := bnx hb3 hbx
  replace h : RdP w4 w4.heap.size A n c L := RdR.more (RdR.up h hbx) hbx.size
  replace hr3 : RdP w4 w4.heap.size A3 n3 c3 M := RdR.more (RdR.up hr3 hbx) hbx.size
  clear hbx hb3
  go_wp2_with fail
  go_fit (qsame31_any A3 n3 c3 A4 n4 c4 _ _ w4 hr3 hr4)
  rintro e w5 ⟨rfl, hbx⟩
  rw [show decide (M = (nm, M).2) = true from decide_eq_true rfl]
  have hb5 := bnx hb4 hbx
  replace h : RdP w5 w5.heap.size A n c L := RdR.more (RdR.up h hbx) hbx.size
  clear hbx hb4 hr3 hr4
  go_wp2_with fail
  go_fit (wire31_any A n c L w5 h (by omega))
  rintro e w6 ⟨A6, c6, rfl, hr6, hbx⟩
  have hb6 := bnx hb5 hbx
  replace h : RdP w6 w6.heap.size A n c L := RdR.more (RdR.up h hbx) hbx.size
  clear hbx hb5
  go_wp2_with fail
  go_fit (qwire31_any A n c L w6 h (by omega))
  rintro e w7 ⟨A7, c7, rfl, hr7, hbx⟩
  have hb7 := bnx hb6 hbx
  replace hr6 : RdP w7 w7.heap.size A6 n c6 (stb PtT.sz L) := RdR.more (RdR.up hr6 hbx) hbx.size
  clear hbx hb6 h
  go_wp2_with fail
  go_fit (qsame31_any A6 n c6 A7 n c7 _ _ w7 hr6 hr7)
  rintro e w8 ⟨rfl, hbx⟩
  rw [show decide (stb PtT.sz L = stb PtT.sz L) = true from decide_eq_true rfl]
  have hb8 := bnx hb7 hbx
  clear hbx hb7 hr6 hr7
  go_wp2_with fail
  go_fit (H5.out w8)
  rintro e w9 ⟨rfl, hbx⟩
  have hb9 := bnx hb8 hbx
  clear hbx hb8
  go_wp2_with fail
  go_fit (H6.out w9)
  rintro e w10 ⟨rfl, hbx⟩
  have hb10 := bnx hb9 hbx
  clear hbx hb9
  go_wp2_with fail
  go_fit (H7.out w10)
  rintro e w11 ⟨rfl, hbx⟩
  have hb11 := bnx hb10 hbx
  clear hbx hb10
  go_wp2_with fail
  go_fit (H8.out w11)
  rintro e w12 ⟨rfl, hbx⟩
  have hb12 := bnx hb11 hbx
  clear hbx hb11
  go_wp2_with fail
  go_fit (H9.out w12)
  rintro e w13 ⟨rfl, hbx⟩
  have hb13 := bnx hb12 hbx
  clear hbx hb12
  go_wp2_with fail
  go_fit (H10.out w13)
  rintro e w14 ⟨rfl, hbx⟩
  have hb14 := bnx hb13 hbx
  clear hbx hb13
  go_wp2
  go_ret
  exact ⟨by simp, hb14⟩

end Go.Proofs.Ytonejdjhdjckjaa
